import Derived.Test.YtnadgcdkcabdoaaMPrefixLeast1
set_option linter.unusedVariables false
set_option linter.unusedSimpArgs false
namespace Go.Proofs.Ytnadgcdkcabdoaa.Tab
open Go Go.RowKit Go.Proofs.YtnadgcdkcabdoaaW.PrintWords Go.Proofs.YtnadgcdkcabdoaaW.PrintLast Go.Proofs.YtnadgcdkcabdoaaW.PrintMore Go.Proofs.Ytnadgcdkcabdoaa.Aid Go.Proofs.Ytnadgcdkcabdoaa.U
abbrev Ln := S32
theorem drop_rdL {l : List Ln} {i : Nat} (h : i < l.length) : l.drop i = rd_T32 l (i : Int) :: l.drop (i + 1) := by
  rw [List.drop_eq_getElem_cons h]
  simp [rd_T32, List.getD_eq_getElem?_getD, List.getElem?_eq_getElem h]
theorem rdL_mem {l : List Ln} {i : Nat} (h : i < l.length) : rd_T32 l (i : Int) ∈ l := by
  have h1 := drop_rdL h
  exact List.mem_of_mem_drop (h1 ▸ List.mem_cons_self)
/-- A line in range. -/
def lineB (x : Ln) : Bool := decide (0 ≤ x.f0 ∧ x.f0 ≤ 15 ∧ 0 ≤ x.f1 ∧ x.f1 ≤ 20 ∧ -1048576 ≤ x.f2 ∧ x.f2 ≤ 1048576 ∧ 0 ≤ x.f3 ∧ x.f3 ≤ 2 ∧ (x.f3 = 2 → x.f1 = 0 ∧ x.f2 = 0))
theorem right_eq (x : Ln) : incunableref04_right.f x.f0 x.f1 x.f2 x.f3 = some (lineB x) := by
  unfold incunableref04_right.f lineB
  repeat' split
  all_goals first
    | (congr 1; symm; apply decide_eq_false; omega)
    | (congr 1; symm; apply decide_eq_true; omega)
    | (congr 1; by_cases h : x.f2 = 0
       · rw [beq_iff_eq.2 h]; symm; apply decide_eq_true; omega
       · rw [beq_eq_false_iff_ne.2 h]; symm; apply decide_eq_false; omega)
/-- What a line takes of 2^15. -/
def wS (x : Ln) : Int := if x.f0 = 0 then 0 else 2 ^ (15 - x.f0).toNat
def uS (x : Ln) : Int := if x.f0 = 0 then 0 else 1
def nS (x : Ln) : Int := if x.f0 = 0 then 0 else if x.f3 = 2 then 1 else 0
def sumI (f : Ln → Int) : List Ln → Int
  | [] => 0
  | x :: l => f x + sumI f l
theorem shl1 : ∀ n, n < 16 → shl .i64 1 (n : Nat) = 2 ^ n := by decide
theorem shl_w {x : Ln} (h : lineB x = true) : shl .i64 1 (wrap64 (15 - x.f0)) = 2 ^ (15 - x.f0).toNat := by
  have h1 := of_decide_eq_true h
  rw [wrap_id (by omega) (by omega)]
  obtain ⟨n, hn⟩ : ∃ n : Nat, 15 - x.f0 = n := ⟨(15 - x.f0).toNat, by omega⟩
  rw [hn, Int.toNat_natCast]
  exact shl1 n (by omega)
theorem pow15 : ∀ n, n < 16 → (1 : Int) ≤ 2 ^ n ∧ (2 : Int) ^ n ≤ 32768 := by decide
theorem wS_range {x : Ln} (h : lineB x = true) : 0 ≤ wS x ∧ wS x ≤ 32768 := by
  have h1 := of_decide_eq_true h
  unfold wS
  split
  · omega
  · have := pow15 (15 - x.f0).toNat (by omega); omega
theorem share_loop (t : List Ln) (hn : t.length ≤ 64) (hv : ∀ x ∈ t, lineB x = true) : ∀ (d i : Nat) (a b c : Int), i + d = t.length → 0 ≤ a → a ≤ 32768 * i → 0 ≤ b → b ≤ i → 0 ≤ c → c ≤ i →
    Ev (fun k => incunableref04_share.l0 k a b c t (t.length : Int) (i : Int)) (a + sumI wS (t.drop i), b + sumI uS (t.drop i), c + sumI nS (t.drop i))
  | 0, i, a, b, c, hd, _, _, _, _, _, _ => by
    refine ev_succ ?_
    simp only [incunableref04_share.l0]
    refine ev_eq (ev_neg (by omega) (Ev.now _)) ?_
    rw [List.drop_of_length_le (by omega)]
    simp [sumI]
  | d + 1, i, a, b, c, hd, h1, h2, h3, h4, h5, h6 => by
    have hi : i < t.length := by omega
    have hl := hv _ (rdL_mem hi)
    have hl2 := of_decide_eq_true hl
    have hw := wS_range hl
    rw [drop_rdL hi]
    obtain ⟨x, hx⟩ : ∃ x, rd_T32 t (i : Int) = x := ⟨_, rfl⟩
    refine ev_succ ?_
    simp only [incunableref04_share.l0, incunableref04_used.f, Option.bind_some, hx]
    rw [hx] at hl hl2 hw
    refine ev_pos (by omega) (ev_pos (by omega) (ev_pos (by omega) ?_))
    rw [wrap_id (n := (i : Int) + 1) (by omega) (by omega)]
    by_cases c0 : x.f0 = 0
    · refine ev_neg (by rw [c0]; decide) ?_
      refine ev_eq (share_loop t hn hv d (i + 1) a b c (by omega) h1 (by omega) h3 (by omega) h5 (by omega)) ?_
      simp [sumI, wS, uS, nS, c0]
    · refine ev_pos (by simp; omega) (ev_pos (by rw [wrap_id (by omega) (by omega)]; omega) ?_)
      rw [shl_w hl]
      have hwe : wS x = 2 ^ (15 - x.f0).toNat := if_neg c0
      rw [← hwe, wrap_id (n := a + wS x) (by omega) (by omega), wrap_id (n := b + 1) (by omega) (by omega), wrap_id (n := c + 1) (by omega) (by omega)]
      by_cases c3 : x.f3 = 2
      · refine ev_pos c3 (ev_eq (share_loop t hn hv d (i + 1) _ _ _ (by omega) (by omega) (by omega) (by omega) (by omega) (by omega) (by omega)) ?_)
        have hu : uS x = 1 := if_neg c0
        have hns : nS x = 1 := by unfold nS; rw [if_neg c0, if_pos c3]
        simp only [sumI, hu, hns]
        simp only [Prod.mk.injEq]
        omega
      · refine ev_neg c3 (ev_eq (share_loop t hn hv d (i + 1) _ _ _ (by omega) (by omega) (by omega) (by omega) (by omega) (by omega) (by omega)) ?_)
        have hu : uS x = 1 := if_neg c0
        have hns : nS x = 0 := by unfold nS; rw [if_neg c0, if_neg c3]
        simp only [sumI, hu, hns]
        simp only [Prod.mk.injEq]
        omega
theorem share_ev (t : List Ln) (hn : t.length ≤ 64) (hv : ∀ x ∈ t, lineB x = true) : Ev (fun k => incunableref04_share.f k t) (sumI wS t, sumI uS t, sumI nS t) := by
  unfold incunableref04_share.f
  refine ev_eq (share_loop t hn hv t.length 0 0 0 0 (by omega) (by omega) (by omega) (by omega) (by omega) (by omega) (by omega)) ?_
  simp
/-- Which tables are valid. -/
def vldP (t : List Ln) : Prop := t.length ≤ 64 ∧ (∀ x ∈ t, lineB x = true) ∧ 1 ≤ sumI uS t ∧ sumI nS t ≤ 1 ∧ sumI wS t ≤ 32768
instance (t : List Ln) : Decidable (vldP t) := by unfold vldP; infer_instance
theorem rvalid_loop (t : List Ln) (hn : t.length ≤ 64) : ∀ (d i : Nat), i + d = t.length → (∀ x ∈ t.take i, lineB x = true) → Ev (fun k => incunableref04_Valid.l0 k t t (t.length : Int) (i : Int)) (decide (vldP t))
  | 0, i, hd, hp => by
    rw [List.take_of_length_le (by omega)] at hp
    refine ev_succ ?_
    simp only [incunableref04_Valid.l0]
    refine ev_neg (by omega) (ev_bind (share_ev t hn hp) ?_)
    dsimp only
    by_cases c1 : sumI uS t ≥ 1
    · refine ev_pos c1 ?_
      by_cases c2 : sumI nS t ≤ 1
      · refine ev_pos c2 (ev_eq (Ev.now _) ?_)
        by_cases c3 : sumI wS t ≤ 32768
        · rw [decide_eq_true c3, decide_eq_true (show vldP t from ⟨hn, hp, c1, c2, c3⟩)]
        · rw [decide_eq_false c3, decide_eq_false (fun h : vldP t => c3 h.2.2.2.2)]
      · exact ev_neg c2 (ev_eq (Ev.now _) (decide_eq_false (fun h : vldP t => c2 h.2.2.2.1)).symm)
    · exact ev_neg c1 (ev_eq (Ev.now _) (decide_eq_false (fun h : vldP t => c1 h.2.2.1)).symm)
  | d + 1, i, hd, hp => by
    have hi : i < t.length := by omega
    have hm := rdL_mem hi
    have hd1 := drop_rdL hi
    obtain ⟨x, hx⟩ : ∃ x, rd_T32 t (i : Int) = x := ⟨_, rfl⟩
    refine ev_succ ?_
    simp only [incunableref04_Valid.l0, hx, right_eq, Option.bind_some]
    rw [hx] at hm hd1
    refine ev_pos (by omega) (ev_pos (by omega) (ev_pos (by omega) ?_))
    rw [wrap_id (n := (i : Int) + 1) (by omega) (by omega)]
    by_cases c : lineB x = true
    · refine ev_pos c (rvalid_loop t hn d (i + 1) (by omega) ?_)
      intro y hy
      rw [List.take_succ_eq_append_getElem hi] at hy
      rcases List.mem_append.1 hy with hy | hy
      · exact hp y hy
      · rw [List.mem_singleton.1 hy]
        rw [List.drop_eq_getElem_cons hi] at hd1
        injection hd1 with h1 _
        rw [h1]
        exact c
    · exact ev_neg c (ev_eq (Ev.now _) (decide_eq_false (fun h : vldP t => c (h.2.1 x hm))).symm)
theorem rvalid_ev (t : List Ln) : Ev (fun k => incunableref04_Valid.f k t) (decide (vldP t)) := by
  unfold incunableref04_Valid.f
  by_cases c : (t.length : Int) > 64
  · exact ev_pos c (ev_eq (Ev.now _) (decide_eq_false (fun h : vldP t => by have := h.1; omega)).symm)
  · exact ev_neg c (rvalid_loop t (by omega) t.length 0 (by omega) (by simp))
theorem awake_ev : Ev (fun k => incunablelaw04_Awake.f k) true := Ev.of incunablelaw04_Awake.mono (k := 40) (by kernel_rfl)
end Go.Proofs.Ytnadgcdkcabdoaa.Tab
namespace Go.Proofs.Ytnadgcdkcabdoaa.U
open Go.RowKit Go.Proofs.YtnadgcdkcabdoaaW.PrintWords Go.Proofs.YtnadgcdkcabdoaaW.PrintLast Go.Proofs.YtnadgcdkcabdoaaW.PrintMore
attribute [local go_sem] max2_int min2_int max_two min_two max_three min_three max_four min_four   -- for this text's walks alone
def incunableref04_least.l0 : Nat → List (S73) → Int → List (S73) → Int → Int → Option (Int)
  | 0, _, _, _, _, _ => none
  | k + 1, x0, x3, x6, x7, x8 => if x8 < x7 then (if 0 ≤ x8 then (if x8 < (x6.length : Int) then (if 0 ≤ x3 then (if x3 < (x0.length : Int) then (if ((rd_T73 x6 x8).f0) < ((rd_T73 x0 x3).f0) then (incunableref04_least.l0 k x0 x8 x6 x7 (wrap64 (x8 + 1))) else (incunableref04_least.l0 k x0 x3 x6 x7 (wrap64 (x8 + 1)))) else (none)) else (none)) else (none)) else (none)) else (some x3)
def incunableref04_least.f (k : Nat) (l0 : List (S73)) : Option (Int) := incunableref04_least.l0 k l0 0 l0 (l0.length : Int) 0
theorem incunableref04_least.mono_l : ∀ k, (∀ y0 y1 y2 y3 y4, LeO (incunableref04_least.l0 k y0 y1 y2 y3 y4) (incunableref04_least.l0 (k + 1) y0 y1 y2 y3 y4))
  | 0 => fun _ _ _ _ _ r h => by simp [incunableref04_least.l0] at h
  | k + 1 => by
    have ih0 := incunableref04_least.mono_l k
    · intro y0 y1 y2 y3 y4
      unfold incunableref04_least.l0
      repeat' first
      | (with_reducible exact ih0 _ _ _ _ _)
      | (with_reducible exact LeO.refl _)
      | (with_reducible exact LeO.none _)
      | (with_reducible refine LeO.ite ?_ ?_)
      | (with_reducible refine LeO.bind ?_ (fun _ => ?_))
      | exact ih0 _ _ _ _ _
      | exact LeO.none _
      | refine LeO.ite ?_ ?_
      | refine LeO.bind ?_ (fun _ => ?_)
theorem incunableref04_least.mono : ∀ a0 k, LeO (incunableref04_least.f k a0) (incunableref04_least.f (k + 1) a0) := by
 intro a0 k; have ih0 := incunableref04_least.mono_l k; unfold incunableref04_least.f
 repeat' first
  | (with_reducible exact ih0 _ _ _ _ _)
  | (with_reducible exact LeO.refl _)
  | (with_reducible exact LeO.none _)
  | (with_reducible refine LeO.ite ?_ ?_)
  | (with_reducible refine LeO.bind ?_ (fun _ => ?_))
  | exact ih0 _ _ _ _ _
  | exact LeO.none _
  | refine LeO.ite ?_ ?_
  | refine LeO.bind ?_ (fun _ => ?_)
end Go.Proofs.Ytnadgcdkcabdoaa.U
namespace Go.Proofs.Ytnadgcdkcabdoaa.U
open Go.RowKit Go.Proofs.YtnadgcdkcabdoaaW.PrintWords Go.Proofs.YtnadgcdkcabdoaaW.PrintLast Go.Proofs.YtnadgcdkcabdoaaW.PrintMore
attribute [local go_sem] max2_int min2_int max_two min_two max_three min_three max_four min_four   -- for this text's walks alone
def incunableref04_out.f (l0 : List (S73)) (a1 : Int) : Option ((List (S73))) := (some (([] : List (S73)) : List (S73))).bind fun y148 => (if 0 ≤ a1 then (if a1 ≤ (l0.length : Int) then ((some (l0.take (a1 : Int).toNat : List (S73))).bind fun y151 => (if y148.length + y151.length < 4398046511104 then ((some (y148 ++ y151 : List (S73))).bind fun y156 => (if 0 ≤ (wrap64 (a1 + 1)) then (if (wrap64 (a1 + 1)) ≤ (l0.length : Int) then ((some (l0.drop ((wrap64 (a1 + 1)) : Int).toNat : List (S73))).bind fun y159 => (if y156.length + y159.length < 4398046511104 then (some (y156 ++ y159)) else (none))) else (none)) else (none))) else (none))) else (none)) else (none))
def incunableref04_out.T1 : Bool × List (List Nat × List Nat) := (true, [([], []), ([], []), ([], []), ([1, 2], [1, 2]), ([0, 3], [0, 3]), ([], []), ([], []), ([6], [6]), ([5, 7], [5, 7]), ([4, 8, 4], [4, 8]), ([9, 9, 0, 1, 2, 3, 4, 5, 6, 7, 8, 9], [9])])
end Go.Proofs.Ytnadgcdkcabdoaa.U
namespace Go.Proofs.Ytnadgcdkcabdoaa.U
open Go.RowKit Go.Proofs.YtnadgcdkcabdoaaW.PrintWords Go.Proofs.YtnadgcdkcabdoaaW.PrintLast Go.Proofs.YtnadgcdkcabdoaaW.PrintMore
attribute [local go_sem] max2_int min2_int max_two min_two max_three min_three max_four min_four   -- for this text's walks alone
mutual
def incunableref04_Lengths.l0 : Nat → List Int → List (S73) → List Int → Int → Int → Option (List Int × Int)
  | 0, _, _, _, _, _ => none
  | k + 1, x0, x4, x17, x18, x19 => if x19 < x18 then (if 0 ≤ x19 then (if x19 < (x17.length : Int) then (if (rd x17 x19) < 0 then (incunableref04_Lengths.j1 k x0 x4 x19 (rd x17 x19) x17 x18 x19 true) else (if (rd x17 x19) > 1000000 then (incunableref04_Lengths.j1 k x0 x4 x19 (rd x17 x19) x17 x18 x19 true) else (incunableref04_Lengths.j1 k x0 x4 x19 (rd x17 x19) x17 x18 x19 (decide ((x0.length : Int) > 64))))) else (none)) else (none)) else (if (x4.length : Int) = 0 then (some (([] : List Int), 5)) else (if 0 ≤ (x0.length : Int) then (if ((x0.length : Int) : Int).toNat ≤ 35184372088832 then ((some (List.replicate ((x0.length : Int) : Int).toNat 0 : List Int)).bind fun y174 => (if (x4.length : Int) = 1 then (if 0 < (x4.length : Int) then (if 0 < (((rd_T73 x4 0).f1).length : Int) then (if 0 ≤ (rd ((rd_T73 x4 0).f1) 0) then (if (rd ((rd_T73 x4 0).f1) 0) < (y174.length : Int) then (incunableref04_Lengths.j2 k x4 (y174.set ((rd ((rd_T73 x4 0).f1) 0) : Int).toNat 1)) else (none)) else (none)) else (none)) else (none)) else (incunableref04_Lengths.j2 k x4 y174))) else (none)) else (none)))
def incunableref04_Lengths.j1 : Nat → List Int → List (S73) → Int → Int → List Int → Int → Int → Bool → Option (List Int × Int)
  | 0, _, _, _, _, _, _, _, _ => none
  | k + 1, x0, x4, x5, x6, x17, x18, x19, x34 => if x34 = true then (some (([] : List Int), 2)) else (if x6 > 0 then (if x4.length < 4398046511104 then (incunableref04_Lengths.l0 k x0 (x4 ++ [(⟨x6, (([x5] : List Int))⟩ : S73)]) x17 x18 (wrap64 (x19 + 1))) else (none)) else (incunableref04_Lengths.l0 k x0 x4 x17 x18 (wrap64 (x19 + 1))))
def incunableref04_Lengths.j2 : Nat → List (S73) → List Int → Option (List Int × Int)
  | 0, _, _ => none
  | k + 1, x4, x7 => incunableref04_Lengths.l1 k x4 x7
def incunableref04_Lengths.l1 : Nat → List (S73) → List Int → Option (List Int × Int)
  | 0, _, _ => none
  | k + 1, x4, x7 => if (x4.length : Int) > 1 then ((incunableref04_least.f k x4).bind fun t180 => (if 0 ≤ t180 then (if t180 < (x4.length : Int) then ((incunableref04_out.f x4 t180).bind fun t183 => ((incunableref04_least.f k t183).bind fun t186 => (if 0 ≤ t186 then (if t186 < (t183.length : Int) then ((incunableref04_out.f t183 t186).bind fun t189 => ((some (([] : List Int) : List Int)).bind fun y192 => (if y192.length + ((rd_T73 x4 t180).f1).length < 17592186044416 then ((some (y192 ++ ((rd_T73 x4 t180).f1) : List Int)).bind fun y195 => (if y195.length + ((rd_T73 t183 t186).f1).length < 17592186044416 then ((some (y195 ++ ((rd_T73 t183 t186).f1) : List Int)).bind fun y198 => (incunableref04_Lengths.l2 k t189 x7 (y198.length : Int) 0 (wrap64 (((rd_T73 x4 t180).f0) + ((rd_T73 t183 t186).f0))) y198)) else (none))) else (none)))) else (none)) else (none)))) else (none)) else (none))) else (incunableref04_Lengths.l3 k x7 (x7.length : Int) 0)
def incunableref04_Lengths.l2 : Nat → List (S73) → List Int → Int → Int → Int → List Int → Option (List Int × Int)
  | 0, _, _, _, _, _, _ => none
  | k + 1, x4, x7, x98, x99, x202000, x202001 => if x99 < x98 then (if 0 ≤ x99 then (if x99 < (x202001.length : Int) then (if 0 ≤ (rd x202001 x99) then (if (rd x202001 x99) < (x7.length : Int) then (incunableref04_Lengths.l2 k x4 (x7.set ((rd x202001 x99) : Int).toNat (wrap64 ((rd x7 (rd x202001 x99)) + 1))) x98 (wrap64 (x99 + 1)) x202000 x202001) else (none)) else (none)) else (none)) else (none)) else (if x4.length < 4398046511104 then (incunableref04_Lengths.l1 k (x4 ++ [(⟨x202000, x202001⟩ : S73)]) x7) else (none))
def incunableref04_Lengths.l3 : Nat → List Int → Int → Int → Option (List Int × Int)
  | 0, _, _, _ => none
  | k + 1, x7, x115, x116 => if x116 < x115 then (if 0 ≤ x116 then (if x116 < (x7.length : Int) then (if (rd x7 x116) > 15 then (some (([] : List Int), 4)) else (incunableref04_Lengths.l3 k x7 x115 (wrap64 (x116 + 1)))) else (none)) else (none)) else (some (x7, 0))
end
def incunableref04_Lengths.f (k : Nat) (l0 : List Int) : Option (List Int × Int) := incunableref04_Lengths.l0 k l0 ([] : List (S73)) l0 (l0.length : Int) 0
theorem incunableref04_Lengths.mono_l : ∀ k, (∀ y0 y1 y2 y3 y4, LeO (incunableref04_Lengths.l0 k y0 y1 y2 y3 y4) (incunableref04_Lengths.l0 (k + 1) y0 y1 y2 y3 y4)) ∧ (∀ y0 y1 y2 y3 y4 y5 y6 y7, LeO (incunableref04_Lengths.j1 k y0 y1 y2 y3 y4 y5 y6 y7) (incunableref04_Lengths.j1 (k + 1) y0 y1 y2 y3 y4 y5 y6 y7)) ∧ (∀ y0 y1, LeO (incunableref04_Lengths.j2 k y0 y1) (incunableref04_Lengths.j2 (k + 1) y0 y1)) ∧ (∀ y0 y1, LeO (incunableref04_Lengths.l1 k y0 y1) (incunableref04_Lengths.l1 (k + 1) y0 y1)) ∧ (∀ y0 y1 y2 y3 y4 y5, LeO (incunableref04_Lengths.l2 k y0 y1 y2 y3 y4 y5) (incunableref04_Lengths.l2 (k + 1) y0 y1 y2 y3 y4 y5)) ∧ (∀ y0 y1 y2, LeO (incunableref04_Lengths.l3 k y0 y1 y2) (incunableref04_Lengths.l3 (k + 1) y0 y1 y2))
  | 0 => ⟨fun _ _ _ _ _ r h => by simp [incunableref04_Lengths.l0] at h, fun _ _ _ _ _ _ _ _ r h => by simp [incunableref04_Lengths.j1] at h, fun _ _ r h => by simp [incunableref04_Lengths.j2] at h, fun _ _ r h => by simp [incunableref04_Lengths.l1] at h, fun _ _ _ _ _ _ r h => by simp [incunableref04_Lengths.l2] at h, fun _ _ _ r h => by simp [incunableref04_Lengths.l3] at h⟩
  | k + 1 => by
    obtain ⟨ih0, ih1, ih2, ih3, ih4, ih5⟩ := incunableref04_Lengths.mono_l k
    refine ⟨?_, ?_, ?_, ?_, ?_, ?_⟩
    · intro y0 y1 y2 y3 y4
      unfold incunableref04_Lengths.l0
      repeat' first
      | (with_reducible exact ih0 _ _ _ _ _)
      | (with_reducible exact ih1 _ _ _ _ _ _ _ _)
      | (with_reducible exact ih2 _ _)
      | (with_reducible exact ih3 _ _)
      | (with_reducible exact ih4 _ _ _ _ _ _)
      | (with_reducible exact ih5 _ _ _)
      | (with_reducible exact incunableref04_least.mono _ _)
      | (with_reducible exact LeO.refl _)
      | (with_reducible exact LeO.none _)
      | (with_reducible refine LeO.ite ?_ ?_)
      | (with_reducible refine LeO.bind ?_ (fun _ => ?_))
      | exact ih0 _ _ _ _ _
      | exact ih1 _ _ _ _ _ _ _ _
      | exact ih2 _ _
      | exact ih3 _ _
      | exact ih4 _ _ _ _ _ _
      | exact ih5 _ _ _
      | exact incunableref04_least.mono _ _
      | exact LeO.none _
      | refine LeO.ite ?_ ?_
      | refine LeO.bind ?_ (fun _ => ?_)
    · intro y0 y1 y2 y3 y4 y5 y6 y7
      unfold incunableref04_Lengths.j1
      repeat' first
      | (with_reducible exact ih0 _ _ _ _ _)
      | (with_reducible exact ih1 _ _ _ _ _ _ _ _)
      | (with_reducible exact ih2 _ _)
      | (with_reducible exact ih3 _ _)
      | (with_reducible exact ih4 _ _ _ _ _ _)
      | (with_reducible exact ih5 _ _ _)
      | (with_reducible exact incunableref04_least.mono _ _)
      | (with_reducible exact LeO.refl _)
      | (with_reducible exact LeO.none _)
      | (with_reducible refine LeO.ite ?_ ?_)
      | (with_reducible refine LeO.bind ?_ (fun _ => ?_))
      | exact ih0 _ _ _ _ _
      | exact ih1 _ _ _ _ _ _ _ _
      | exact ih2 _ _
      | exact ih3 _ _
      | exact ih4 _ _ _ _ _ _
      | exact ih5 _ _ _
      | exact incunableref04_least.mono _ _
      | exact LeO.none _
      | refine LeO.ite ?_ ?_
      | refine LeO.bind ?_ (fun _ => ?_)
    · intro y0 y1
      unfold incunableref04_Lengths.j2
      repeat' first
      | (with_reducible exact ih0 _ _ _ _ _)
      | (with_reducible exact ih1 _ _ _ _ _ _ _ _)
      | (with_reducible exact ih2 _ _)
      | (with_reducible exact ih3 _ _)
      | (with_reducible exact ih4 _ _ _ _ _ _)
      | (with_reducible exact ih5 _ _ _)
      | (with_reducible exact incunableref04_least.mono _ _)
      | (with_reducible exact LeO.refl _)
      | (with_reducible exact LeO.none _)
      | (with_reducible refine LeO.ite ?_ ?_)
      | (with_reducible refine LeO.bind ?_ (fun _ => ?_))
      | exact ih0 _ _ _ _ _
      | exact ih1 _ _ _ _ _ _ _ _
      | exact ih2 _ _
      | exact ih3 _ _
      | exact ih4 _ _ _ _ _ _
      | exact ih5 _ _ _
      | exact incunableref04_least.mono _ _
      | exact LeO.none _
      | refine LeO.ite ?_ ?_
      | refine LeO.bind ?_ (fun _ => ?_)
    · intro y0 y1
      unfold incunableref04_Lengths.l1
      repeat' first
      | (with_reducible exact ih0 _ _ _ _ _)
      | (with_reducible exact ih1 _ _ _ _ _ _ _ _)
      | (with_reducible exact ih2 _ _)
      | (with_reducible exact ih3 _ _)
      | (with_reducible exact ih4 _ _ _ _ _ _)
      | (with_reducible exact ih5 _ _ _)
      | (with_reducible exact incunableref04_least.mono _ _)
      | (with_reducible exact LeO.refl _)
      | (with_reducible exact LeO.none _)
      | (with_reducible refine LeO.ite ?_ ?_)
      | (with_reducible refine LeO.bind ?_ (fun _ => ?_))
      | exact ih0 _ _ _ _ _
      | exact ih1 _ _ _ _ _ _ _ _
      | exact ih2 _ _
      | exact ih3 _ _
      | exact ih4 _ _ _ _ _ _
      | exact ih5 _ _ _
      | exact incunableref04_least.mono _ _
      | exact LeO.none _
      | refine LeO.ite ?_ ?_
      | refine LeO.bind ?_ (fun _ => ?_)
    · intro y0 y1 y2 y3 y4 y5
      unfold incunableref04_Lengths.l2
      repeat' first
      | (with_reducible exact ih0 _ _ _ _ _)
      | (with_reducible exact ih1 _ _ _ _ _ _ _ _)
      | (with_reducible exact ih2 _ _)
      | (with_reducible exact ih3 _ _)
      | (with_reducible exact ih4 _ _ _ _ _ _)
      | (with_reducible exact ih5 _ _ _)
      | (with_reducible exact incunableref04_least.mono _ _)
      | (with_reducible exact LeO.refl _)
      | (with_reducible exact LeO.none _)
      | (with_reducible refine LeO.ite ?_ ?_)
      | (with_reducible refine LeO.bind ?_ (fun _ => ?_))
      | exact ih0 _ _ _ _ _
      | exact ih1 _ _ _ _ _ _ _ _
      | exact ih2 _ _
      | exact ih3 _ _
      | exact ih4 _ _ _ _ _ _
      | exact ih5 _ _ _
      | exact incunableref04_least.mono _ _
      | exact LeO.none _
      | refine LeO.ite ?_ ?_
      | refine LeO.bind ?_ (fun _ => ?_)
    · intro y0 y1 y2
      unfold incunableref04_Lengths.l3
      repeat' first
      | (with_reducible exact ih0 _ _ _ _ _)
      | (with_reducible exact ih1 _ _ _ _ _ _ _ _)
      | (with_reducible exact ih2 _ _)
      | (with_reducible exact ih3 _ _)
      | (with_reducible exact ih4 _ _ _ _ _ _)
      | (with_reducible exact ih5 _ _ _)
      | (with_reducible exact incunableref04_least.mono _ _)
      | (with_reducible exact LeO.refl _)
      | (with_reducible exact LeO.none _)
      | (with_reducible refine LeO.ite ?_ ?_)
      | (with_reducible refine LeO.bind ?_ (fun _ => ?_))
      | exact ih0 _ _ _ _ _
      | exact ih1 _ _ _ _ _ _ _ _
      | exact ih2 _ _
      | exact ih3 _ _
      | exact ih4 _ _ _ _ _ _
      | exact ih5 _ _ _
      | exact incunableref04_least.mono _ _
      | exact LeO.none _
      | refine LeO.ite ?_ ?_
      | refine LeO.bind ?_ (fun _ => ?_)
theorem incunableref04_Lengths.mono : ∀ a0 k, LeO (incunableref04_Lengths.f k a0) (incunableref04_Lengths.f (k + 1) a0) := by
 intro a0 k; obtain ⟨ih0, ih1, ih2, ih3, ih4, ih5⟩ := incunableref04_Lengths.mono_l k; unfold incunableref04_Lengths.f
 repeat' first
  | (with_reducible exact ih0 _ _ _ _ _)
  | (with_reducible exact ih1 _ _ _ _ _ _ _ _)
  | (with_reducible exact ih2 _ _)
  | (with_reducible exact ih3 _ _)
  | (with_reducible exact ih4 _ _ _ _ _ _)
  | (with_reducible exact ih5 _ _ _)
  | (with_reducible exact incunableref04_least.mono _ _)
  | (with_reducible exact LeO.refl _)
  | (with_reducible exact LeO.none _)
  | (with_reducible refine LeO.ite ?_ ?_)
  | (with_reducible refine LeO.bind ?_ (fun _ => ?_))
  | exact ih0 _ _ _ _ _
  | exact ih1 _ _ _ _ _ _ _ _
  | exact ih2 _ _
  | exact ih3 _ _
  | exact ih4 _ _ _ _ _ _
  | exact ih5 _ _ _
  | exact incunableref04_least.mono _ _
  | exact LeO.none _
  | refine LeO.ite ?_ ?_
  | refine LeO.bind ?_ (fun _ => ?_)
end Go.Proofs.Ytnadgcdkcabdoaa.U
namespace Go.Proofs.Ytnadgcdkcabdoaa.U
open Go.RowKit Go.Proofs.YtnadgcdkcabdoaaW.PrintWords Go.Proofs.YtnadgcdkcabdoaaW.PrintLast Go.Proofs.YtnadgcdkcabdoaaW.PrintMore
attribute [local go_sem] max2_int min2_int max_two min_two max_three min_three max_four min_four   -- for this text's walks alone
mutual
def incunableref04_Cost.j0 : Nat → List Int → List Int → Bool → Option (Int × Int)
  | 0, _, _, _ => none
  | k + 1, x0, x1, x17 => if x17 = true then (some (0, 2)) else (incunableref04_Cost.l0 k x0 x1 0 (x1.length : Int) 0)
def incunableref04_Cost.l0 : Nat → List Int → List Int → Int → Int → Int → Option (Int × Int)
  | 0, _, _, _, _, _ => none
  | k + 1, x0, x1, x6, x19, x20 => if x20 < x19 then (if 0 ≤ x20 then (if x20 < (x1.length : Int) then (if (rd x1 x20) < 0 then (some (0, 2)) else (if (rd x1 x20) > 1000000 then (some (0, 2)) else (if x20 < (x0.length : Int) then (if (rd x0 x20) < 0 then (some (0, 2)) else (if (rd x0 x20) > 1000000 then (some (0, 2)) else (incunableref04_Cost.l0 k x0 x1 (wrap64 (x6 + (wrap64 ((rd x1 x20) * (rd x0 x20))))) x19 (wrap64 (x20 + 1))))) else (none)))) else (none)) else (none)) else (some (x6, 0))
end
def incunableref04_Cost.f (k : Nat) (l0 : List Int) (l1 : List Int) : Option (Int × Int) := if (l0.length : Int) = (l1.length : Int) then (incunableref04_Cost.j0 k l0 l1 (decide ((l1.length : Int) > 64))) else (incunableref04_Cost.j0 k l0 l1 true)
theorem incunableref04_Cost.mono_l : ∀ k, (∀ y0 y1 y2, LeO (incunableref04_Cost.j0 k y0 y1 y2) (incunableref04_Cost.j0 (k + 1) y0 y1 y2)) ∧ (∀ y0 y1 y2 y3 y4, LeO (incunableref04_Cost.l0 k y0 y1 y2 y3 y4) (incunableref04_Cost.l0 (k + 1) y0 y1 y2 y3 y4))
  | 0 => ⟨fun _ _ _ r h => by simp [incunableref04_Cost.j0] at h, fun _ _ _ _ _ r h => by simp [incunableref04_Cost.l0] at h⟩
  | k + 1 => by
    obtain ⟨ih0, ih1⟩ := incunableref04_Cost.mono_l k
    refine ⟨?_, ?_⟩
    · intro y0 y1 y2
      unfold incunableref04_Cost.j0
      repeat' first
      | (with_reducible exact ih0 _ _ _)
      | (with_reducible exact ih1 _ _ _ _ _)
      | (with_reducible exact LeO.refl _)
      | (with_reducible exact LeO.none _)
      | (with_reducible refine LeO.ite ?_ ?_)
      | (with_reducible refine LeO.bind ?_ (fun _ => ?_))
      | exact ih0 _ _ _
      | exact ih1 _ _ _ _ _
      | exact LeO.none _
      | refine LeO.ite ?_ ?_
      | refine LeO.bind ?_ (fun _ => ?_)
    · intro y0 y1 y2 y3 y4
      unfold incunableref04_Cost.l0
      repeat' first
      | (with_reducible exact ih0 _ _ _)
      | (with_reducible exact ih1 _ _ _ _ _)
      | (with_reducible exact LeO.refl _)
      | (with_reducible exact LeO.none _)
      | (with_reducible refine LeO.ite ?_ ?_)
      | (with_reducible refine LeO.bind ?_ (fun _ => ?_))
      | exact ih0 _ _ _
      | exact ih1 _ _ _ _ _
      | exact LeO.none _
      | refine LeO.ite ?_ ?_
      | refine LeO.bind ?_ (fun _ => ?_)
theorem incunableref04_Cost.mono : ∀ a0 a1 k, LeO (incunableref04_Cost.f k a0 a1) (incunableref04_Cost.f (k + 1) a0 a1) := by
 intro a0 a1 k; obtain ⟨ih0, ih1⟩ := incunableref04_Cost.mono_l k; unfold incunableref04_Cost.f
 repeat' first
  | (with_reducible exact ih0 _ _ _)
  | (with_reducible exact ih1 _ _ _ _ _)
  | (with_reducible exact LeO.refl _)
  | (with_reducible exact LeO.none _)
  | (with_reducible refine LeO.ite ?_ ?_)
  | (with_reducible refine LeO.bind ?_ (fun _ => ?_))
  | exact ih0 _ _ _
  | exact ih1 _ _ _ _ _
  | exact LeO.none _
  | refine LeO.ite ?_ ?_
  | refine LeO.bind ?_ (fun _ => ?_)
end Go.Proofs.Ytnadgcdkcabdoaa.U
namespace Go.Proofs.Ytnadgcdkcabdoaa.Huf
open Go Go.RowKit Go.Proofs.YtnadgcdkcabdoaaW.PrintWords Go.Proofs.YtnadgcdkcabdoaaW.PrintLast Go.Proofs.YtnadgcdkcabdoaaW.PrintMore Go.Proofs.Ytnadgcdkcabdoaa.Aid Go.Proofs.Ytnadgcdkcabdoaa.U Go.Proofs.Ytnadgcdkcabdoaa.Least Go.Proofs.Ytnadgcdkcabdoaa.Tab
abbrev Nd := S66
def cut (L : List Nd) (b : Nat) : List Nd := L.take b ++ L.drop (b + 1)
def tot : List Nd → Nat
  | [] => 0
  | x :: L => x.f1.length + tot L
theorem tot_append (L M : List Nd) : tot (L ++ M) = tot L + tot M := by
  induction L with
  | nil => simp [tot]
  | cons x L ih => simp [tot, ih]; omega
theorem split66 {L : List Nd} {b : Nat} (h : b < L.length) : L = L.take b ++ rd_T66 L (b : Int) :: L.drop (b + 1) := by
  have e : rd_T66 L (b : Int) = L[b] := by
    unfold rd_T66
    rw [List.getD_eq_getElem?_getD]
    simp [h]
  rw [e, List.getElem_cons_drop, List.take_append_drop]
theorem rd66_mem {L : List Nd} {b : Nat} (h : b < L.length) : rd_T66 L (b : Int) ∈ L := by
  have := split66 h
  generalize rd_T66 L (b : Int) = y at this ⊢
  rw [this]; simp
theorem cut_len {L : List Nd} {b : Nat} (h : b < L.length) : (cut L b).length + 1 = L.length := by
  unfold cut
  rw [List.length_append, List.length_take, List.length_drop]; omega
theorem cut_tot {L : List Nd} {b : Nat} (h : b < L.length) : tot (cut L b) + (rd_T66 L (b : Int)).f1.length = tot L := by
  have e := congrArg tot (split66 h)
  rw [tot_append] at e
  unfold cut
  rw [tot_append]
  simp only [tot] at e
  omega
theorem cut_mem {L : List Nd} {b : Nat} {x : Nd} (h : x ∈ cut L b) : x ∈ L := by
  rcases List.mem_append.1 h with h | h
  · exact List.mem_of_mem_take h
  · exact List.mem_of_mem_drop h
theorem pleast_eq (L : List Nd) (hp : 0 < L.length) : prefix_least.f L = some ((rd_T66 L ((best L L.length : Nat) : Int)).f0, (rd_T66 L ((best L L.length : Nat) : Int)).f1, cut L (best L L.length)) := by
  unfold prefix_least.f
  rw [if_neg (by intro h; rw [h] at hp; simp at hp)]
  rfl
def incr (o : List Int) : List Int → List Int
  | [] => o
  | i :: B => incr (o.set i.toNat (wrap64 (rd o i + 1))) B
theorem incr_len (o : List Int) (B : List Int) : (incr o B).length = o.length := by
  induction B generalizing o with
  | nil => rfl
  | cons i B ih => simp only [incr]; rw [ih, List.length_set]
theorem pinc_loop (L : List Nd) (hL : L.length < 64) (B : List Int) (hB : B.length ≤ 64) (c0 c2 : Int) (c1 c3 : List Int) (r : List Int × Int) : ∀ (d i : Nat) (o : List Int), i + d = B.length → (∀ j ∈ B, 0 ≤ j ∧ j < o.length) →
    Ev (fun k => prefix_Lengths.l1 k (L ++ [(⟨wrap64 (c0 + c2), B⟩ : Nd)]) (incr o (B.drop i))) r → Ev (fun k => prefix_Lengths.l2 k L o B (B.length : Int) (i : Int) c0 c1 c2 c3) r
  | 0, i, o, hd, ho, h => by
    refine ev_succ ?_
    simp only [prefix_Lengths.l2]
    rw [List.drop_of_length_le (by omega)] at h
    exact ev_neg (by omega) (ev_pos (by omega) h)
  | d + 1, i, o, hd, ho, h => by
    have hi : i < B.length := by omega
    have hj := ho _ (rd_mem (l := B) (i := (i : Int)) (by omega) (by omega))
    rw [drop_rd hi] at h
    refine ev_succ ?_
    simp only [prefix_Lengths.l2]
    rw [wrap_id (n := (i : Int) + 1) (by omega) (by omega)]
    exact ev_pos (by omega) (ev_pos (by omega) (ev_pos (by omega) (ev_pos hj.1 (ev_pos hj.2
      (pinc_loop L hL B hB c0 c2 c1 c3 r d (i + 1) _ (by omega) (by rw [List.length_set]; exact ho) h)))))
/-- One merge: the nodes behind it, and what lies below the new one. -/
def mrg (L : List Nd) : List Nd × List Int :=
  let b := best L L.length
  let M := cut L b
  let q := best M M.length
  let B := (rd_T66 L (b : Int)).f1 ++ (rd_T66 M (q : Int)).f1
  (cut M q ++ [⟨wrap64 ((rd_T66 L (b : Int)).f0 + (rd_T66 M (q : Int)).f0), B⟩], B)
def huff : Nat → List Nd → List Int → List Int
  | 0, _, o => o
  | n + 1, L, o => if 1 < L.length then huff n (mrg L).1 (incr o (mrg L).2) else o
def fin (o : List Int) : List Int × Int := if o.any (fun x => decide (15 < x)) then ([], 4) else (o, 0)
theorem max_loop (o : List Int) (hn : o.length ≤ 64) : ∀ (d i : Nat) (m : Int), i + d = o.length → ∃ M, Ev (fun k => slices_Max_int_int.l0 k o m (i : Int)) M ∧ (15 < M ↔ 15 < m ∨ ∃ x ∈ o.drop i, 15 < x)
  | 0, i, m, hd => by
    refine ⟨m, ev_succ ?_, by rw [List.drop_of_length_le (by omega)]; simp⟩
    simp only [slices_Max_int_int.l0]
    exact ev_neg (by omega) (Ev.now _)
  | d + 1, i, m, hd => by
    obtain ⟨M, h, e⟩ := max_loop o hn d (i + 1) (mx m (rd o (i : Int))) (by omega)
    refine ⟨M, ev_succ ?_, ?_⟩
    · simp only [slices_Max_int_int.l0]
      rw [wrap_id (n := (i : Int) + 1) (by omega) (by omega)]
      exact ev_pos (by omega) (ev_pos (by omega) h)
    · rw [e, drop_rd (show i < o.length by omega)]
      have : 15 < mx m (rd o (i : Int)) ↔ 15 < m ∨ 15 < rd o (i : Int) := by unfold mx; split <;> omega
      rw [this]
      simp [or_assoc]
theorem pend_ev (L : List Nd) (hL : L.length ≤ 1) (o : List Int) (ho : o.length ≤ 64) (hp : 0 < o.length) : Ev (fun k => prefix_Lengths.l1 k L o) (fin o) := by
  obtain ⟨M, h, e⟩ := max_loop o ho (o.length - 1) 1 (rd o 0) (by omega)
  have hm : Ev (fun k => slices_Max_int_int.f k o) M := by
    unfold slices_Max_int_int.f
    exact ev_neg (by omega) (ev_pos (by omega) h)
  have e2 : 15 < M ↔ o.any (fun x => decide (15 < x)) = true := by
    have d0 := drop_rd (l := o) (i := 0) hp
    rw [e, List.any_eq_true]
    rw [List.drop_zero] at d0
    have : ∀ x, x ∈ o ↔ x = rd o 0 ∨ x ∈ o.drop 1 := by
      intro x
      conv => lhs; rw [d0]
      simp
    simp only [this, decide_eq_true_eq]
    constructor
    · rintro (h | ⟨x, hx, h⟩)
      · exact ⟨_, .inl rfl, h⟩
      · exact ⟨x, .inr hx, h⟩
    · rintro ⟨x, rfl | hx, h⟩
      · exact .inl h
      · exact .inr ⟨x, hx, h⟩
  refine ev_succ ?_
  simp only [prefix_Lengths.l1]
  refine ev_neg (by omega) (ev_bind hm ?_)
  unfold fin
  by_cases c : 15 < M
  · rw [if_pos (e2.1 c)]; exact ev_pos c (Ev.now _)
  · rw [if_neg (fun h => c (e2.2 h))]; exact ev_neg c (Ev.now _)
/-- Nodes over places of a list of m counts. -/
structure Ok (m : Nat) (L : List Nd) : Prop where
  len : L.length ≤ 64
  tot : tot L ≤ 64
  at_ : ∀ x ∈ L, ∀ j ∈ x.f1, 0 ≤ j ∧ j < m
structure Mrg (m : Nat) (L : List Nd) : Prop where
  b : best L L.length < L.length
  q : best (cut L (best L L.length)) (cut L (best L L.length)).length < (cut L (best L L.length)).length
  ok : Ok m (mrg L).1
  one : (mrg L).1.length + 1 = L.length
  small : (mrg L).2.length ≤ 64
  at_ : ∀ j ∈ (mrg L).2, 0 ≤ j ∧ j < m
theorem mrg_ok {m : Nat} {L : List Nd} (h : Ok m L) (h1 : 1 < L.length) : Mrg m L := by
  have hb := best_le L L.length L.length (Nat.le_refl _) (by omega)
  have l1 := cut_len hb
  have t1 := cut_tot hb
  have m1 := rd66_mem hb
  have hq := best_le (cut L (best L L.length)) (cut L (best L L.length)).length (cut L (best L L.length)).length (Nat.le_refl _) (by omega)
  have l2 := cut_len hq
  have t2 := cut_tot hq
  have m2 := cut_mem (rd66_mem hq)
  have hl := h.len
  have ht := h.tot
  have hat : ∀ j ∈ (mrg L).2, 0 ≤ j ∧ j < m := by
    intro j hj
    rcases List.mem_append.1 hj with hj | hj
    · exact h.at_ _ m1 j hj
    · exact h.at_ _ m2 j hj
  have hs : (mrg L).2.length ≤ 64 := by
    simp only [mrg]
    rw [List.length_append]; omega
  refine ⟨hb, hq, ⟨?_, ?_, ?_⟩, ?_, hs, hat⟩
  · simp only [mrg]
    rw [List.length_append]
    simp only [List.length_cons, List.length_nil]; omega
  · simp only [mrg]
    rw [tot_append]
    simp only [tot, List.length_append]; omega
  · intro x hx
    rcases List.mem_append.1 hx with hx | hx
    · exact h.at_ x (cut_mem (cut_mem hx))
    · have e := List.mem_singleton.1 hx
      subst e
      exact hat
  · simp only [mrg]
    rw [List.length_append]
    simp only [List.length_cons, List.length_nil]; omega
theorem pmerge_ev (m : Nat) (hm : m ≤ 64) (hp : 0 < m) : ∀ (n : Nat) (L : List Nd) (o : List Int), L.length ≤ n + 1 → Ok m L → o.length = m → Ev (fun k => prefix_Lengths.l1 k L o) (fin (huff n L o))
  | 0, L, o, hn, h, ho => pend_ev L (by omega) o (by omega) (by omega)
  | n + 1, L, o, hn, h, ho => by
    by_cases c : 1 < L.length
    · have M := mrg_ok h c
      have ih := pmerge_ev m hm hp n (mrg L).1 (incr o (mrg L).2) (by have := M.one; omega) M.ok (by rw [incr_len]; exact ho)
      simp only [huff]
      rw [if_pos c]
      have l1 := cut_len M.b
      have l2 := cut_len M.q
      have t1 := cut_tot M.b
      have t2 := cut_tot M.q
      have ht := h.tot
      have hl := h.len
      refine ev_succ ?_
      simp only [prefix_Lengths.l1]
      refine ev_pos (by omega) (ev_pure (pleast_eq L (by omega)) (ev_pure (pleast_eq _ (by simp only; omega)) (ev_pure (a := (rd_T66 L ((best L L.length : Nat) : Int)).f1) (by unfold slices_Clone_int_int.f; exact if_pos (show (rd_T66 L ((best L L.length : Nat) : Int)).f1.length < _ by omega)) ?_)))
      refine ev_pos (by simp only; omega) (ev_some ?_)
      exact pinc_loop _ (by simp only; omega) _ M.small _ _ _ _ _ _ 0 o (Nat.zero_add _) (by rw [ho]; exact M.at_) ih
    · simp only [huff]
      rw [if_neg c]
      exact pend_ev L (by omega) o (by omega) (by omega)
end Go.Proofs.Ytnadgcdkcabdoaa.Huf
namespace Go.Proofs.Ytnadgcdkcabdoaa.Hug
open Go Go.RowKit Go.Proofs.YtnadgcdkcabdoaaW.PrintWords Go.Proofs.YtnadgcdkcabdoaaW.PrintLast Go.Proofs.YtnadgcdkcabdoaaW.PrintMore Go.Proofs.Ytnadgcdkcabdoaa.Aid Go.Proofs.Ytnadgcdkcabdoaa.U Go.Proofs.Ytnadgcdkcabdoaa.Tab Go.Proofs.Ytnadgcdkcabdoaa.Huf
/-- The leaves of the first i counts. -/
def lv (l : List Int) : Nat → List Nd
  | 0 => []
  | i + 1 => if 0 < rd l (i : Int) then lv l i ++ [⟨rd l (i : Int), [(i : Int)]⟩] else lv l i
theorem lv_len (l : List Int) : ∀ i, (lv l i).length ≤ i
  | 0 => Nat.le_refl _
  | i + 1 => by
    have := lv_len l i
    simp only [lv]
    split
    · rw [List.length_append]; simp; omega
    · omega
theorem lv_tot (l : List Int) : ∀ i, tot (lv l i) ≤ i
  | 0 => Nat.le_refl _
  | i + 1 => by
    have := lv_tot l i
    simp only [lv]
    split
    · rw [tot_append]; simp [tot]; omega
    · omega
theorem lv_mem (l : List Int) : ∀ i, ∀ x ∈ lv l i, ∃ j : Nat, j < i ∧ x.f1 = [(j : Int)]
  | 0, x, h => by simp [lv] at h
  | i + 1, x, h => by
    simp only [lv] at h
    split at h
    · rcases List.mem_append.1 h with h | h
      · obtain ⟨j, a, b⟩ := lv_mem l i x h
        exact ⟨j, by omega, b⟩
      · have e := List.mem_singleton.1 h
        subst e
        exact ⟨i, by omega, rfl⟩
    · obtain ⟨j, a, b⟩ := lv_mem l i x h
      exact ⟨j, by omega, b⟩
theorem lv_ok (l : List Int) (h : l.length ≤ 64) : Ok l.length (lv l l.length) := by
  refine ⟨Nat.le_trans (lv_len _ _) h, Nat.le_trans (lv_tot _ _) h, fun x hx j hj => ?_⟩
  obtain ⟨q, a, b⟩ := lv_mem _ _ _ hx
  rw [b] at hj
  have e := List.mem_singleton.1 hj
  subst e
  omega
def first (l : List Int) : List Int := if (lv l l.length).length = 1 then (List.replicate l.length 0).set (rd (rd_T66 (lv l l.length) 0).f1 0).toNat 1 else List.replicate l.length 0
theorem first_len (l : List Int) : (first l).length = l.length := by
  unfold first; split <;> simp
def tail (l : List Int) : List Int × Int := if (lv l l.length).length = 0 then ([], 5) else fin (huff 64 (lv l l.length) (first l))
def bad (x : Int) : Bool := decide (x < 0) || decide (1000000 < x)
theorem ptail_ev (l : List Int) (h : l.length ≤ 64) : Ev (fun k => prefix_Lengths.l0 k l (lv l l.length) l (l.length : Int) (l.length : Int)) (tail l) := by
  have hk := lv_ok l h
  have hl := lv_len l l.length
  refine ev_succ ?_
  simp only [prefix_Lengths.l0]
  refine ev_neg (by omega) ?_
  unfold tail
  by_cases c : (lv l l.length).length = 0
  · rw [if_pos c]
    exact ev_pos (by omega) (Ev.now _)
  · rw [if_neg c]
    refine ev_neg (by omega) (ev_pos (by omega) (ev_pos (by omega) (ev_some ?_)))
    have e0 : ((l.length : Int)).toNat = l.length := by omega
    rw [e0]
    have main := pmerge_ev l.length h (by omega) 64 (lv l l.length) (first l) (by omega) hk (first_len l)
    by_cases d : (lv l l.length).length = 1
    · have hm := rd66_mem (L := lv l l.length) (b := 0) (by omega)
      obtain ⟨j, hj, e⟩ := lv_mem _ _ _ hm
      have ej : rd (rd_T66 (lv l l.length) 0).f1 0 = (j : Int) := by
        have e' : (rd_T66 (lv l l.length) 0).f1 = [(j : Int)] := e
        rw [e']; rfl
      unfold first at main
      rw [if_pos d] at main
      refine ev_pos (by omega) (ev_pos (by omega) (ev_pos (by rw [show (rd_T66 (lv l l.length) 0).f1 = [(j : Int)] from e]; simp) (ev_pos (by rw [ej]; omega) (ev_pos (by rw [ej, List.length_replicate]; omega) ?_))))
      refine ev_succ ?_
      simp only [prefix_Lengths.j2]
      unfold first
      rw [if_pos d]
      exact main
    · unfold first at main ⊢
      rw [if_neg d] at main ⊢
      refine ev_neg (by omega) (ev_succ ?_)
      simp only [prefix_Lengths.j2]
      exact main
theorem ploop_ev (l : List Int) (h : l.length ≤ 64) : ∀ (d i : Nat), i + d = l.length → Ev (fun k => prefix_Lengths.l0 k l (lv l i) l (l.length : Int) (i : Int)) (if (l.drop i).any bad then ([], 2) else tail l)
  | 0, i, hd => by
    have e : i = l.length := by omega
    subst e
    rw [List.drop_length]
    exact ptail_ev l h
  | d + 1, i, hd => by
    have ih := ploop_ev l h d (i + 1) (by omega)
    have hl := lv_len l i
    have hL : (lv l i).length = (lv l i).length := rfl
    refine ev_succ ?_
    simp only [prefix_Lengths.l0]
    rw [drop_rd (show i < l.length by omega), List.any_cons]
    refine ev_pos (by omega) (ev_pos (by omega) (ev_pos (by omega) ?_))
    by_cases c : rd l (i : Int) < 0
    · refine ev_pos c (ev_succ ?_)
      have eb : bad (rd l (i : Int)) = true := by simp [bad, c]
      rw [eb, Bool.true_or, if_pos rfl]
      unfold prefix_Lengths.j1
      exact ev_pos rfl (Ev.now _)
    · refine ev_neg c ?_
      by_cases q : rd l (i : Int) > 1000000
      · have eb : bad (rd l (i : Int)) = true := by simp [bad, q]
        rw [eb, Bool.true_or, if_pos rfl]
        refine (ev_succ ?_)
        unfold prefix_Lengths.j1
        exact ev_pos (decide_eq_true q) (Ev.now _)
      · have eb : bad (rd l (i : Int)) = false := by simp [bad]; omega
        rw [eb, Bool.false_or]
        refine (ev_succ ?_)
        unfold prefix_Lengths.j1
        refine ev_neg (by simp; omega) ?_
        rw [wrap_id (n := (i : Int) + 1) (by omega) (by omega)]
        by_cases p : 0 < rd l (i : Int)
        · have e : lv l (i + 1) = lv l i ++ [⟨rd l (i : Int), [(i : Int)]⟩] := by simp only [lv]; exact if_pos p
          rw [e] at ih
          exact ev_pos p (ev_pos (by omega) ih)
        · have e : lv l (i + 1) = lv l i := by simp only [lv]; exact if_neg p
          rw [e] at ih
          exact ev_neg p ih
/-- Huffman's lengths, and the error. -/
def res (l : List Int) : List Int × Int := if 64 < l.length then ([], 2) else if l.any bad then ([], 2) else tail l
theorem plen_ev (l : List Int) : Ev (fun k => prefix_Lengths.f k l) (res l) := by
  unfold prefix_Lengths.f res
  by_cases c : 64 < l.length
  · rw [if_pos c]
    exact ev_pos (by omega) (Ev.now _)
  · rw [if_neg c]
    exact ev_neg (by omega) (ploop_ev l (by omega) l.length 0 (by omega))
theorem huff_len : ∀ (n : Nat) (L : List Nd) (o : List Int), (huff n L o).length = o.length
  | 0, _, _ => rfl
  | n + 1, L, o => by
    simp only [huff]
    split
    · rw [huff_len n, incr_len]
    · rfl
end Go.Proofs.Ytnadgcdkcabdoaa.Hug
namespace Go.Proofs.Ytnadgcdkcabdoaa.Hop
/-- What lengths take of 2^15. -/
def KL : List Nat → Nat
  | [] => 0
  | l :: t => 2 ^ (15 - l) + KL t
/-- What weights with lengths cost. -/
def cst : List (Int × Nat) → Int
  | [] => 0
  | p :: t => p.1 * p.2 + cst t
theorem KL_perm {a b : List Nat} (h : a.Perm b) : KL a = KL b := by
  induction h with
  | nil => rfl
  | cons x _ ih => simp only [KL]; omega
  | swap x y l => simp only [KL]; omega
  | trans _ _ h1 h2 => exact h1.trans h2
theorem cst_perm {a b : List (Int × Nat)} (h : a.Perm b) : cst a = cst b := by
  induction h with
  | nil => rfl
  | cons x _ ih => simp only [cst]; omega
  | swap x y l => simp only [cst]; omega
  | trans _ _ h1 h2 => exact h1.trans h2
def sumN : List Nat → Nat
  | [] => 0
  | l :: t => l + sumN t
theorem sumN_perm {a b : List Nat} (h : a.Perm b) : sumN a = sumN b := by
  induction h with
  | nil => rfl
  | cons x _ ih => simp only [sumN]; omega
  | swap x y l => simp only [sumN]; omega
  | trans _ _ h1 h2 => exact h1.trans h2
theorem perm_of_mem {α : Type} {x : α} : ∀ {l : List α}, x ∈ l → ∃ t, l.Perm (x :: t)
  | y :: l, h => by
    rcases List.mem_cons.1 h with rfl | h
    · exact ⟨l, List.Perm.refl _⟩
    · obtain ⟨t, ht⟩ := perm_of_mem h
      exact ⟨y :: t, (List.Perm.cons y ht).trans (List.Perm.swap x y t)⟩
/-- The longest length is there. -/
theorem max_mem : ∀ (l : List (Int × Nat)), l ≠ [] → ∃ p ∈ l, ∀ q ∈ l, q.2 ≤ p.2
  | [x], _ => ⟨x, List.mem_cons_self, fun q hq => by rw [List.mem_singleton.1 hq]; exact Nat.le_refl _⟩
  | x :: y :: l, _ => by
    obtain ⟨p, hp, hm⟩ := max_mem (y :: l) (by simp)
    by_cases h : p.2 ≤ x.2
    · refine ⟨x, List.mem_cons_self, fun q hq => ?_⟩
      rcases List.mem_cons.1 hq with rfl | hq
      · exact Nat.le_refl _
      · exact Nat.le_trans (hm q hq) h
    · refine ⟨p, List.mem_cons_of_mem _ hp, fun q hq => ?_⟩
      rcases List.mem_cons.1 hq with rfl | hq
      · omega
      · exact hm q hq
theorem KL_dvd (m : Nat) (hm : 1 ≤ m) (h15 : m ≤ 15) : ∀ (l : List Nat), (∀ x ∈ l, x + 1 ≤ m) → 2 ^ (16 - m) ∣ KL l
  | [], _ => ⟨0, rfl⟩
  | x :: l, h => by
    have h1 := h x List.mem_cons_self
    have h2 := KL_dvd m hm h15 l (fun y hy => h y (List.mem_cons_of_mem _ hy))
    show 2 ^ (16 - m) ∣ 2 ^ (15 - x) + KL l
    exact Nat.dvd_add (Nat.pow_dvd_pow 2 (by omega)) h2
/-- Lengths can be had that cost no more, two of which are the longest. -/
theorem two_long : ∀ (n : Nat) (ps : List (Int × Nat)), sumN (ps.map (·.2)) ≤ n → 2 ≤ ps.length → (∀ p ∈ ps, 0 ≤ p.1 ∧ p.2 ≤ 15) → KL (ps.map (·.2)) ≤ 2 ^ 15 →
    ∃ (x y : Int) (m : Nat) (T : List (Int × Nat)), (((x, m) :: (y, m) :: T).map (·.1)).Perm (ps.map (·.1)) ∧ KL (((x, m) :: (y, m) :: T).map (·.2)) ≤ 2 ^ 15 ∧ cst ((x, m) :: (y, m) :: T) ≤ cst ps ∧ (∀ p ∈ T, p.2 ≤ m) ∧ m ≤ 15 ∧ (∀ p ∈ T, 0 ≤ p.1) := by
  intro n
  induction n with
  | zero =>
    intro ps hs h2 hp hK
    obtain ⟨p, hpm, hmx⟩ := max_mem ps (by intro h; rw [h] at h2; simp at h2)
    have hz : ∀ q ∈ ps, q.2 = 0 := by
      intro q hq
      obtain ⟨t, ht⟩ := perm_of_mem (List.mem_map_of_mem (f := (·.2)) hq)
      have := sumN_perm ht
      simp only [sumN] at this
      omega
    exfalso
    match ps, h2, hz, hK with
    | a :: b :: t, _, hz, hK =>
      have h1 := hz a List.mem_cons_self
      have h2 := hz b (List.mem_cons_of_mem _ List.mem_cons_self)
      simp only [List.map_cons, KL, h1, h2] at hK
      omega
  | succ n ih =>
    intro ps hs h2 hp hK
    obtain ⟨p, hpm, hmx⟩ := max_mem ps (by intro h; rw [h] at h2; simp at h2)
    obtain ⟨T, hT⟩ := perm_of_mem hpm
    obtain ⟨x, m⟩ := p
    have hTl : 1 ≤ T.length := by have := hT.length_eq; simp at this; omega
    have hm15 := (hp _ hpm).2
    have hTm : ∀ q ∈ T, q ∈ ps := fun q hq => hT.mem_iff.2 (List.mem_cons_of_mem _ hq)
    have hx0 := (hp _ hpm).1
    simp only at hm15 hx0 hmx
    by_cases hex : ∃ q ∈ T, q.2 = m
    · obtain ⟨q, hq, hqm⟩ := hex
      obtain ⟨T2, hT2⟩ := perm_of_mem hq
      obtain ⟨y, m'⟩ := q
      simp only at hqm
      subst hqm
      have hall : ps.Perm ((x, m') :: (y, m') :: T2) := hT.trans (List.Perm.cons _ hT2)
      refine ⟨x, y, m', T2, (hall.map _).symm, ?_, ?_, ?_, hm15, ?_⟩
      · rw [← KL_perm (hall.map (·.2))]; exact hK
      · rw [cst_perm hall]; exact Int.le_refl _
      · intro r hr
        exact hmx r (hall.mem_iff.2 (List.mem_cons_of_mem _ (List.mem_cons_of_mem _ hr)))
      · intro r hr
        exact (hp r (hall.mem_iff.2 (List.mem_cons_of_mem _ (List.mem_cons_of_mem _ hr)))).1
    · have hlt : ∀ q ∈ T, q.2 + 1 ≤ m := by
        intro q hq
        have h1 := hmx q (hTm q hq)
        have h3 : q.2 ≠ m := fun e => hex ⟨q, hq, e⟩
        omega
      have hm1 : 1 ≤ m := by
        match T, hTl with
        | q :: T', _ => have := hlt q List.mem_cons_self; omega
      have hKp := KL_perm (hT.map (·.2))
      simp only [List.map_cons, KL] at hKp
      have hd := KL_dvd m hm1 hm15 (T.map (·.2)) (by intro z hz; obtain ⟨q, hq, rfl⟩ := List.mem_map.1 hz; exact hlt q hq)
      have hpow : 2 ^ (16 - m) = 2 * 2 ^ (15 - m) := by rw [show 16 - m = (15 - m) + 1 by omega, Nat.pow_succ, Nat.mul_comm]
      have hdm : 2 ^ (16 - m) ∣ 2 ^ 15 := Nat.pow_dvd_pow 2 (by omega)
      have hpos : 0 < 2 ^ (15 - m) := Nat.two_pow_pos _
      have hK2 : KL (T.map (·.2)) + 2 ^ (16 - m) ≤ 2 ^ 15 := by
        obtain ⟨u, hu⟩ := hd
        obtain ⟨v, hv⟩ := hdm
        have h5 : KL (T.map (·.2)) < 2 ^ 15 := by omega
        rw [hu, hv] at h5 ⊢
        have h6 : u < v := Nat.lt_of_mul_lt_mul_left h5
        calc 2 ^ (16 - m) * u + 2 ^ (16 - m) = 2 ^ (16 - m) * (u + 1) := by rw [Nat.mul_add, Nat.mul_one]
          _ ≤ 2 ^ (16 - m) * v := Nat.mul_le_mul_left _ h6
      have hsp := sumN_perm (hT.map (·.2))
      simp only [List.map_cons, sumN] at hsp
      obtain ⟨x', y', m2, T2, h7, h8, h9, h10, h11, h12⟩ := ih ((x, m - 1) :: T) (by simp only [List.map_cons, sumN]; omega) (by simp; omega) (by
        intro q hq
        rcases List.mem_cons.1 hq with rfl | hq
        · exact ⟨hx0, by show m - 1 ≤ 15; omega⟩
        · exact hp q (hTm q hq)) (by simp only [List.map_cons, KL]; rw [show 15 - (m - 1) = 16 - m by omega]; omega)
      refine ⟨x', y', m2, T2, h7.trans ?_, h8, Int.le_trans h9 ?_, h10, h11, h12⟩
      · exact (hT.map (·.1)).symm
      · rw [cst_perm hT]
        simp only [cst]
        have h13 : x * ((m - 1 : Nat) : Int) ≤ x * (m : Int) := Int.mul_le_mul_of_nonneg_left (by omega) hx0
        omega
/-- The least weight takes a longest length's place. -/
theorem put_one {x a : Int} {m : Nat} {T : List (Int × Nat)} (hT : ∀ p ∈ T, p.2 ≤ m) (ha : a ∈ ((x, m) :: T).map (·.1)) (hle : ∀ z ∈ ((x, m) :: T).map (·.1), a ≤ z) :
    ∃ T', (((a, m) :: T').map (·.1)).Perm (((x, m) :: T).map (·.1)) ∧ (T'.map (·.2)).Perm (T.map (·.2)) ∧ cst ((a, m) :: T') ≤ cst ((x, m) :: T) := by
  simp only [List.map_cons, List.mem_cons] at ha
  rcases ha with rfl | ha
  · exact ⟨T, List.Perm.refl _, List.Perm.refl _, Int.le_refl _⟩
  · obtain ⟨q, hq, hqa⟩ := List.mem_map.1 ha
    obtain ⟨T2, hT2⟩ := perm_of_mem hq
    obtain ⟨a', l⟩ := q
    simp only at hqa
    subst hqa
    have hlm := hT _ hq
    simp only at hlm
    have hax : a' ≤ x := hle x (by simp)
    refine ⟨(x, l) :: T2, ?_, ?_, ?_⟩
    · simp only [List.map_cons]
      have h7 := (hT2.map (fun p : Int × Nat => p.1)).symm
      simp only [List.map_cons] at h7
      exact (List.Perm.swap x a' _).trans (List.Perm.cons x h7)
    · exact (hT2.map (·.2)).symm
    · simp only [cst]
      rw [cst_perm hT2]
      simp only [cst]
      have h1 : 0 ≤ (x - a') * ((m : Int) - (l : Int)) := Int.mul_nonneg (by omega) (by omega)
      rw [Int.sub_mul, Int.mul_sub, Int.mul_sub] at h1
      omega
/-- Merges of the two least weights, and what they cost. -/
inductive HM : List Int → Int → Prop
  | one {w : Int} : HM [w] 0
  | step {L R : List Int} {a b c : Int} (hp : L.Perm (a :: b :: R)) (ha : ∀ z ∈ b :: R, a ≤ z) (hb : ∀ z ∈ R, b ≤ z) (h0 : 0 ≤ a) (h : HM (R ++ [a + b]) c) : HM L (c + (a + b))
/-- No lengths cost less than the merges do. -/
theorem HM.least {L : List Int} {c : Int} (h : HM L c) : ∀ ps : List (Int × Nat), (ps.map (·.1)).Perm L → (∀ p ∈ ps, 0 ≤ p.1 ∧ p.2 ≤ 15) → KL (ps.map (·.2)) ≤ 2 ^ 15 → c ≤ cst ps := by
  induction h with
  | one =>
    intro ps hp hw hK
    have : ∀ qs : List (Int × Nat), (∀ p ∈ qs, 0 ≤ p.1 ∧ p.2 ≤ 15) → 0 ≤ cst qs := by
      intro qs
      induction qs with
      | nil => intro _; exact Int.le_refl _
      | cons q qs ih =>
        intro h
        have h1 := ih (fun p hp => h p (List.mem_cons_of_mem _ hp))
        have h2 : 0 ≤ q.1 * (q.2 : Int) := Int.mul_nonneg (h q List.mem_cons_self).1 (Int.natCast_nonneg _)
        simp only [cst]
        omega
    exact this ps hw
  | @step L R a b c hp ha hb h0 h ih =>
    intro ps hps hw hK
    have hl : 2 ≤ ps.length := by
      have h1 := hps.length_eq
      have h2 := hp.length_eq
      simp at h1 h2
      omega
    obtain ⟨x, y, m, T, h1, h2, h3, h4, h5, h6⟩ := two_long _ ps (Nat.le_refl _) hl hw hK
    have hwp := h1.trans (hps.trans hp)
    obtain ⟨T1, g1, g2, g3⟩ := put_one (x := x) (a := a) (m := m) (T := (y, m) :: T) (by
      intro p hp
      rcases List.mem_cons.1 hp with rfl | hp
      · exact Nat.le_refl _
      · exact h4 p hp) (hwp.mem_iff.2 List.mem_cons_self) (by
      intro z hz
      rcases List.mem_cons.1 (hwp.mem_iff.1 hz) with rfl | hz
      · exact Int.le_refl _
      · exact ha z hz)
    have g4 : (T1.map (·.1)).Perm (b :: R) := by
      have := g1.trans hwp
      simp only [List.map_cons] at this
      exact List.Perm.cons_inv this
    have hmm : m ∈ T1.map (·.2) := g2.mem_iff.2 (by simp)
    obtain ⟨q, hq, hqm⟩ := List.mem_map.1 hmm
    obtain ⟨T2, hT2⟩ := perm_of_mem hq
    obtain ⟨y', m'⟩ := q
    simp only at hqm
    subst hqm
    have g5 : (T2.map (·.2)).Perm (T.map (·.2)) := by
      have h7 := (hT2.map (·.2)).symm.trans g2
      simp only [List.map_cons] at h7
      exact List.Perm.cons_inv h7
    have g6 := (hT2.map (·.1)).symm.trans g4
    obtain ⟨T3, k1, k2, k3⟩ := put_one (x := y') (a := b) (m := m') (T := T2) (by
      intro p hp
      have h8 : p.2 ∈ T.map (·.2) := g5.mem_iff.1 (List.mem_map_of_mem hp)
      obtain ⟨r, hr, e⟩ := List.mem_map.1 h8
      have := h4 r hr
      omega) (g6.mem_iff.2 List.mem_cons_self) (by
      intro z hz
      rcases List.mem_cons.1 (g6.mem_iff.1 hz) with rfl | hz
      · exact Int.le_refl _
      · exact hb z hz)
    have g7 : (T3.map (·.1)).Perm R := by
      have h9 := k1.trans g6
      simp only [List.map_cons] at h9
      exact List.Perm.cons_inv h9
    have hKe : KL (T3.map (·.2)) + 2 * 2 ^ (15 - m') ≤ 2 ^ 15 := by
      have h10 := KL_perm (k2.trans g5)
      simp only [List.map_cons, KL] at h2
      omega
    have hm1 : 1 ≤ m' := by
      rcases Nat.eq_zero_or_pos m' with e | e
      · subst e
        have : 2 ^ (15 - 0) = 32768 := rfl
        omega
      · exact e
    have hfin := ih ((a + b, m' - 1) :: T3) (by
      simp only [List.map_cons]
      exact (List.Perm.cons _ g7).trans (List.perm_append_singleton (a + b) R).symm) (by
      intro p hp
      rcases List.mem_cons.1 hp with rfl | hp
      · refine ⟨?_, by show m' - 1 ≤ 15; omega⟩
        show 0 ≤ a + b
        have := ha b List.mem_cons_self
        omega
      · have h11 : p.1 ∈ R := g7.mem_iff.1 (List.mem_map_of_mem hp)
        have h12 := hb p.1 h11
        have h13 := ha b List.mem_cons_self
        have h14 : p.2 ∈ T.map (·.2) := (k2.trans g5).mem_iff.1 (List.mem_map_of_mem hp)
        obtain ⟨r, hr, e⟩ := List.mem_map.1 h14
        have := h4 r hr
        exact ⟨by omega, by omega⟩) (by
      simp only [List.map_cons, KL]
      rw [show 15 - (m' - 1) = (15 - m') + 1 by omega, Nat.pow_succ]
      omega)
    have hc1 := cst_perm hT2
    simp only [cst] at hfin g3 k3 hc1 h3
    have e1 : ((m' - 1 : Nat) : Int) = (m' : Int) - 1 := by omega
    rw [e1, Int.mul_sub, Int.mul_one, Int.add_mul] at hfin
    omega
end Go.Proofs.Ytnadgcdkcabdoaa.Hop
namespace Go.Proofs.Ytnadgcdkcabdoaa.Hoq
open Go Go.RowKit Go.Proofs.YtnadgcdkcabdoaaW.PrintWords Go.Proofs.YtnadgcdkcabdoaaW.PrintLast Go.Proofs.YtnadgcdkcabdoaaW.PrintMore Go.Proofs.Ytnadgcdkcabdoaa.Aid Go.Proofs.Ytnadgcdkcabdoaa.U Go.Proofs.Ytnadgcdkcabdoaa.Least Go.Proofs.Ytnadgcdkcabdoaa.Tab Go.Proofs.Ytnadgcdkcabdoaa.Huf Go.Proofs.Ytnadgcdkcabdoaa.Hug Go.Proofs.Ytnadgcdkcabdoaa.Hop
theorem rd66_at {L : List Nd} {i : Nat} (h : i < L.length) : rd_T66 L (i : Int) = L[i] := by
  unfold rd_T66
  rw [List.getD_eq_getElem?_getD]
  simp [h]
/-- The node that is taken is the least one. -/
theorem best_min (L : List Nd) : ∀ (i j : Nat), j < i → (rd_T66 L (best L i : Int)).f0 ≤ (rd_T66 L (j : Int)).f0
  | 0, j, h => absurd h (Nat.not_lt_zero _)
  | i + 1, j, h => by
    unfold best
    rcases Nat.lt_or_ge j i with c | c
    · have h1 := best_min L i j c
      split
      · omega
      · exact h1
    · obtain rfl : j = i := by omega
      split
      · exact Int.le_refl _
      · omega
theorem best_all {L : List Nd} {x : Nd} (hx : x ∈ L) : (rd_T66 L (best L L.length : Int)).f0 ≤ x.f0 := by
  obtain ⟨i, hi, rfl⟩ := List.getElem_of_mem hx
  have := best_min L L.length i hi
  rwa [rd66_at hi] at this
theorem cut_perm {L : List Nd} {b : Nat} (h : b < L.length) : L.Perm (rd_T66 L (b : Int) :: cut L b) := by
  have e := split66 h
  unfold cut
  generalize rd_T66 L (b : Int) = y at e ⊢
  conv => lhs; rw [e]
  exact List.perm_middle
/-- What the counts of places are together. -/
def cs (l : List Int) : List Int → Int
  | [] => 0
  | j :: B => rd l j + cs l B
theorem cs_app (l : List Int) : ∀ (A B : List Int), cs l (A ++ B) = cs l A + cs l B
  | [], B => by simp [cs]
  | a :: A, B => by simp only [List.cons_append, cs]; rw [cs_app l A B]; omega
/-- What lengths at places take of 2^64. -/
def sk (o : List Int) : List Int → Nat
  | [] => 0
  | j :: B => 2 ^ (64 - (rd o j).toNat) + sk o B
theorem sk_app (o : List Int) : ∀ (A B : List Int), sk o (A ++ B) = sk o A + sk o B
  | [], B => by simp [sk]
  | a :: A, B => by simp only [List.cons_append, sk]; rw [sk_app o A B]; omega
theorem rd_set (o : List Int) (i j : Int) (x : Int) (hi : 0 ≤ i ∧ i < o.length) (hj : 0 ≤ j) : rd (o.set i.toNat x) j = if j = i then x else rd o j := by
  unfold rd
  rw [List.getD_eq_getElem?_getD, List.getD_eq_getElem?_getD, List.getElem?_set]
  by_cases c : j = i
  · subst c
    rw [if_pos rfl, if_pos rfl, if_pos (by omega)]
    rfl
  · rw [if_neg (by omega), if_neg c]
/-- One more at each of the places. -/
theorem rd_incr : ∀ (B o : List Int) (j : Int), 0 ≤ j → B.Nodup → (∀ i ∈ B, 0 ≤ i ∧ i < o.length) → (∀ i ∈ B, 0 ≤ rd o i ∧ rd o i ≤ 1000) → rd (incr o B) j = if j ∈ B then rd o j + 1 else rd o j
  | [], o, j, _, _, _, _ => by simp [incr]
  | b :: B, o, j, hj, hn, hi, hr => by
    rw [List.nodup_cons] at hn
    have hb := hi b List.mem_cons_self
    have hrb := hr b List.mem_cons_self
    have hs : ∀ i : Int, 0 ≤ i → rd (o.set b.toNat (wrap64 (rd o b + 1))) i = if i = b then rd o b + 1 else rd o i := by
      intro i h0
      rw [rd_set o b i _ hb h0, wrap_id (by omega) (by omega)]
    unfold incr
    rw [rd_incr B _ j hj hn.2 (by rw [List.length_set]; exact fun i h => hi i (List.mem_cons_of_mem _ h)) (by
      intro i h
      have h0 := hi i (List.mem_cons_of_mem _ h)
      rw [hs i h0.1, if_neg (by intro e; rw [e] at h; exact hn.1 h)]
      exact hr i (List.mem_cons_of_mem _ h))]
    rw [hs j hj]
    by_cases c : j = b
    · subst c
      rw [if_neg hn.1, if_pos rfl, if_pos List.mem_cons_self]
    · rw [if_neg c]
      by_cases c2 : j ∈ B
      · rw [if_pos c2, if_pos (List.mem_cons_of_mem _ c2)]
      · rw [if_neg c2, if_neg (by simp [c, c2])]
/-- All places below nodes. -/
def fl (L : List Nd) : List Int := L.flatMap (·.f1)
theorem fl_perm {L M : List Nd} (h : L.Perm M) : (fl L).Perm (fl M) := h.flatMap_right _
/-- Nodes over places, the lengths so far, and the counts. -/
structure J (l : List Int) (L : List Nd) (o : List Int) : Prop where
  nd : (fl L).Nodup
  at_ : ∀ j ∈ fl L, 0 ≤ j ∧ j < o.length
  w : ∀ x ∈ L, x.f0 = cs l x.f1 ∧ 0 ≤ x.f0 ∧ x.f0 ≤ 1000000 * x.f1.length
  k : ∀ x ∈ L, sk o x.f1 = 2 ^ 64
  r : ∀ j, 0 ≤ rd o j ∧ rd o j + L.length ≤ 64
  t : tot L ≤ 64
theorem sk_same {o o' : List Int} : ∀ (B : List Int), (∀ j ∈ B, rd o' j = rd o j) → sk o' B = sk o B
  | [], _ => rfl
  | b :: B, h => by
    simp only [sk]
    rw [h b List.mem_cons_self, sk_same B (fun j hj => h j (List.mem_cons_of_mem _ hj))]
theorem sk_half {o o' : List Int} : ∀ (B : List Int), (∀ j ∈ B, rd o' j = rd o j + 1 ∧ 0 ≤ rd o j ∧ rd o j ≤ 63) → 2 * sk o' B = sk o B
  | [], _ => rfl
  | b :: B, h => by
    have h1 := h b List.mem_cons_self
    have h2 := sk_half B (fun j hj => h j (List.mem_cons_of_mem _ hj))
    simp only [sk]
    have h3 : 64 - (rd o b).toNat = (64 - (rd o' b).toNat) + 1 := by omega
    rw [h3, Nat.pow_succ]
    omega
theorem tot_fl : ∀ (L : List Nd), (fl L).length = tot L
  | [] => rfl
  | x :: L => by
    have := tot_fl L
    unfold fl at this ⊢
    rw [List.flatMap_cons, List.length_append, this]
    rfl
/-- One merge. -/
theorem J.mrg {l : List Int} {L : List Nd} {o : List Int} (h : J l L o) (h1 : 1 < L.length) (hL : L.length ≤ 64) :
    ∃ a b R, (L.map (·.f0)).Perm (a :: b :: R) ∧ (∀ z ∈ b :: R, a ≤ z) ∧ (∀ z ∈ R, b ≤ z) ∧ 0 ≤ a ∧ (Huf.mrg L).1.map (·.f0) = R ++ [a + b] ∧ (Huf.mrg L).2.Nodup ∧ (∀ j ∈ (Huf.mrg L).2, 0 ≤ j ∧ j < o.length) ∧ cs l (Huf.mrg L).2 = a + b ∧ (fl (Huf.mrg L).1).Perm (fl L) ∧ (Huf.mrg L).1.length + 1 = L.length ∧ J l (Huf.mrg L).1 (incr o (Huf.mrg L).2) := by
  have hok : Ok o.length L := ⟨hL, h.t, fun x hx j hj => h.at_ j (List.mem_flatMap.2 ⟨x, hx, hj⟩)⟩
  have hm := mrg_ok hok h1
  have hb := hm.b
  have hq := hm.q
  have hp1 := cut_perm hb
  have hp2 := cut_perm hq
  have hone := hm.one
  have hmin1 : ∀ x ∈ L, (rd_T66 L (best L L.length : Int)).f0 ≤ x.f0 := fun x hx => best_all hx
  have hmin2 : ∀ x ∈ cut L (best L L.length), (rd_T66 (cut L (best L L.length)) (best (cut L (best L L.length)) (cut L (best L L.length)).length : Int)).f0 ≤ x.f0 := fun x hx => best_all hx
  have hx1 := rd66_mem hb
  have hx2 := rd66_mem hq
  have em1 : (Huf.mrg L).1 = cut (cut L (best L L.length)) (best (cut L (best L L.length)) (cut L (best L L.length)).length) ++ [⟨wrap64 ((rd_T66 L (best L L.length : Int)).f0 + (rd_T66 (cut L (best L L.length)) (best (cut L (best L L.length)) (cut L (best L L.length)).length : Int)).f0), (rd_T66 L (best L L.length : Int)).f1 ++ (rd_T66 (cut L (best L L.length)) (best (cut L (best L L.length)) (cut L (best L L.length)).length : Int)).f1⟩] := rfl
  have em2 : (Huf.mrg L).2 = (rd_T66 L (best L L.length : Int)).f1 ++ (rd_T66 (cut L (best L L.length)) (best (cut L (best L L.length)) (cut L (best L L.length)).length : Int)).f1 := rfl
  have hx2L := cut_mem hx2
  have hcut : ∀ x ∈ cut (cut L (best L L.length)) (best (cut L (best L L.length)) (cut L (best L L.length)).length), x ∈ cut L (best L L.length) := fun x hx => cut_mem hx
  rw [em1, em2]
  rw [em1] at hone
  generalize cut (cut L (best L L.length)) (best (cut L (best L L.length)) (cut L (best L L.length)).length) = R2 at *
  generalize rd_T66 (cut L (best L L.length)) (best (cut L (best L L.length)) (cut L (best L L.length)).length : Int) = y at *
  generalize rd_T66 L (best L L.length : Int) = x at *
  generalize cut L (best L L.length) = M at *
  have hpp : L.Perm (x :: y :: R2) := hp1.trans (List.Perm.cons x hp2)
  have hflp := fl_perm hpp
  have hfe : fl (x :: y :: R2) = x.f1 ++ y.f1 ++ fl R2 := by unfold fl; rw [List.flatMap_cons, List.flatMap_cons, List.append_assoc]
  rw [hfe] at hflp
  have hnd := hflp.nodup_iff.1 h.nd
  rw [List.nodup_append] at hnd
  obtain ⟨hnd1, hnd2, hnd3⟩ := hnd
  have wx := h.w x hx1
  have wy := h.w y hx2L
  have htp : tot (x :: y :: R2) = tot L := by rw [← tot_fl, ← tot_fl]; exact (fl_perm hpp).length_eq.symm
  have ht := h.t
  simp only [tot] at htp
  have hwr : wrap64 (x.f0 + y.f0) = x.f0 + y.f0 := by rw [wrap_id] <;> omega
  rw [hwr]
  have hatB : ∀ j ∈ x.f1 ++ y.f1, 0 ≤ j ∧ j < o.length := fun j hj => h.at_ j (hflp.mem_iff.2 (List.mem_append_left _ hj))
  have hrB : ∀ j ∈ x.f1 ++ y.f1, 0 ≤ rd o j ∧ rd o j ≤ 1000 := fun j hj => by have := h.r j; omega
  have hinc := fun (j : Int) (h0 : 0 ≤ j) => rd_incr (x.f1 ++ y.f1) o j h0 hnd1 hatB hrB
  have hR2L : ∀ z ∈ R2, z ∈ L := fun z hz => hpp.mem_iff.2 (List.mem_cons_of_mem _ (List.mem_cons_of_mem _ hz))
  have hflm : (fl (R2 ++ [⟨x.f0 + y.f0, x.f1 ++ y.f1⟩])).Perm (fl L) := by
    have e : fl (R2 ++ [⟨x.f0 + y.f0, x.f1 ++ y.f1⟩]) = fl R2 ++ (x.f1 ++ y.f1) := by unfold fl; simp
    rw [e]
    exact List.perm_append_comm.trans hflp.symm
  have hlen : (R2 ++ [(⟨x.f0 + y.f0, x.f1 ++ y.f1⟩ : Nd)]).length + 1 = L.length := by
    rw [List.length_append] at hone ⊢
    exact hone
  refine ⟨x.f0, y.f0, R2.map (·.f0), hpp.map _, ?_, ?_, wx.2.1, ?_, hnd1, hatB, ?_, hflm, hlen, ?_⟩
  · intro z hz
    rcases List.mem_cons.1 hz with rfl | hz
    · exact hmin1 y hx2L
    · obtain ⟨q, hq2, rfl⟩ := List.mem_map.1 hz
      exact hmin1 q (hR2L q hq2)
  · intro z hz
    obtain ⟨q, hq2, rfl⟩ := List.mem_map.1 hz
    exact hmin2 q (hcut q hq2)
  · rw [List.map_append]; rfl
  · rw [cs_app, ← wx.1, ← wy.1]
  · refine ⟨hflm.nodup_iff.2 h.nd, ?_, ?_, ?_, ?_, ?_⟩
    · intro j hj
      rw [incr_len]
      exact h.at_ j (hflm.mem_iff.1 hj)
    · intro z hz
      rcases List.mem_append.1 hz with hz | hz
      · exact h.w z (hR2L z hz)
      · rw [List.mem_singleton.1 hz]
        refine ⟨?_, by show 0 ≤ x.f0 + y.f0; omega, ?_⟩
        · show x.f0 + y.f0 = cs l (x.f1 ++ y.f1)
          rw [cs_app, ← wx.1, ← wy.1]
        · show x.f0 + y.f0 ≤ 1000000 * ((x.f1 ++ y.f1).length : Int)
          rw [List.length_append]
          have := wx.2.2
          have := wy.2.2
          omega
    · intro z hz
      rcases List.mem_append.1 hz with hz | hz
      · rw [sk_same z.f1, h.k z (hR2L z hz)]
        intro j hj
        have hj2 : j ∈ fl R2 := List.mem_flatMap.2 ⟨z, hz, hj⟩
        have h0 := (h.at_ j (hflp.mem_iff.2 (List.mem_append_right _ hj2))).1
        rw [hinc j h0, if_neg (fun hj3 => hnd3 j hj3 j hj2 rfl)]
      · rw [List.mem_singleton.1 hz]
        have h3 := sk_half (o := o) (o' := incr o (x.f1 ++ y.f1)) (x.f1 ++ y.f1) (fun j hj => ⟨by rw [hinc j (hatB j hj).1, if_pos hj], by have := h.r j; omega⟩)
        rw [sk_app o, h.k x hx1, h.k y hx2L] at h3
        show sk (incr o (x.f1 ++ y.f1)) (x.f1 ++ y.f1) = 2 ^ 64
        omega
    · intro j
      by_cases h0 : 0 ≤ j
      · rw [hinc j h0]
        have := h.r j
        split <;> omega
      · have e : rd (incr o (x.f1 ++ y.f1)) j = rd (incr o (x.f1 ++ y.f1)) 0 := by unfold rd; rw [show j.toNat = (0 : Int).toNat by omega]
        rw [e, hinc 0 (Int.le_refl _)]
        have := h.r 0
        split <;> omega
    · rw [← tot_fl, hflm.length_eq, tot_fl]
      exact h.t
/-- What the lengths at places cost. -/
def co (l o : List Int) : List Int → Int
  | [] => 0
  | j :: B => rd l j * rd o j + co l o B
theorem co_perm {l o A B : List Int} (h : A.Perm B) : co l o A = co l o B := by
  induction h with
  | nil => rfl
  | cons x _ ih => simp only [co]; omega
  | swap x y l => simp only [co]; omega
  | trans _ _ h1 h2 => exact h1.trans h2
theorem co_app (l o : List Int) : ∀ (A B : List Int), co l o (A ++ B) = co l o A + co l o B
  | [], B => by simp [co]
  | a :: A, B => by simp only [List.cons_append, co]; rw [co_app l o A B]; omega
theorem co_same {l o o' : List Int} : ∀ (B : List Int), (∀ j ∈ B, rd o' j = rd o j) → co l o' B = co l o B
  | [], _ => rfl
  | b :: B, h => by
    simp only [co]
    rw [h b List.mem_cons_self, co_same B (fun j hj => h j (List.mem_cons_of_mem _ hj))]
theorem co_one {l o o' : List Int} : ∀ (B : List Int), (∀ j ∈ B, rd o' j = rd o j + 1) → co l o' B = co l o B + cs l B
  | [], _ => rfl
  | b :: B, h => by
    simp only [co, cs]
    rw [h b List.mem_cons_self, co_one B (fun j hj => h j (List.mem_cons_of_mem _ hj)), Int.mul_add]
    omega
/-- The lengths cost what the merges cost, and take all that there is. -/
theorem huff_hm (l : List Int) : ∀ (n : Nat) (L : List Nd) (o : List Int), L.length ≤ n + 1 → 0 < L.length → L.length ≤ 64 → J l L o → ∃ c, HM (L.map (·.f0)) c ∧ co l (huff n L o) (fl L) = co l o (fl L) + c ∧ sk (huff n L o) (fl L) = 2 ^ 64 ∧ (∀ j, 0 ≤ rd (huff n L o) j ∧ rd (huff n L o) j ≤ 63) ∧ (∀ j, 0 ≤ j → j ∉ fl L → rd (huff n L o) j = rd o j)
  | n, L, o, hn, h0, h64, h => by
    by_cases h1 : 1 < L.length
    · match n, hn with
      | 0, hn => omega
      | n + 1, hn =>
        obtain ⟨a, b, R, g1, g2, g3, g4, g5, g6, g7, g8, g9, g10, g11⟩ := h.mrg h1 h64
        obtain ⟨c, k1, k2, k3, k4, k5⟩ := huff_hm l n (Huf.mrg L).1 (incr o (Huf.mrg L).2) (by omega) (by omega) (by omega) g11
        have e : huff (n + 1) L o = huff n (Huf.mrg L).1 (incr o (Huf.mrg L).2) := by
          conv => lhs; unfold huff
          rw [if_pos h1]
        rw [e]
        have hrB : ∀ j ∈ (Huf.mrg L).2, 0 ≤ rd o j ∧ rd o j ≤ 1000 := fun j hj => by have := h.r j; omega
        have hinc := fun (j : Int) (h0 : 0 ≤ j) => rd_incr (Huf.mrg L).2 o j h0 g6 g7 hrB
        rw [g5] at k1
        refine ⟨c + (a + b), HM.step g1 g2 g3 g4 k1, ?_, ?_, k4, ?_⟩
        · rw [co_perm g9.symm, k2, co_perm g9]
          have hsub : ∃ C, (fl L).Perm ((Huf.mrg L).2 ++ C) := by
            have e2 : fl (Huf.mrg L).1 = fl (cut (cut L (best L L.length)) (best (cut L (best L L.length)) (cut L (best L L.length)).length)) ++ (Huf.mrg L).2 := by
              show fl (_ ++ [_]) = _
              unfold fl
              rw [List.flatMap_append, List.flatMap_cons, List.flatMap_nil, List.append_nil]
              rfl
            exact ⟨_, g9.symm.trans (e2 ▸ List.perm_append_comm)⟩
          obtain ⟨C, hC⟩ := hsub
          have hnd := hC.nodup_iff.1 h.nd
          rw [List.nodup_append] at hnd
          have hat : ∀ j ∈ C, 0 ≤ j := fun j hj => (h.at_ j (hC.mem_iff.2 (List.mem_append_right _ hj))).1
          rw [co_perm hC, co_perm (l := l) (o := o) hC, co_app, co_app, co_one (o := o) (Huf.mrg L).2 (fun j hj => by rw [hinc j (g7 j hj).1, if_pos hj]), co_same (o := o) C (fun j hj => by rw [hinc j (hat j hj), if_neg (fun hj2 => hnd.2.2 j hj2 j hj rfl)]), g8]
          omega
        · have : ∀ (o2 : List Int) {A B : List Int}, A.Perm B → sk o2 A = sk o2 B := by
            intro o2 A B hp
            induction hp with
            | nil => rfl
            | cons x _ ih => simp only [sk]; omega
            | swap x y l => simp only [sk]; omega
            | trans _ _ h1 h2 => exact h1.trans h2
          rw [this _ g9.symm]
          exact k3
        · intro j hj0 hj
          have hj2 : j ∉ fl (Huf.mrg L).1 := fun h2 => hj (g9.mem_iff.1 h2)
          rw [k5 j hj0 hj2, hinc j hj0, if_neg]
          intro hj3
          apply hj2
          have e2 : fl (Huf.mrg L).1 = fl (cut (cut L (best L L.length)) (best (cut L (best L L.length)) (cut L (best L L.length)).length)) ++ (Huf.mrg L).2 := by
            show fl (_ ++ [_]) = _
            unfold fl
            rw [List.flatMap_append, List.flatMap_cons, List.flatMap_nil, List.append_nil]
            rfl
          rw [e2]
          exact List.mem_append_right _ hj3
    · have e : huff n L o = o := by
        cases n with
        | zero => rfl
        | succ n => unfold huff; rw [if_neg h1]
      rw [e]
      obtain ⟨x, rfl⟩ : ∃ x, L = [x] := List.length_eq_one_iff.1 (by omega)
      · refine ⟨0, HM.one, by rw [Int.add_zero], ?_, fun j => by have := h.r j; simp at this; omega, fun _ _ _ => rfl⟩
        have e2 : fl [x] = x.f1 := by unfold fl; simp
        rw [e2]
        exact h.k x List.mem_cons_self
/-- The places of the counts that are there. -/
def pl (l : List Int) (i : Nat) : List Int := fl (lv l i)
theorem pl_succ (l : List Int) (i : Nat) : pl l (i + 1) = if 0 < rd l (i : Int) then pl l i ++ [(i : Int)] else pl l i := by
  unfold pl
  simp only [lv]
  split
  · unfold fl
    rw [List.flatMap_append, List.flatMap_cons, List.flatMap_nil, List.append_nil]
  · rfl
theorem pl_lt (l : List Int) : ∀ (i : Nat) (j : Int), j ∈ pl l i ↔ 0 ≤ j ∧ j < i ∧ 0 < rd l j
  | 0, j => by
    unfold pl lv fl
    simp
    omega
  | i + 1, j => by
    rw [pl_succ]
    have ih := pl_lt l i j
    split
    · rename_i h
      rw [List.mem_append, ih, List.mem_singleton]
      constructor
      · rintro (h1 | rfl)
        · omega
        · exact ⟨by omega, by omega, h⟩
      · intro h1
        by_cases c : j = (i : Int)
        · exact .inr c
        · exact .inl ⟨h1.1, by omega, h1.2.2⟩
    · rename_i h
      rw [ih]
      constructor
      · intro h1; omega
      · intro h1
        refine ⟨h1.1, ?_, h1.2.2⟩
        by_cases c : j = (i : Int)
        · rw [c] at h1; exact absurd h1.2.2 h
        · omega
theorem pl_nodup (l : List Int) : ∀ i, (pl l i).Nodup
  | 0 => by unfold pl lv fl; simp
  | i + 1 => by
    rw [pl_succ]
    have ih := pl_nodup l i
    split
    · rw [List.nodup_append]
      refine ⟨ih, by simp, ?_⟩
      intro a ha b hb e
      rw [List.mem_singleton.1 hb] at e
      have := (pl_lt l i a).1 ha
      omega
    · exact ih
theorem lv_node (l : List Int) : ∀ i, ∀ x ∈ lv l i, ∃ j : Nat, j < i ∧ x = ⟨rd l (j : Int), [(j : Int)]⟩ ∧ 0 < rd l (j : Int)
  | 0, x, h => by simp [lv] at h
  | i + 1, x, h => by
    simp only [lv] at h
    split at h
    · rename_i c
      rcases List.mem_append.1 h with h | h
      · obtain ⟨j, a, b⟩ := lv_node l i x h
        exact ⟨j, by omega, b⟩
      · exact ⟨i, by omega, List.mem_singleton.1 h, c⟩
    · obtain ⟨j, a, b⟩ := lv_node l i x h
      exact ⟨j, by omega, b⟩
theorem lv_f0 (l : List Int) : ∀ i, (lv l i).map (·.f0) = (pl l i).map (rd l)
  | 0 => rfl
  | i + 1 => by
    rw [pl_succ]
    simp only [lv]
    split
    · rw [List.map_append, List.map_append, lv_f0 l i]
      rfl
    · exact lv_f0 l i
theorem pl_len (l : List Int) (i : Nat) : (pl l i).length = (lv l i).length := by
  have := congrArg List.length (lv_f0 l i)
  rw [List.length_map, List.length_map] at this
  exact this.symm
theorem rd_rep (m : Nat) (j : Int) : rd (List.replicate m 0) j = 0 := by
  unfold rd
  rw [List.getD_eq_getElem?_getD, List.getElem?_replicate]
  split <;> rfl
theorem sk_zero (o : List Int) (j : Int) (h : rd o j = 0) : sk o [j] = 2 ^ 64 := by
  simp only [sk, h]
  rfl
/-- The leaves. -/
theorem lv_J (l : List Int) (h64 : l.length ≤ 64) (hb : ∀ j, rd l j ≤ 1000000) : J l (lv l l.length) (List.replicate l.length 0) := by
  have hl := lv_len l l.length
  refine ⟨pl_nodup l _, ?_, ?_, ?_, ?_, Nat.le_trans (lv_tot _ _) h64⟩
  · intro j hj
    have := (pl_lt l _ j).1 hj
    rw [List.length_replicate]
    omega
  · intro x hx
    obtain ⟨j, h1, rfl, h3⟩ := lv_node l _ x hx
    have := hb j
    refine ⟨by simp [cs], by show 0 ≤ rd l j; omega, by show rd l j ≤ 1000000 * ((1 : Nat) : Int); omega⟩
  · intro x hx
    obtain ⟨j, h1, rfl, h3⟩ := lv_node l _ x hx
    exact sk_zero _ _ (rd_rep _ _)
  · intro j
    rw [rd_rep]
    omega
theorem co_zero (l : List Int) (m : Nat) : ∀ B, co l (List.replicate m 0) B = 0
  | [] => rfl
  | b :: B => by
    simp only [co]
    rw [rd_rep, co_zero l m B]
    omega
/-- Lengths at places, as Kraft's sum takes them. -/
def kl (f : Int → Int) (B : List Int) : Nat := KL (B.map fun j => (f j).toNat)
theorem sk_kl (o : List Int) : ∀ (B : List Int), (∀ j ∈ B, 0 ≤ rd o j ∧ rd o j ≤ 15) → sk o B = 2 ^ 49 * kl (rd o) B
  | [], _ => rfl
  | b :: B, h => by
    have h1 := h b List.mem_cons_self
    have h2 := sk_kl o B (fun j hj => h j (List.mem_cons_of_mem _ hj))
    unfold kl at h2 ⊢
    simp only [sk, List.map_cons, KL]
    rw [h2, Nat.mul_add, ← Nat.pow_add, show 49 + (15 - (rd o b).toNat) = 64 - (rd o b).toNat by omega]
theorem sk_pos (o : List Int) : ∀ (B : List Int), B ≠ [] → 0 < sk o B
  | b :: B, _ => by
    have : 0 < 2 ^ (64 - (rd o b).toNat) := Nat.two_pow_pos _
    simp only [sk]
    omega
theorem cst_co (l : List Int) (f : Int → Int) : ∀ (B : List Int), (∀ j ∈ B, 0 ≤ f j) → cst (B.map fun j => (rd l j, (f j).toNat)) = (B.map fun j => rd l j * f j).sum
  | [], _ => rfl
  | b :: B, h => by
    have h1 := h b List.mem_cons_self
    simp only [List.map_cons, cst, List.sum_cons]
    rw [cst_co l f B (fun j hj => h j (List.mem_cons_of_mem _ hj)), Int.toNat_of_nonneg h1]
/-- Huffman's lengths: they make a table, a full one of two counts and more, and none costs less. -/
theorem res_least (l o : List Int) (h : res l = (o, 0)) : l.length ≤ 64 ∧ o.length = l.length ∧ (∀ j, 0 ≤ rd l j ∧ rd l j ≤ 1000000) ∧ pl l l.length ≠ [] ∧ (∀ j, 0 ≤ rd o j ∧ rd o j ≤ 15) ∧ (∀ j ∈ pl l l.length, 1 ≤ rd o j) ∧ kl (rd o) (pl l l.length) ≤ 2 ^ 15 ∧ (1 < (pl l l.length).length → kl (rd o) (pl l l.length) = 2 ^ 15) ∧
    ∀ f : Int → Int, (∀ j ∈ pl l l.length, 1 ≤ f j ∧ f j ≤ 15) → kl f (pl l l.length) ≤ 2 ^ 15 → co l o (pl l l.length) ≤ ((pl l l.length).map fun j => rd l j * f j).sum := by
  unfold res at h
  by_cases c0 : 64 < l.length
  · rw [if_pos c0] at h; simp at h
  rw [if_neg c0] at h
  by_cases c1 : l.any bad = true
  · rw [if_pos c1] at h; simp at h
  rw [if_neg c1] at h
  unfold tail at h
  by_cases c2 : (lv l l.length).length = 0
  · rw [if_pos c2] at h; simp at h
  rw [if_neg c2] at h
  unfold fin at h
  by_cases c3 : (huff 64 (lv l l.length) (first l)).any (fun x => decide (15 < x)) = true
  · rw [if_pos c3] at h; simp at h
  rw [if_neg c3] at h
  simp only [Prod.mk.injEq, and_true] at h
  have hlen : l.length ≤ 64 := by omega
  have hol : o.length = l.length := by rw [← h, huff_len, first_len]
  have hb : ∀ j, 0 ≤ rd l j ∧ rd l j ≤ 1000000 := by
    intro j
    by_cases hj : j.toNat < l.length
    · have hm : rd l j ∈ l := by unfold rd; rw [List.getD_eq_getElem?_getD, List.getElem?_eq_getElem hj]; exact List.getElem_mem hj
      have h1 : ¬ bad (rd l j) = true := fun h2 => c1 (List.any_eq_true.2 ⟨_, hm, h2⟩)
      unfold bad at h1
      simp only [Bool.or_eq_true, decide_eq_true_eq] at h1
      omega
    · have e : rd l j = 0 := by unfold rd; rw [List.getD_eq_getElem?_getD, List.getElem?_eq_none (by omega)]; rfl
      omega
  have h15 : ∀ j, rd o j ≤ 15 := by
    intro j
    by_cases hj : j.toNat < o.length
    · have hm : rd o j ∈ o := by unfold rd; rw [List.getD_eq_getElem?_getD, List.getElem?_eq_getElem hj]; exact List.getElem_mem hj
      rw [h] at c3
      have h1 : ¬ decide (15 < rd o j) = true := fun h2 => c3 (List.any_eq_true.2 ⟨_, hm, h2⟩)
      simp only [decide_eq_true_eq] at h1
      omega
    · have e : rd o j = 0 := by unfold rd; rw [List.getD_eq_getElem?_getD, List.getElem?_eq_none (by omega)]; rfl
      omega
  have hpl := pl_len l l.length
  have hne : pl l l.length ≠ [] := by intro e; rw [e] at hpl; simp at hpl; omega
  have hat := pl_lt l l.length
  by_cases c4 : (lv l l.length).length = 1
  · -- one count
    have e1 : huff 64 (lv l l.length) (first l) = first l := by
      show huff (63 + 1) _ _ = _
      unfold huff
      rw [if_neg (by omega)]
    rw [e1] at h
    obtain ⟨x, hx⟩ := List.length_eq_one_iff.1 c4
    obtain ⟨j, hj1, hj2, hj3⟩ := lv_node l l.length x (by rw [hx]; simp)
    have hp : pl l l.length = [(j : Int)] := by unfold pl fl; rw [hx, hj2]; simp
    have e2 : first l = (List.replicate l.length 0).set j 1 := by
      unfold first
      rw [if_pos c4, hx, hj2]
      rfl
    have ho : ∀ i : Int, 0 ≤ i → rd o i = if i = (j : Int) then 1 else 0 := by
      intro i hi
      rw [← h, e2]
      have h5 := rd_set (List.replicate l.length 0) (j : Int) i 1 (by rw [List.length_replicate]; omega) hi
      rw [Int.toNat_natCast] at h5
      rw [h5, rd_rep]
    have hr : ∀ i, 0 ≤ rd o i := by
      intro i
      by_cases hi : 0 ≤ i
      · rw [ho i hi]; split <;> omega
      · have e : rd o i = rd o 0 := by unfold rd; rw [show i.toNat = (0 : Int).toNat by omega]
        rw [e, ho 0 (Int.le_refl _)]; split <;> omega
    have hoj : rd o (j : Int) = 1 := by rw [ho j (by omega), if_pos rfl]
    rw [hp]
    refine ⟨hlen, hol, hb, by simp, fun i => ⟨hr i, h15 i⟩, ?_, ?_, ?_, ?_⟩
    · intro i hi
      rw [List.mem_singleton.1 hi, hoj]
      exact Int.le_refl _
    · unfold kl
      simp only [List.map_cons, List.map_nil, KL, hoj]
      decide
    · intro h1
      simp at h1
    · intro f hf _
      have h1 := (hf (j : Int) (by simp)).1
      have h2 : rd l j * 1 ≤ rd l j * f j := Int.mul_le_mul_of_nonneg_left h1 (hb j).1
      simp only [co, List.map_cons, List.map_nil, List.sum_cons, List.sum_nil, hoj]
      omega
  · have e2 : first l = List.replicate l.length 0 := by unfold first; rw [if_neg c4]
    rw [e2] at h
    have hJ := lv_J l hlen (fun j => (hb j).2)
    have hll := lv_len l l.length
    obtain ⟨c, k1, k2, k3, k4, k5⟩ := huff_hm l 64 (lv l l.length) (List.replicate l.length 0) (by omega) (by omega) (by omega) hJ
    rw [h] at k2 k3 k4
    rw [co_zero, Int.zero_add] at k2
    have hfl : fl (lv l l.length) = pl l l.length := rfl
    rw [hfl] at k2 k3
    rw [lv_f0] at k1
    have hk := sk_kl o (pl l l.length) (fun j _ => ⟨(k4 j).1, h15 j⟩)
    rw [k3] at hk
    have hkl : kl (rd o) (pl l l.length) = 2 ^ 15 := by
      have e : (2 : Nat) ^ 64 = 2 ^ 49 * 2 ^ 15 := by rw [← Nat.pow_add]
      rw [e] at hk
      exact (Nat.eq_of_mul_eq_mul_left (Nat.two_pow_pos 49) hk).symm
    refine ⟨hlen, hol, hb, hne, fun j => ⟨(k4 j).1, h15 j⟩, ?_, Nat.le_of_eq hkl, fun _ => hkl, ?_⟩
    · intro j hj
      have h0 := (k4 j).1
      by_cases c5 : rd o j = 0
      · exfalso
        obtain ⟨t, ht⟩ := perm_of_mem hj
        have hpm : ∀ (o2 : List Int) {A B : List Int}, A.Perm B → sk o2 A = sk o2 B := by
          intro o2 A B hp
          induction hp with
          | nil => rfl
          | cons x _ ih => simp only [sk]; omega
          | swap x y l => simp only [sk]; omega
          | trans _ _ h1 h2 => exact h1.trans h2
        have h6 := hpm o ht
        rw [k3] at h6
        simp only [sk] at h6
        have h7 := sk_zero o j c5
        simp only [sk] at h7
        have h8 : t ≠ [] := by
          intro e
          have h9 := ht.length_eq
          rw [e, hpl] at h9
          simp at h9
          omega
        have h9 := sk_pos o t h8
        omega
      · omega
    · intro f hf hK
      rw [k2]
      have h6 := k1.least ((pl l l.length).map fun j => (rd l j, (f j).toNat)) (by rw [List.map_map]; exact List.Perm.refl _) (by
        intro p hp
        obtain ⟨j, hj, rfl⟩ := List.mem_map.1 hp
        have := hf j hj
        exact ⟨(hb j).1, by show (f j).toNat ≤ 15; omega⟩) (by rw [List.map_map]; exact hK)
      rw [cst_co l f _ (fun j hj => by have := hf j hj; omega)] at h6
      exact h6
end Go.Proofs.Ytnadgcdkcabdoaa.Hoq
namespace Go.Proofs.Ytnadgcdkcabdoaa.Lst
open Go Go.RowKit Go.Proofs.YtnadgcdkcabdoaaW.PrintWords Go.Proofs.YtnadgcdkcabdoaaW.PrintLast Go.Proofs.YtnadgcdkcabdoaaW.PrintMore Go.Proofs.Ytnadgcdkcabdoaa.Aid Go.Proofs.Ytnadgcdkcabdoaa.U Go.Proofs.Ytnadgcdkcabdoaa.Least Go.Proofs.Ytnadgcdkcabdoaa.Tab Go.Proofs.Ytnadgcdkcabdoaa.Huf Go.Proofs.Ytnadgcdkcabdoaa.Hug Go.Proofs.Ytnadgcdkcabdoaa.Hop Go.Proofs.Ytnadgcdkcabdoaa.Hoq
/-- A table of lengths alone. -/
def mkl (f : Int → Int) (j : Int) : Ln := ⟨f j, 0, 0, 0⟩
def tbl (f : Int → Int) (B : List Int) : List Ln := B.map (mkl f)
theorem tbl_len (f : Int → Int) (B : List Int) : (tbl f B).length = B.length := List.length_map _
theorem wS_tbl (f : Int → Int) : ∀ (B : List Int), (∀ j ∈ B, 1 ≤ f j ∧ f j ≤ 15) → sumI wS (tbl f B) = (kl f B : Int)
  | [], _ => rfl
  | b :: B, h => by
    have h1 := h b List.mem_cons_self
    have h2 := wS_tbl f B (fun j hj => h j (List.mem_cons_of_mem _ hj))
    unfold tbl kl at h2 ⊢
    simp only [List.map_cons, sumI, KL]
    rw [h2]
    have e : wS (mkl f b) = ((2 ^ (15 - (f b).toNat) : Nat) : Int) := by
      unfold wS mkl
      simp only
      rw [if_neg (by omega), Int.natCast_pow, show (15 - f b).toNat = 15 - (f b).toNat by omega]
      rfl
    rw [e]
    omega
theorem uS_tbl (f : Int → Int) : ∀ (B : List Int), (∀ j ∈ B, 1 ≤ f j) → sumI uS (tbl f B) = B.length
  | [], _ => rfl
  | b :: B, h => by
    have h1 := h b List.mem_cons_self
    have h2 := uS_tbl f B (fun j hj => h j (List.mem_cons_of_mem _ hj))
    unfold tbl at h2 ⊢
    simp only [List.map_cons, sumI, List.length_cons]
    rw [h2]
    have e : uS (mkl f b) = 1 := by
      unfold uS mkl
      simp only
      rw [if_neg (by omega)]
    rw [e]
    omega
theorem nS_tbl (f : Int → Int) : ∀ (B : List Int), sumI nS (tbl f B) = 0
  | [] => rfl
  | b :: B => by
    have h2 := nS_tbl f B
    unfold tbl at h2 ⊢
    simp only [List.map_cons, sumI]
    rw [h2]
    have e : nS (mkl f b) = 0 := by
      unfold nS mkl
      simp only
      split
      · rfl
      · rw [if_neg (by decide)]
    rw [e]
    rfl
theorem line_tbl (f : Int → Int) (j : Int) : lineB (mkl f j) = true ↔ 0 ≤ f j ∧ f j ≤ 15 := by
  unfold lineB mkl
  simp only [decide_eq_true_eq]
  omega
theorem vld_tbl {f : Int → Int} {B : List Int} (h : ∀ j ∈ B, 1 ≤ f j) (hne : B ≠ []) (hl : B.length ≤ 64) : vldP (tbl f B) ↔ (∀ j ∈ B, 1 ≤ f j ∧ f j ≤ 15) ∧ kl f B ≤ 2 ^ 15 := by
  have hp : 1 ≤ B.length := List.length_pos_iff.2 hne
  unfold vldP
  constructor
  · rintro ⟨-, h2, -, -, h5⟩
    have h6 : ∀ j ∈ B, 1 ≤ f j ∧ f j ≤ 15 := fun j hj => ⟨h j hj, ((line_tbl f j).1 (h2 _ (List.mem_map_of_mem hj))).2⟩
    rw [wS_tbl f B h6] at h5
    exact ⟨h6, by omega⟩
  · rintro ⟨h1, h2⟩
    refine ⟨by rw [tbl_len]; exact hl, ?_, ?_, ?_, ?_⟩
    · intro x hx
      obtain ⟨j, hj, rfl⟩ := List.mem_map.1 hx
      have := h1 j hj
      exact (line_tbl f j).2 ⟨by omega, this.2⟩
    · rw [uS_tbl f B h]; omega
    · rw [nS_tbl]; decide
    · rw [wS_tbl f B h1]; omega
theorem complete_ev (f : Int → Int) (B : List Int) (h : ∀ j ∈ B, 1 ≤ f j ∧ f j ≤ 15) (hl : B.length ≤ 64) (hk : kl f B = 2 ^ 15) : Ev (fun k => incunableref04_Complete.f k (tbl f B)) true := by
  unfold incunableref04_Complete.f
  refine ev_bind (share_ev (tbl f B) (by rw [tbl_len]; exact hl) (fun x hx => ?_)) ?_
  · obtain ⟨j, hj, rfl⟩ := List.mem_map.1 hx
    have := h j hj
    exact (line_tbl f j).2 ⟨by omega, this.2⟩
  · refine ev_const ?_
    rw [wS_tbl f B h, hk]
    rfl
/-- What the lengths of the first i places cost. -/
theorem co_succ (l o : List Int) (i : Nat) (h : 0 ≤ rd l i) : co l o (pl l (i + 1)) = co l o (pl l i) + rd o i * rd l i := by
  rw [pl_succ]
  split
  · rw [co_app]
    simp only [co]
    rw [Int.mul_comm (rd l (i : Int))]
    omega
  · rw [show rd l (i : Int) = 0 by omega, Int.mul_zero, Int.add_zero]
theorem co_bound (l o : List Int) (hl : ∀ j, 0 ≤ rd l j ∧ rd l j ≤ 1000000) (ho : ∀ j, 0 ≤ rd o j ∧ rd o j ≤ 15) : ∀ i : Nat, 0 ≤ co l o (pl l i) ∧ co l o (pl l i) ≤ 15000000 * i
  | 0 => by
    have e : pl l 0 = [] := rfl
    rw [e]
    simp [co]
  | i + 1 => by
    have ih := co_bound l o hl ho i
    have h1 := hl (i : Int)
    have h2 := ho (i : Int)
    rw [co_succ l o i h1.1]
    have h3 : 0 ≤ rd o (i : Int) * rd l i := Int.mul_nonneg h2.1 h1.1
    have h4 : rd o (i : Int) * rd l i ≤ 15 * rd l i := Int.mul_le_mul_of_nonneg_right h2.2 h1.1
    omega
theorem cost_loop2 (l o : List Int) (h64 : l.length ≤ 64) (he : o.length = l.length) (hl : ∀ j, 0 ≤ rd l j ∧ rd l j ≤ 1000000) (ho : ∀ j, 0 ≤ rd o j ∧ rd o j ≤ 15) : ∀ (d i : Nat), i + d = l.length → Ev (fun k => prefix_Cost.l0 k o l (co l o (pl l i)) (l.length : Int) (i : Int)) (co l o (pl l l.length), 0)
  | 0, i, h => by
    obtain rfl : i = l.length := by omega
    refine ev_succ ?_
    simp only [prefix_Cost.l0]
    exact ev_neg (by omega) (Ev.now _)
  | d + 1, i, h => by
    have h1 := hl (i : Int)
    have h2 := ho (i : Int)
    have hb := co_bound l o hl ho i
    have h3 : 0 ≤ rd o (i : Int) * rd l i := Int.mul_nonneg h2.1 h1.1
    have h4 : rd o (i : Int) * rd l i ≤ 15 * rd l i := Int.mul_le_mul_of_nonneg_right h2.2 h1.1
    refine ev_succ ?_
    simp only [prefix_Cost.l0]
    refine ev_pos (by omega) (ev_pos (by omega) (ev_pos (by omega) (ev_pos (by omega) (ev_neg ?_ (ev_neg ?_ ?_)))))
    · unfold mn; split <;> omega
    · unfold mx; split <;> omega
    · rw [wrap_id (n := rd o (i : Int) * rd l i) (by omega) (by omega), wrap_id (n := co l o (pl l i) + rd o (i : Int) * rd l i) (by omega) (by omega), wrap_id (n := (i : Int) + 1) (by omega) (by omega), ← co_succ l o i h1.1]
      exact cost_loop2 l o h64 he hl ho d (i + 1) (by omega)
theorem cost2_ev (l o : List Int) (h64 : l.length ≤ 64) (he : o.length = l.length) (hl : ∀ j, 0 ≤ rd l j ∧ rd l j ≤ 1000000) (ho : ∀ j, 0 ≤ rd o j ∧ rd o j ≤ 15) : Ev (fun k => prefix_Cost.f k o l) (co l o (pl l l.length), 0) := by
  unfold prefix_Cost.f
  refine ev_pos (by omega) (ev_succ ?_)
  simp only [prefix_Cost.j0]
  exact ev_neg (by simp; omega) (cost_loop2 l o h64 he hl ho l.length 0 (by omega))
/-- What other lengths of the first i places cost. -/
def oc (l f : List Int) (i : Nat) : Int := ((pl l i).map fun j => rd l j * rd f j).sum
theorem oc_succ (l f : List Int) (i : Nat) : oc l f (i + 1) = if 0 < rd l (i : Int) then oc l f i + rd l i * rd f i else oc l f i := by
  unfold oc
  rw [pl_succ]
  split
  · rw [List.map_append, List.sum_append]
    simp
  · rfl
/-- Whether the other lengths of the first i places are there. -/
def allB (l f : List Int) (i : Nat) : Bool := (pl l i).all fun j => decide (0 < rd f j)
theorem allB_succ (l f : List Int) (i : Nat) : allB l f (i + 1) = if 0 < rd l (i : Int) then (allB l f i && decide (0 < rd f i)) else allB l f i := by
  unfold allB
  rw [pl_succ]
  split
  · rw [List.all_append]
    simp
  · rfl
end Go.Proofs.Ytnadgcdkcabdoaa.Lst
namespace Go.Proofs.Ytnadgcdkcabdoaa.Lsw
open Go Go.RowKit Go.Proofs.YtnadgcdkcabdoaaW.PrintWords Go.Proofs.YtnadgcdkcabdoaaW.PrintLast Go.Proofs.YtnadgcdkcabdoaaW.PrintMore Go.Proofs.Ytnadgcdkcabdoaa.Aid Go.Proofs.Ytnadgcdkcabdoaa.HandAid Go.Proofs.Ytnadgcdkcabdoaa.U Go.Proofs.Ytnadgcdkcabdoaa.Least Go.Proofs.Ytnadgcdkcabdoaa.Tab Go.Proofs.Ytnadgcdkcabdoaa.Huf Go.Proofs.Ytnadgcdkcabdoaa.Hug Go.Proofs.Ytnadgcdkcabdoaa.Hop Go.Proofs.Ytnadgcdkcabdoaa.Hoq Go.Proofs.Ytnadgcdkcabdoaa.Lst
attribute [local go_sem] max2_int min2_int max_two min_two
theorem int_at {w W : World} {ad : Addr} {l : List Int} (hC : Kd.C (Kd.int .i64) w (some ad) l.length l) (hb : Below w.heap.size w W) (i : Nat) (hi : i < l.length) (c : Int) (hc : rd l (i : Int) = c) : W.cell? (ad.add i) = some (.int .i64 c) := by
  obtain ⟨ad', hA, hx⟩ := Kd.at_int (Kd.C_below hC hb) (i : Int) (by omega) (by omega)
  obtain rfl := Option.some.inj hA
  rw [Int.toNat_natCast, hc] at hx
  exact hx
theorem oc_bound (l f : List Int) (m : Nat) (hl : ∀ j, 0 ≤ rd l j ∧ rd l j ≤ 1000000) (hf : ∀ j ∈ pl l m, 1 ≤ rd f j ∧ rd f j ≤ 15) : ∀ i : Nat, i ≤ m → 0 ≤ oc l f i ∧ oc l f i ≤ 15000000 * i
  | 0, _ => by
    have e : oc l f 0 = 0 := rfl
    rw [e]
    omega
  | i + 1, h => by
    have ih := oc_bound l f m hl hf i (by omega)
    have h1 := hl (i : Int)
    rw [oc_succ]
    split
    · rename_i hp
      have h2 := hf (i : Int) ((pl_lt l m _).2 ⟨by omega, by omega, hp⟩)
      have h3 : 0 ≤ rd l (i : Int) * rd f i := Int.mul_nonneg h1.1 (by omega)
      have h4 : rd l (i : Int) * rd f i ≤ rd l (i : Int) * 15 := Int.mul_le_mul_of_nonneg_left h2.2 h1.1
      omega
    · omega
theorem reps1 (c : Int) (W : World) {base : Nat} {ok : Nat → Prop} : Reps (k32.M W base ok) k32.sz [(⟨c, 0, 0, 0⟩ : Ln)] [.int .i64 c, .int .i64 0, .int .i64 0, .int .i64 0] :=
  Reps.snoc (ps := []) (cs := []) (Reps.none _ _) (k32_mkM W base ok (⟨c, 0, 0, 0⟩ : Ln)) rfl
/-- Two rows of lines, each apart from the other. -/
structure Q2 (w : World) (vt vu : Value) (T U : List Ln) (W : World) : Prop where
  t : Kd.R k32 32 W w.heap.size (fun k => True ∧ some k ≠ vu.ownBlock) vt T
  u : Kd.R k32 32 W w.heap.size (fun k => True ∧ some k ≠ vt.ownBlock) vu U
  b : Below w.heap.size w W
/-- A line by itself, made behind the rows. -/
structure Lit (vt vu s : Value) (x : Ln) (W : World) : Prop where
  ex : ∃ N : Nat, Kd.R k32 32 W N (fun _ => True) s [x] ∧ (∀ k, vt.ownBlock = some k → k < N) ∧ (∀ k, vu.ownBlock = some k → k < N)
section
variable {w W W' : World} {vt vu s v1 : Value} {T U T1 : List Ln} {x : Ln}
theorem Q2.below (h : Q2 w vt vu T U W) (hb : Below W.heap.size W W') : Q2 w vt vu T U W' := ⟨Kd.R_below h.t hb, Kd.R_below h.u hb, below_then h.b h.b.size hb⟩
theorem Q2.fresht (h : Q2 w vt vu T U W) : ∀ k, W.heap.size ≤ k → True ∧ some k ≠ vu.ownBlock := fun k hk => ⟨trivial, fun e => by have := Kd.R_lt h.u k e.symm; omega⟩
theorem Q2.freshu (h : Q2 w vt vu T U W) : ∀ k, W.heap.size ≤ k → True ∧ some k ≠ vt.ownBlock := fun k hk => ⟨trivial, fun e => by have := Kd.R_lt h.t k e.symm; omega⟩
theorem Q2.appT (h : Q2 w vt vu T U W) (hR : Kd.R k32 32 W' w.heap.size (fun k => True ∧ some k ≠ vu.ownBlock) v1 T1) (hB : Below w.heap.size w W') (hg : W.grownBy W' vt.ownBlock) (hat : v1.ownBlock = vt.ownBlock ∨ ∃ b, v1.ownBlock = some b ∧ W.heap.size ≤ b) : Q2 w v1 vu T1 U W' := ⟨hR, Kd.R_after h.u hg hat, hB⟩
theorem Q2.appU (h : Q2 w vt vu T U W) (hR : Kd.R k32 32 W' w.heap.size (fun k => True ∧ some k ≠ vt.ownBlock) v1 T1) (hB : Below w.heap.size w W') (hg : W.grownBy W' vu.ownBlock) (hat : v1.ownBlock = vu.ownBlock ∨ ∃ b, v1.ownBlock = some b ∧ W.heap.size ≤ b) : Q2 w vt v1 T T1 W' := ⟨Kd.R_after h.t hg hat, hR, hB⟩
theorem Lit.mk' (hR : Kd.R k32 32 W' W.heap.size (fun _ => True) s [x]) (h : Q2 w vt vu T U W) : Lit vt vu s x W' := ⟨⟨_, hR, fun k hk => Kd.R_lt h.t k hk, fun k hk => Kd.R_lt h.u k hk⟩⟩
theorem Lit.below (h : Lit vt vu s x W) (hb : Below W.heap.size W W') : Lit vt vu s x W' := by
  obtain ⟨N, h1, h2, h3⟩ := h.ex
  exact ⟨⟨N, Kd.R_below h1 hb, h2, h3⟩⟩
theorem Lit.grownT (h : Lit vt vu s x W) (hg : W.grownBy W' vt.ownBlock) : Lit (.slice none 0 0) vu s x W' := by
  obtain ⟨N, h1, h2, h3⟩ := h.ex
  exact ⟨⟨N, Kd.R_mono (Kd.R_step (w1 := W') (Kd.R_bound h1) (fun k hk hlt => hg.block k hlt (fun e => by have := h2 k e.symm; have := hk.2.1; omega))) (fun _ _ => trivial), fun k hk => by simp [Value.ownBlock] at hk, h3⟩⟩
theorem Lit.row {A : Option Addr} {c : Nat} (h : Lit vt vu (.slice A [x].length c) x W) : ReadsRow (k32.K W) k32.sz W A 1 [x] := by
  obtain ⟨N, h1, -⟩ := h.ex
  exact (Kd.R_reads' h1).2.2
end
set_option maxHeartbeats 4000000 in
set_option maxRecDepth 100000 in
theorem least_walk (w : World) (A : Option Addr) (c : Nat) (l : List Int) (hC : Kd.C (Kd.int .i64) w A l.length l) (hc : l.length ≤ c) (A2 : Option Addr) (c2' : Nat) (l1 : List Int) (hC2 : Kd.C (Kd.int .i64) w A2 l1.length l1) (hc2' : l1.length ≤ c2') :
    Calls Try.prog 4 #[.slice A l.length c, .slice A2 l1.length c2'] w fun e w' => e = .returned (.bool true) ∧ Below w.heap.size w w' := by
  have hmax : l.length ≤ 9223372036854775807 := Kd.C_max hC
  have hmax1 : l1.length ≤ 9223372036854775807 := Kd.C_max hC2
  have HCl := Aside0.mk hC
  have HCl1 := Aside0.mk hC2
  obtain ⟨k, ha⟩ := Ev.rounds awake_ev
  have HA := Aside0.mk (fun W => incunablelaw04_Awake.calls k true W ha)
  obtain ⟨k2, hle⟩ := Ev.rounds (plen_ev l)
  obtain ⟨⟨o, er⟩, hres⟩ : ∃ r, res l = r := ⟨_, rfl⟩
  rw [hres] at hle
  have HLE := Aside0.mk (prefix_Lengths.calls k2 A c l o er w hC hc hle)
  have HRES := Aside0.mk hres
  clear hC hC2 ha hle hres
  by_cases her : er = 0
  · subst her
    obtain ⟨h64, hol, hlb, hne, hob, ho1, hkl, hkl2, hleast⟩ := res_least l o HRES.out
    have HLB := Aside0.mk hlb
    have HNE := Aside0.mk hne
    have HOB := Aside0.mk hob
    have HO1 := Aside0.mk ho1
    have HKL := Aside0.mk hkl
    have HKL2 := Aside0.mk hkl2
    have HLS := Aside0.mk hleast
    have HOL := Aside0.mk hol
    clear hlb hne hob ho1 hkl hkl2 hleast hol
    by_cases hln : l1.length = l.length
    · have HLN := Aside0.mk hln
      have hl2 : ((l1.length : Int) == (l.length : Int)) = true := by simp [hln]
      have hl2' : ((l1.length : Int) != (l.length : Int)) = false := by simp [hln]
      have ho2' : ((o.length : Int) != (l.length : Int)) = false := by simp [HOL.out]
      clear hln
      go_enter Try.func4, Try.ntmps4
      go_wp2_with (fail)
      refine HLE.out.mono ?_
      rintro e W1 ⟨v, rfl, hRo, hB1⟩
      obtain ⟨Ao, co', rfl⟩ := Kd.R_slice hRo
      obtain ⟨-, hco, hCo⟩ := Kd.R_reads' hRo
      have HCo := Aside0.mk hCo
      have HB1 := Aside0.mk hB1
      have HCl := Aside0.mk (Kd.C_below HCl.out HB1.out)
      have HCl1 := Aside0.mk (Kd.C_below HCl1.out HB1.out)
      clear hRo hB1 hCo
      have HQ0 := Aside0.mk (show Q2 W1 (.slice none 0 0) (.slice none 0 0) (tbl (rd o) (pl l 0)) (tbl (rd l1) (pl l 0)) W1 from ⟨Kd.R_nil _ _ _ _ _, Kd.R_nil _ _ _ _ _, Below.refl _ _⟩)
      go_wp2_with (fail)
      go_loopw [7, 8, 9, 10, 39] (fun vt vu vm va vi wr => ∃ i : Nat, i ≤ l.length ∧ vi = .int .i64 i ∧ vm = .int .i64 (pl l i).length ∧ va = .bool (allB l l1 i) ∧ Aside0 (Q2 W1 vt vu (tbl (rd o) (pl l i)) (tbl (rd l1) (pl l i)) wr)) (fun _ _ _ _ vi _ => l.length - (intOf vi).toNat)
      case atStart => exact ⟨0, Nat.zero_le _, rfl, rfl, rfl, HQ0⟩
      clear HQ0
      case round =>
        obtain ⟨i, hil, rfl, rfl, rfl, HQ⟩ := hrel
        by_cases hlt : i < l.length
        · obtain ⟨ad, hA, -⟩ := Kd.at_int HCl.out (i : Int) (by omega) (by omega)
          obtain ⟨ao, hAo, -⟩ := Kd.at_int HCo.out (i : Int) (by omega) (by have := HOL.out; omega)
          obtain ⟨ac, hAc, -⟩ := Kd.at_int HCl1.out (i : Int) (by omega) (by have := HLN.out; omega)
          subst hA hAo hAc
          have hio : i < o.length := by have := HOL.out; omega
          have hi1 : i < l1.length := by have := HLN.out; omega
          obtain ⟨c0, hc0⟩ : ∃ x, rd l (i : Int) = x := ⟨_, rfl⟩
          obtain ⟨c1, hc1⟩ : ∃ x, rd o (i : Int) = x := ⟨_, rfl⟩
          obtain ⟨c2, hc2⟩ : ∃ x, rd l1 (i : Int) = x := ⟨_, rfl⟩
          have x0 := int_at HCl.out HQ.out.b i hlt c0 hc0
          have hps := pl_succ l i
          have hal := allB_succ l l1 i
          have hlbi := HLB.out (i : Int)
          rw [hc0] at hps hal hlbi
          rw [hc2] at hal
          by_cases hz : c0 = 0
          · rw [if_neg (by omega)] at hps hal
            have HPS := Aside0.mk hps
            have HAL := Aside0.mk hal
            clear hps hal
            go_wp2_with (fail)
            exact ⟨⟨i + 1, by omega, by go_num, by rw [HPS.out], by rw [HAL.out], ⟨by rw [HPS.out]; exact HQ.out⟩⟩, by simp [intOf] <;> omega⟩
          · have hz1 : 0 < c0 := by omega
            have hzb : (c0 == 0) = false := beq_eq_false_iff_ne.mpr hz
            rw [if_pos hz1] at hps hal
            have hpll : (pl l i).length ≤ 64 := by rw [pl_len]; have := lv_len l i; omega
            have HPS := Aside0.mk hps
            have HAL := Aside0.mk hal
            have htl : (tbl (rd o) (pl l i)).length = (pl l i).length := tbl_len _ _
            have htu : (tbl (rd l1) (pl l i)).length = (pl l i).length := tbl_len _ _
            have HTL1 := Aside0.mk (show ((tbl (rd o) (pl l i)).length + 1) * 32 ≤ 140737488355328 by omega)
            have HTL2 := Aside0.mk (show ((tbl (rd l1) (pl l i)).length + 1) * 32 ≤ 140737488355328 by omega)
            have hc1' : rd o (i : Int) = c1 := hc1
            clear hps hal hz htl htu hc0
            obtain ⟨B, hBB⟩ : ∃ x, pl l i = x := ⟨_, rfl⟩
            rw [hBB] at HQ HPS HTL1 HTL2 hpll ⊢
            obtain ⟨β, hβ⟩ : ∃ β, allB l l1 i = β := ⟨_, rfl⟩
            rw [hβ] at HAL ⊢
            clear hβ hBB
            have HC1 := Aside0.mk hc1
            have HC2 := Aside0.mk hc2
            have y2 := int_at HCl1.out HQ.out.b i hi1 c2 hc2
            clear hc1'
            cases β
            · clear hc1 hc2
              go_wp2_with (fail)
              have hc1 := HC1.out
              have hc2 := HC2.out
              have HQ := Aside0.mk (Q2.below HQ.out (below_drew (Below.refl _ _)))
              refine start_ (n := 18) (S := fun w' => w'.cell? (ao.add i) = some (.int .i64 c1) ∧ w'.cell? (ac.add i) = some (.int .i64 c2)) (ds := []) #[false, false, false, false, false, false, false, false, false, false, false, false, false, false, false, false, false, false] (by kernel_rfl) rfl rfl ⟨(int_at HCo.out HQ.out.b i hio c1 hc1), (int_at HCl1.out HQ.out.b i hi1 c2 hc2)⟩ (fun hHeld => ?_)
              refine pure_ (i := 0) (N := some 56) (v := ?_) (a' := ?_) #[true, false, false, false, false, false, false, false, false, false, false, false, false, false, false, false, false, false] rfl rfl (by kernel_rfl) (fun _ _ _ h => h) (Or.inl ⟨by rfl, ?_⟩) ?_ ?_
              rotate_left
              · intro w'
                go_simp
                with_reducible rfl
              rotate_left
              · simp only [Act.put, List.setIfInBounds_toArray, List.set_cons_zero, List.set_cons_succ, i64_w, i32_w]
                rfl
              refine pure_ (i := 1) (N := some 57) (v := ?_) (a' := ?_) #[true, true, false, false, false, false, false, false, false, false, false, false, false, false, false, false, false, false] rfl rfl (by kernel_rfl) (fun _ _ _ h => h) (Or.inl ⟨by rfl, ?_⟩) ?_ ?_
              rotate_left
              · intro w'
                go_simp
                with_reducible rfl
              rotate_left
              · simp only [Act.put, List.setIfInBounds_toArray, List.set_cons_zero, List.set_cons_succ, i64_w, i32_w]
                rfl
              refine pure_ (i := 2) (N := some 58) (v := ?_) (a' := ?_) #[true, true, true, false, false, false, false, false, false, false, false, false, false, false, false, false, false, false] rfl rfl (by kernel_rfl) (fun _ _ _ h => h) (Or.inl ⟨by rfl, ?_⟩) ?_ ?_
              rotate_left
              · intro w'
                go_simp
                with_reducible rfl
              rotate_left
              · simp only [Act.put, List.setIfInBounds_toArray, List.set_cons_zero, List.set_cons_succ, i64_w, i32_w]
                rfl
              refine pure_ (i := 3) (N := some 59) (v := ?_) (a' := ?_) #[true, true, true, true, false, false, false, false, false, false, false, false, false, false, false, false, false, false] rfl rfl (by kernel_rfl) (fun _ _ _ h => h) (Or.inl ⟨by rfl, ?_⟩) ?_ ?_
              rotate_left
              · intro w'
                go_simp
                with_reducible rfl
              rotate_left
              · simp only [Act.put, List.setIfInBounds_toArray, List.set_cons_zero, List.set_cons_succ, i64_w, i32_w]
                rfl
              refine pure_ (i := 8) (N := some 64) (v := ?_) (a' := ?_) #[true, true, true, true, false, false, false, false, true, false, false, false, false, false, false, false, false, false] rfl rfl (by kernel_rfl) (fun _ _ _ h => h) (Or.inl ⟨by rfl, ?_⟩) ?_ ?_
              rotate_left
              · intro w'
                go_simp
                with_reducible rfl
              rotate_left
              · simp only [Act.put, List.setIfInBounds_toArray, List.set_cons_zero, List.set_cons_succ, i64_w, i32_w]
                rfl
              refine pure_ (i := 9) (N := some 65) (v := ?_) (a' := ?_) #[true, true, true, true, false, false, false, false, true, true, false, false, false, false, false, false, false, false] rfl rfl (by kernel_rfl) (fun _ _ _ h => h) (Or.inl ⟨by rfl, ?_⟩) ?_ ?_
              rotate_left
              · intro w'
                go_simp
                with_reducible rfl
              rotate_left
              · simp only [Act.put, List.setIfInBounds_toArray, List.set_cons_zero, List.set_cons_succ, i64_w, i32_w]
                rfl
              refine pure_ (i := 10) (N := some 66) (v := ?_) (a' := ?_) #[true, true, true, true, false, false, false, false, true, true, true, false, false, false, false, false, false, false] rfl rfl (by kernel_rfl) (fun _ _ _ h => h) (Or.inl ⟨by rfl, ?_⟩) ?_ ?_
              rotate_left
              · intro w'
                go_simp
                with_reducible rfl
              rotate_left
              · simp only [Act.put, List.setIfInBounds_toArray, List.set_cons_zero, List.set_cons_succ, i64_w, i32_w]
                rfl
              refine pure_ (i := 11) (N := some 67) (v := ?_) (a' := ?_) #[true, true, true, true, false, false, false, false, true, true, true, true, false, false, false, false, false, false] rfl rfl (by kernel_rfl) (fun _ _ _ h => h) (Or.inl ⟨by rfl, ?_⟩) ?_ ?_
              rotate_left
              · intro w'
                go_simp
                with_reducible rfl
              rotate_left
              · simp only [Act.put, List.setIfInBounds_toArray, List.set_cons_zero, List.set_cons_succ, i64_w, i32_w]
                rfl
              refine take_ (i := 4) (N := some 60) (v := ?_) (a' := ?_) #[true, true, true, true, true, false, false, false, true, true, true, true, false, false, false, false, false, false] rfl rfl (by kernel_rfl) (fun _ _ _ h => h) (Or.inl ⟨by rfl, ?_⟩) hHeld ?_ ?_
              rotate_left
              · rintro w' ⟨s0, s1⟩
                go_simp
                with_reducible rfl
              rotate_left
              · simp only [Act.put, List.setIfInBounds_toArray, List.set_cons_zero, List.set_cons_succ, i64_w, i32_w]
                rfl
              refine pure_ (i := 5) (N := some 61) (v := ?_) (a' := ?_) #[true, true, true, true, true, true, false, false, true, true, true, true, false, false, false, false, false, false] rfl rfl (by kernel_rfl) (fun _ _ _ h => h) (Or.inl ⟨by rfl, ?_⟩) ?_ ?_
              rotate_left
              · intro w'
                go_simp
                with_reducible rfl
              rotate_left
              · simp only [Act.put, List.setIfInBounds_toArray, List.set_cons_zero, List.set_cons_succ, i64_w, i32_w]
                rfl
              refine take_ (i := 12) (N := some 68) (v := ?_) (a' := ?_) #[true, true, true, true, true, true, false, false, true, true, true, true, true, false, false, false, false, false] rfl rfl (by kernel_rfl) (fun _ _ _ h => h) (Or.inl ⟨by rfl, ?_⟩) hHeld ?_ ?_
              rotate_left
              · rintro w' ⟨s0, s1⟩
                go_simp
                with_reducible rfl
              rotate_left
              · simp only [Act.put, List.setIfInBounds_toArray, List.set_cons_zero, List.set_cons_succ, i64_w, i32_w]
                rfl
              refine pure_ (i := 13) (N := some 69) (v := ?_) (a' := ?_) #[true, true, true, true, true, true, false, false, true, true, true, true, true, true, false, false, false, false] rfl rfl (by kernel_rfl) (fun _ _ _ h => h) (Or.inl ⟨by rfl, ?_⟩) ?_ ?_
              rotate_left
              · intro w'
                go_simp
                with_reducible rfl
              rotate_left
              · simp only [Act.put, List.setIfInBounds_toArray, List.set_cons_zero, List.set_cons_succ, i64_w, i32_w]
                rfl
              refine join_ (σ := Value × Value × Value) 3 #[true, true, true, true, true, true, true, true, true, true, true, true, true, true, true, false, false, false] (fun s => [(62, s.1), (63, s.2.1), (70, s.2.2)]) (fun s w' => Q2 W1 s.2.1 u8 (tbl (rd o) B ++ [(⟨c1, 0, 0, 0⟩ : Ln)]) (tbl (rd l1) B) w' ∧ ∃ A2 e2, s.2.2 = .slice A2 [(⟨c2, 0, 0, 0⟩ : Ln)].length e2 ∧ ∃ vt0, Lit vt0 u8 (.slice A2 [(⟨c2, 0, 0, 0⟩ : Ln)].length e2) (⟨c2, 0, 0, 0⟩ : Ln) w') ?_ ?_
              rotate_left
              · intro hCont
                refine two_ (i := 6) (j := 14) (Ni := some 62) (Nj := some 70) #[true, true, true, true, true, true, true, false, true, true, true, true, true, true, false, false, false, false] #[true, true, true, true, true, true, false, false, true, true, true, true, true, true, true, false, false, false] rfl rfl rfl rfl (by kernel_rfl) (by decide) (by decide) (fun K hK => ?_) (fun K hK => ?_)
                · skip
                  refine Kd.R_lit_step k32 (w0 := _) _ 32 (by rfl) (N := 62) rfl (xs := [(⟨c1, 0, 0, 0⟩ : Ln)]) (inner := [.int .i64 c1, .int .i64 0, .int .i64 0, .int .i64 0]) (ok := fun _ => True) (okp := fun _ => True) ?hr (reps1 c1 _) (fun _ h => h) trivial (Below.refl _ _) (Nat.le_refl _) (by simp) ?_
                  case hr => first | (go_simp; done) | (go_simp; rfl)
                  intro s1 Wp hR hB hG hS
                  obtain ⟨A1, e1, hs⟩ := Kd.R_slice hR
                  subst hs
                  have HL1p := Aside0.mk (Lit.mk' hR HQ.out)
                  have HQp := Aside0.mk (Q2.below HQ.out hB)
                  clear hR hB hG hS
                  refine hK.out _ _ ⟨(int_at HCo.out HQp.out.b i hio c1 hc1), (int_at HCl1.out HQp.out.b i hi1 c2 hc2)⟩ (fun hHeld => ?_)
                  clear hK K
                  refine norm_ (a' := ?_) ?_ ?_
                  rotate_left
                  · show Act.put _ (some 62) _ = _
                    simp only [Act.put, List.setIfInBounds_toArray, List.set_cons_zero, List.set_cons_succ, i64_w, i32_w]
                    rfl
                  refine two_ (i := 7) (j := 14) (Ni := some 63) (Nj := some 70) #[true, true, true, true, true, true, true, true, true, true, true, true, true, true, false, false, false, false] #[true, true, true, true, true, true, true, false, true, true, true, true, true, true, true, false, false, false] rfl rfl rfl rfl (by kernel_rfl) (by decide) (by decide) (fun K hK => ?_) (fun K hK => ?_)
                  · skip
                    refine Kd.R_append_rows_step k32 (w0 := W1) W1.heap.size (by rfl) (.tmp 56) (.tmp 62) 30 32 (.agg #[(.int .i64 0), (.int .i64 0), (.int .i64 0), (.int .i64 0)]) 32 rfl Try.underlying30 info32 rfl (by decide) (by decide) u7 (tbl (rd o) B) [(⟨c1, 0, 0, 0⟩ : Ln)] A1 1 e1 (fun k => True ∧ some k ≠ u8.ownBlock) (fun _ => False) rfl rfl HQp.out.t (Lit.row HL1p.out) (fun y cs h => by rw [k32_open h]; exact k32_mkM _ _ _ y) (fun _ h => h.elim) (HQp.out.fresht) HQp.out.b HQp.out.b.size HTL1.out ?_
                    intro vt1 Wpq hR hB hG hA
                    have HQpq := Aside0.mk (Q2.appT HQp.out hR hB hG hA)
                    clear hR hB hG hA
                    refine hK.out _ _ ⟨(int_at HCo.out HQpq.out.b i hio c1 hc1), (int_at HCl1.out HQpq.out.b i hi1 c2 hc2)⟩ (fun hHeld => ?_)
                    clear hK K
                    refine norm_ (a' := ?_) ?_ ?_
                    rotate_left
                    · show Act.put _ (some 63) _ = _
                      simp only [Act.put, List.setIfInBounds_toArray, List.set_cons_zero, List.set_cons_succ, i64_w, i32_w]
                      rfl
                    refine one_ (i := 14) (N := some 70) #[true, true, true, true, true, true, true, true, true, true, true, true, true, true, true, false, false, false] rfl rfl (by kernel_rfl) (by decide) (fun K hK => ?_)
                    refine Kd.R_lit_step k32 (w0 := _) _ 32 (by rfl) (N := 70) rfl (xs := [(⟨c2, 0, 0, 0⟩ : Ln)]) (inner := [.int .i64 c2, .int .i64 0, .int .i64 0, .int .i64 0]) (ok := fun _ => True) (okp := fun _ => True) ?hr (reps1 c2 _) (fun _ h => h) trivial (Below.refl _ _) (Nat.le_refl _) (by simp) ?_
                    case hr => first | (go_simp; done) | (go_simp; rfl)
                    intro s2 Wpqr hR hB hG hS
                    obtain ⟨A2, e2, hs⟩ := Kd.R_slice hR
                    subst hs
                    have HL2pqr := Aside0.mk (Lit.mk' hR HQpq.out)
                    have HQpqr := Aside0.mk (Q2.below HQpq.out hB)
                    clear hR hB hG hS
                    refine hK.out _ _ ⟨(int_at HCo.out HQpqr.out.b i hio c1 hc1), (int_at HCl1.out HQpqr.out.b i hi1 c2 hc2)⟩ (fun hHeld => ?_)
                    clear hK K
                    refine norm_ (a' := ?_) ?_ ?_
                    rotate_left
                    · show Act.put _ (some 70) _ = _
                      simp only [Act.put, List.setIfInBounds_toArray, List.set_cons_zero, List.set_cons_succ, i64_w, i32_w]
                      rfl
                    exact norm_ (by simp only [putAll, Act.put, List.setIfInBounds_toArray, List.set_cons_zero, List.set_cons_succ]) (hCont (.slice A1 [(⟨c1, 0, 0, 0⟩ : Ln)].length e1, vt1, .slice A2 [(⟨c2, 0, 0, 0⟩ : Ln)].length e2) _ ⟨HQpqr.out, _, _, rfl, _, HL2pqr.out⟩)
                  · skip
                    refine Kd.R_lit_step k32 (w0 := _) _ 32 (by rfl) (N := 70) rfl (xs := [(⟨c2, 0, 0, 0⟩ : Ln)]) (inner := [.int .i64 c2, .int .i64 0, .int .i64 0, .int .i64 0]) (ok := fun _ => True) (okp := fun _ => True) ?hr (reps1 c2 _) (fun _ h => h) trivial (Below.refl _ _) (Nat.le_refl _) (by simp) ?_
                    case hr => first | (go_simp; done) | (go_simp; rfl)
                    intro s2 Wpr hR hB hG hS
                    obtain ⟨A2, e2, hs⟩ := Kd.R_slice hR
                    subst hs
                    have HL2pr := Aside0.mk (Lit.mk' hR HQp.out)
                    have HL1pr := Aside0.mk (Lit.below HL1p.out hB)
                    have HQpr := Aside0.mk (Q2.below HQp.out hB)
                    clear hR hB hG hS
                    refine hK.out _ _ ⟨(int_at HCo.out HQpr.out.b i hio c1 hc1), (int_at HCl1.out HQpr.out.b i hi1 c2 hc2)⟩ (fun hHeld => ?_)
                    clear hK K
                    refine norm_ (a' := ?_) ?_ ?_
                    rotate_left
                    · show Act.put _ (some 70) _ = _
                      simp only [Act.put, List.setIfInBounds_toArray, List.set_cons_zero, List.set_cons_succ, i64_w, i32_w]
                      rfl
                    refine one_ (i := 7) (N := some 63) #[true, true, true, true, true, true, true, true, true, true, true, true, true, true, true, false, false, false] rfl rfl (by kernel_rfl) (by decide) (fun K hK => ?_)
                    refine Kd.R_append_rows_step k32 (w0 := W1) W1.heap.size (by rfl) (.tmp 56) (.tmp 62) 30 32 (.agg #[(.int .i64 0), (.int .i64 0), (.int .i64 0), (.int .i64 0)]) 32 rfl Try.underlying30 info32 rfl (by decide) (by decide) u7 (tbl (rd o) B) [(⟨c1, 0, 0, 0⟩ : Ln)] A1 1 e1 (fun k => True ∧ some k ≠ u8.ownBlock) (fun _ => False) rfl rfl HQpr.out.t (Lit.row HL1pr.out) (fun y cs h => by rw [k32_open h]; exact k32_mkM _ _ _ y) (fun _ h => h.elim) (HQpr.out.fresht) HQpr.out.b HQpr.out.b.size HTL1.out ?_
                    intro vt1 Wprq hR hB hG hA
                    have HL2prq := Aside0.mk (Lit.grownT HL2pr.out hG)
                    have HQprq := Aside0.mk (Q2.appT HQpr.out hR hB hG hA)
                    clear hR hB hG hA
                    refine hK.out _ _ ⟨(int_at HCo.out HQprq.out.b i hio c1 hc1), (int_at HCl1.out HQprq.out.b i hi1 c2 hc2)⟩ (fun hHeld => ?_)
                    clear hK K
                    refine norm_ (a' := ?_) ?_ ?_
                    rotate_left
                    · show Act.put _ (some 63) _ = _
                      simp only [Act.put, List.setIfInBounds_toArray, List.set_cons_zero, List.set_cons_succ, i64_w, i32_w]
                      rfl
                    exact norm_ (by simp only [putAll, Act.put, List.setIfInBounds_toArray, List.set_cons_zero, List.set_cons_succ]) (hCont (.slice A1 [(⟨c1, 0, 0, 0⟩ : Ln)].length e1, vt1, .slice A2 [(⟨c2, 0, 0, 0⟩ : Ln)].length e2) _ ⟨HQprq.out, _, _, rfl, _, HL2prq.out⟩)
                · skip
                  refine Kd.R_lit_step k32 (w0 := _) _ 32 (by rfl) (N := 70) rfl (xs := [(⟨c2, 0, 0, 0⟩ : Ln)]) (inner := [.int .i64 c2, .int .i64 0, .int .i64 0, .int .i64 0]) (ok := fun _ => True) (okp := fun _ => True) ?hr (reps1 c2 _) (fun _ h => h) trivial (Below.refl _ _) (Nat.le_refl _) (by simp) ?_
                  case hr => first | (go_simp; done) | (go_simp; rfl)
                  intro s2 Wr hR hB hG hS
                  obtain ⟨A2, e2, hs⟩ := Kd.R_slice hR
                  subst hs
                  have HL2r := Aside0.mk (Lit.mk' hR HQ.out)
                  have HQr := Aside0.mk (Q2.below HQ.out hB)
                  clear hR hB hG hS
                  refine hK.out _ _ ⟨(int_at HCo.out HQr.out.b i hio c1 hc1), (int_at HCl1.out HQr.out.b i hi1 c2 hc2)⟩ (fun hHeld => ?_)
                  clear hK K
                  refine norm_ (a' := ?_) ?_ ?_
                  rotate_left
                  · show Act.put _ (some 70) _ = _
                    simp only [Act.put, List.setIfInBounds_toArray, List.set_cons_zero, List.set_cons_succ, i64_w, i32_w]
                    rfl
                  refine one_ (i := 6) (N := some 62) #[true, true, true, true, true, true, true, false, true, true, true, true, true, true, true, false, false, false] rfl rfl (by kernel_rfl) (by decide) (fun K hK => ?_)
                  refine Kd.R_lit_step k32 (w0 := _) _ 32 (by rfl) (N := 62) rfl (xs := [(⟨c1, 0, 0, 0⟩ : Ln)]) (inner := [.int .i64 c1, .int .i64 0, .int .i64 0, .int .i64 0]) (ok := fun _ => True) (okp := fun _ => True) ?hr (reps1 c1 _) (fun _ h => h) trivial (Below.refl _ _) (Nat.le_refl _) (by simp) ?_
                  case hr => first | (go_simp; done) | (go_simp; rfl)
                  intro s1 Wrp hR hB hG hS
                  obtain ⟨A1, e1, hs⟩ := Kd.R_slice hR
                  subst hs
                  have HL1rp := Aside0.mk (Lit.mk' hR HQr.out)
                  have HL2rp := Aside0.mk (Lit.below HL2r.out hB)
                  have HQrp := Aside0.mk (Q2.below HQr.out hB)
                  clear hR hB hG hS
                  refine hK.out _ _ ⟨(int_at HCo.out HQrp.out.b i hio c1 hc1), (int_at HCl1.out HQrp.out.b i hi1 c2 hc2)⟩ (fun hHeld => ?_)
                  clear hK K
                  refine norm_ (a' := ?_) ?_ ?_
                  rotate_left
                  · show Act.put _ (some 62) _ = _
                    simp only [Act.put, List.setIfInBounds_toArray, List.set_cons_zero, List.set_cons_succ, i64_w, i32_w]
                    rfl
                  refine one_ (i := 7) (N := some 63) #[true, true, true, true, true, true, true, true, true, true, true, true, true, true, true, false, false, false] rfl rfl (by kernel_rfl) (by decide) (fun K hK => ?_)
                  refine Kd.R_append_rows_step k32 (w0 := W1) W1.heap.size (by rfl) (.tmp 56) (.tmp 62) 30 32 (.agg #[(.int .i64 0), (.int .i64 0), (.int .i64 0), (.int .i64 0)]) 32 rfl Try.underlying30 info32 rfl (by decide) (by decide) u7 (tbl (rd o) B) [(⟨c1, 0, 0, 0⟩ : Ln)] A1 1 e1 (fun k => True ∧ some k ≠ u8.ownBlock) (fun _ => False) rfl rfl HQrp.out.t (Lit.row HL1rp.out) (fun y cs h => by rw [k32_open h]; exact k32_mkM _ _ _ y) (fun _ h => h.elim) (HQrp.out.fresht) HQrp.out.b HQrp.out.b.size HTL1.out ?_
                  intro vt1 Wrpq hR hB hG hA
                  have HL2rpq := Aside0.mk (Lit.grownT HL2rp.out hG)
                  have HQrpq := Aside0.mk (Q2.appT HQrp.out hR hB hG hA)
                  clear hR hB hG hA
                  refine hK.out _ _ ⟨(int_at HCo.out HQrpq.out.b i hio c1 hc1), (int_at HCl1.out HQrpq.out.b i hi1 c2 hc2)⟩ (fun hHeld => ?_)
                  clear hK K
                  refine norm_ (a' := ?_) ?_ ?_
                  rotate_left
                  · show Act.put _ (some 63) _ = _
                    simp only [Act.put, List.setIfInBounds_toArray, List.set_cons_zero, List.set_cons_succ, i64_w, i32_w]
                    rfl
                  exact norm_ (by simp only [putAll, Act.put, List.setIfInBounds_toArray, List.set_cons_zero, List.set_cons_succ]) (hCont (.slice A1 [(⟨c1, 0, 0, 0⟩ : Ln)].length e1, vt1, .slice A2 [(⟨c2, 0, 0, 0⟩ : Ln)].length e2) _ ⟨HQrpq.out, _, _, rfl, _, HL2rpq.out⟩)
              rintro ⟨s1, vt1, s2⟩ w8 ⟨hF, A2, e2, hs, vt0, hL⟩
              simp only at hs hF ⊢
              subst hs
              have HQ8 := Aside0.mk hF
              have HL28 := Aside0.mk hL
              clear hF hL
              have hHeld : w8.cell? (ao.add i) = some (.int .i64 c1) ∧ w8.cell? (ac.add i) = some (.int .i64 c2) := ⟨(int_at HCo.out HQ8.out.b i hio c1 hc1), (int_at HCl1.out HQ8.out.b i hi1 c2 hc2)⟩
              refine norm_ (a' := ?_) ?_ ?_
              rotate_left
              · simp only [putAll, Act.put, List.setIfInBounds_toArray, List.set_cons_zero, List.set_cons_succ]
                rfl
              refine one_ (i := 15) (N := some 71) #[true, true, true, true, true, true, true, true, true, true, true, true, true, true, true, true, false, false] rfl rfl (by kernel_rfl) (by decide) (fun K hK => ?_)
              refine Kd.R_append_rows_step k32 (w0 := W1) W1.heap.size (by rfl) (.tmp 64) (.tmp 70) 30 32 (.agg #[(.int .i64 0), (.int .i64 0), (.int .i64 0), (.int .i64 0)]) 32 rfl Try.underlying30 info32 rfl (by decide) (by decide) u8 (tbl (rd l1) B) [(⟨c2, 0, 0, 0⟩ : Ln)] A2 1 e2 (fun k => True ∧ some k ≠ vt1.ownBlock) (fun _ => False) rfl rfl HQ8.out.u (Lit.row HL28.out) (fun y cs h => by rw [k32_open h]; exact k32_mkM _ _ _ y) (fun _ h => h.elim) (HQ8.out.freshu) HQ8.out.b HQ8.out.b.size HTL2.out ?_
              intro vu1 W9 hR hB hG hA
              have HQ9 := Aside0.mk (Q2.appU HQ8.out hR hB hG hA)
              clear hR hB hG hA
              refine hK.out _ _ ⟨(int_at HCo.out HQ9.out.b i hio c1 hc1), (int_at HCl1.out HQ9.out.b i hi1 c2 hc2)⟩ (fun hHeld => ?_)
              clear hK K
              refine norm_ (a' := ?_) ?_ ?_
              rotate_left
              · show Act.put _ (some 71) _ = _
                simp only [Act.put, List.setIfInBounds_toArray, List.set_cons_zero, List.set_cons_succ, i64_w, i32_w]
                rfl
              refine pure_ (i := 16) (N := some 7) (v := ?_) (a' := ?_) #[true, true, true, true, true, true, true, true, true, true, true, true, true, true, true, true, true, false] rfl rfl (by kernel_rfl) (fun _ _ _ h => h) (Or.inl ⟨by rfl, ?_⟩) ?_ ?_
              rotate_left
              · intro w'
                go_simp
                with_reducible rfl
              rotate_left
              · simp only [Act.put, List.setIfInBounds_toArray, List.set_cons_zero, List.set_cons_succ, i64_w, i32_w]
                rfl
              refine pure_ (i := 17) (N := some 8) (v := ?_) (a' := ?_) #[true, true, true, true, true, true, true, true, true, true, true, true, true, true, true, true, true, true] rfl rfl (by kernel_rfl) (fun _ _ _ h => h) (Or.inl ⟨by rfl, ?_⟩) ?_ ?_
              rotate_left
              · intro w'
                go_simp
                with_reducible rfl
              rotate_left
              · simp only [Act.put, List.setIfInBounds_toArray, List.set_cons_zero, List.set_cons_succ, i64_w, i32_w]
                rfl
              refine done_ (by kernel_rfl) ?_
              go_wp2_with (fail)
              refine ⟨⟨i + 1, by omega, by go_num, by rw [HPS.out, List.length_append]; rfl, by rw [HAL.out]; rfl, ⟨?_⟩⟩, by simp [intOf] <;> omega⟩
              rw [HPS.out]
              have h9 := HQ9.out
              unfold tbl mkl at h9 ⊢
              rw [List.map_append, List.map_append]
              simp only [List.map_cons, List.map_nil, HC1.out, HC2.out]
              exact h9
            · clear hc1 hc2
              go_wp2_with (fail)
              have hc1 := HC1.out
              have hc2 := HC2.out
              have HQ := Aside0.mk (Q2.below HQ.out (below_drew (Below.refl _ _)))
              refine start_ (n := 18) (S := fun w' => w'.cell? (ao.add i) = some (.int .i64 c1) ∧ w'.cell? (ac.add i) = some (.int .i64 c2)) (ds := []) #[false, false, false, false, false, false, false, false, false, false, false, false, false, false, false, false, false, false] (by kernel_rfl) rfl rfl ⟨(int_at HCo.out HQ.out.b i hio c1 hc1), (int_at HCl1.out HQ.out.b i hi1 c2 hc2)⟩ (fun hHeld => ?_)
              refine pure_ (i := 0) (N := some 56) (v := ?_) (a' := ?_) #[true, false, false, false, false, false, false, false, false, false, false, false, false, false, false, false, false, false] rfl rfl (by kernel_rfl) (fun _ _ _ h => h) (Or.inl ⟨by rfl, ?_⟩) ?_ ?_
              rotate_left
              · intro w'
                go_simp
                with_reducible rfl
              rotate_left
              · simp only [Act.put, List.setIfInBounds_toArray, List.set_cons_zero, List.set_cons_succ, i64_w, i32_w]
                rfl
              refine pure_ (i := 1) (N := some 57) (v := ?_) (a' := ?_) #[true, true, false, false, false, false, false, false, false, false, false, false, false, false, false, false, false, false] rfl rfl (by kernel_rfl) (fun _ _ _ h => h) (Or.inl ⟨by rfl, ?_⟩) ?_ ?_
              rotate_left
              · intro w'
                go_simp
                with_reducible rfl
              rotate_left
              · simp only [Act.put, List.setIfInBounds_toArray, List.set_cons_zero, List.set_cons_succ, i64_w, i32_w]
                rfl
              refine pure_ (i := 2) (N := some 58) (v := ?_) (a' := ?_) #[true, true, true, false, false, false, false, false, false, false, false, false, false, false, false, false, false, false] rfl rfl (by kernel_rfl) (fun _ _ _ h => h) (Or.inl ⟨by rfl, ?_⟩) ?_ ?_
              rotate_left
              · intro w'
                go_simp
                with_reducible rfl
              rotate_left
              · simp only [Act.put, List.setIfInBounds_toArray, List.set_cons_zero, List.set_cons_succ, i64_w, i32_w]
                rfl
              refine pure_ (i := 3) (N := some 59) (v := ?_) (a' := ?_) #[true, true, true, true, false, false, false, false, false, false, false, false, false, false, false, false, false, false] rfl rfl (by kernel_rfl) (fun _ _ _ h => h) (Or.inl ⟨by rfl, ?_⟩) ?_ ?_
              rotate_left
              · intro w'
                go_simp
                with_reducible rfl
              rotate_left
              · simp only [Act.put, List.setIfInBounds_toArray, List.set_cons_zero, List.set_cons_succ, i64_w, i32_w]
                rfl
              refine pure_ (i := 8) (N := some 64) (v := ?_) (a' := ?_) #[true, true, true, true, false, false, false, false, true, false, false, false, false, false, false, false, false, false] rfl rfl (by kernel_rfl) (fun _ _ _ h => h) (Or.inl ⟨by rfl, ?_⟩) ?_ ?_
              rotate_left
              · intro w'
                go_simp
                with_reducible rfl
              rotate_left
              · simp only [Act.put, List.setIfInBounds_toArray, List.set_cons_zero, List.set_cons_succ, i64_w, i32_w]
                rfl
              refine pure_ (i := 9) (N := some 65) (v := ?_) (a' := ?_) #[true, true, true, true, false, false, false, false, true, true, false, false, false, false, false, false, false, false] rfl rfl (by kernel_rfl) (fun _ _ _ h => h) (Or.inl ⟨by rfl, ?_⟩) ?_ ?_
              rotate_left
              · intro w'
                go_simp
                with_reducible rfl
              rotate_left
              · simp only [Act.put, List.setIfInBounds_toArray, List.set_cons_zero, List.set_cons_succ, i64_w, i32_w]
                rfl
              refine pure_ (i := 10) (N := some 66) (v := ?_) (a' := ?_) #[true, true, true, true, false, false, false, false, true, true, true, false, false, false, false, false, false, false] rfl rfl (by kernel_rfl) (fun _ _ _ h => h) (Or.inl ⟨by rfl, ?_⟩) ?_ ?_
              rotate_left
              · intro w'
                go_simp
                with_reducible rfl
              rotate_left
              · simp only [Act.put, List.setIfInBounds_toArray, List.set_cons_zero, List.set_cons_succ, i64_w, i32_w]
                rfl
              refine pure_ (i := 11) (N := some 67) (v := ?_) (a' := ?_) #[true, true, true, true, false, false, false, false, true, true, true, true, false, false, false, false, false, false] rfl rfl (by kernel_rfl) (fun _ _ _ h => h) (Or.inl ⟨by rfl, ?_⟩) ?_ ?_
              rotate_left
              · intro w'
                go_simp
                with_reducible rfl
              rotate_left
              · simp only [Act.put, List.setIfInBounds_toArray, List.set_cons_zero, List.set_cons_succ, i64_w, i32_w]
                rfl
              refine take_ (i := 4) (N := some 60) (v := ?_) (a' := ?_) #[true, true, true, true, true, false, false, false, true, true, true, true, false, false, false, false, false, false] rfl rfl (by kernel_rfl) (fun _ _ _ h => h) (Or.inl ⟨by rfl, ?_⟩) hHeld ?_ ?_
              rotate_left
              · rintro w' ⟨s0, s1⟩
                go_simp
                with_reducible rfl
              rotate_left
              · simp only [Act.put, List.setIfInBounds_toArray, List.set_cons_zero, List.set_cons_succ, i64_w, i32_w]
                rfl
              refine pure_ (i := 5) (N := some 61) (v := ?_) (a' := ?_) #[true, true, true, true, true, true, false, false, true, true, true, true, false, false, false, false, false, false] rfl rfl (by kernel_rfl) (fun _ _ _ h => h) (Or.inl ⟨by rfl, ?_⟩) ?_ ?_
              rotate_left
              · intro w'
                go_simp
                with_reducible rfl
              rotate_left
              · simp only [Act.put, List.setIfInBounds_toArray, List.set_cons_zero, List.set_cons_succ, i64_w, i32_w]
                rfl
              refine take_ (i := 12) (N := some 68) (v := ?_) (a' := ?_) #[true, true, true, true, true, true, false, false, true, true, true, true, true, false, false, false, false, false] rfl rfl (by kernel_rfl) (fun _ _ _ h => h) (Or.inl ⟨by rfl, ?_⟩) hHeld ?_ ?_
              rotate_left
              · rintro w' ⟨s0, s1⟩
                go_simp
                with_reducible rfl
              rotate_left
              · simp only [Act.put, List.setIfInBounds_toArray, List.set_cons_zero, List.set_cons_succ, i64_w, i32_w]
                rfl
              refine pure_ (i := 13) (N := some 69) (v := ?_) (a' := ?_) #[true, true, true, true, true, true, false, false, true, true, true, true, true, true, false, false, false, false] rfl rfl (by kernel_rfl) (fun _ _ _ h => h) (Or.inl ⟨by rfl, ?_⟩) ?_ ?_
              rotate_left
              · intro w'
                go_simp
                with_reducible rfl
              rotate_left
              · simp only [Act.put, List.setIfInBounds_toArray, List.set_cons_zero, List.set_cons_succ, i64_w, i32_w]
                rfl
              refine join_ (σ := Value × Value × Value) 3 #[true, true, true, true, true, true, true, true, true, true, true, true, true, true, true, false, false, false] (fun s => [(62, s.1), (63, s.2.1), (70, s.2.2)]) (fun s w' => Q2 W1 s.2.1 u8 (tbl (rd o) B ++ [(⟨c1, 0, 0, 0⟩ : Ln)]) (tbl (rd l1) B) w' ∧ ∃ A2 e2, s.2.2 = .slice A2 [(⟨c2, 0, 0, 0⟩ : Ln)].length e2 ∧ ∃ vt0, Lit vt0 u8 (.slice A2 [(⟨c2, 0, 0, 0⟩ : Ln)].length e2) (⟨c2, 0, 0, 0⟩ : Ln) w') ?_ ?_
              rotate_left
              · intro hCont
                refine two_ (i := 6) (j := 14) (Ni := some 62) (Nj := some 70) #[true, true, true, true, true, true, true, false, true, true, true, true, true, true, false, false, false, false] #[true, true, true, true, true, true, false, false, true, true, true, true, true, true, true, false, false, false] rfl rfl rfl rfl (by kernel_rfl) (by decide) (by decide) (fun K hK => ?_) (fun K hK => ?_)
                · skip
                  refine Kd.R_lit_step k32 (w0 := _) _ 32 (by rfl) (N := 62) rfl (xs := [(⟨c1, 0, 0, 0⟩ : Ln)]) (inner := [.int .i64 c1, .int .i64 0, .int .i64 0, .int .i64 0]) (ok := fun _ => True) (okp := fun _ => True) ?hr (reps1 c1 _) (fun _ h => h) trivial (Below.refl _ _) (Nat.le_refl _) (by simp) ?_
                  case hr => first | (go_simp; done) | (go_simp; rfl)
                  intro s1 Wp hR hB hG hS
                  obtain ⟨A1, e1, hs⟩ := Kd.R_slice hR
                  subst hs
                  have HL1p := Aside0.mk (Lit.mk' hR HQ.out)
                  have HQp := Aside0.mk (Q2.below HQ.out hB)
                  clear hR hB hG hS
                  refine hK.out _ _ ⟨(int_at HCo.out HQp.out.b i hio c1 hc1), (int_at HCl1.out HQp.out.b i hi1 c2 hc2)⟩ (fun hHeld => ?_)
                  clear hK K
                  refine norm_ (a' := ?_) ?_ ?_
                  rotate_left
                  · show Act.put _ (some 62) _ = _
                    simp only [Act.put, List.setIfInBounds_toArray, List.set_cons_zero, List.set_cons_succ, i64_w, i32_w]
                    rfl
                  refine two_ (i := 7) (j := 14) (Ni := some 63) (Nj := some 70) #[true, true, true, true, true, true, true, true, true, true, true, true, true, true, false, false, false, false] #[true, true, true, true, true, true, true, false, true, true, true, true, true, true, true, false, false, false] rfl rfl rfl rfl (by kernel_rfl) (by decide) (by decide) (fun K hK => ?_) (fun K hK => ?_)
                  · skip
                    refine Kd.R_append_rows_step k32 (w0 := W1) W1.heap.size (by rfl) (.tmp 56) (.tmp 62) 30 32 (.agg #[(.int .i64 0), (.int .i64 0), (.int .i64 0), (.int .i64 0)]) 32 rfl Try.underlying30 info32 rfl (by decide) (by decide) u7 (tbl (rd o) B) [(⟨c1, 0, 0, 0⟩ : Ln)] A1 1 e1 (fun k => True ∧ some k ≠ u8.ownBlock) (fun _ => False) rfl rfl HQp.out.t (Lit.row HL1p.out) (fun y cs h => by rw [k32_open h]; exact k32_mkM _ _ _ y) (fun _ h => h.elim) (HQp.out.fresht) HQp.out.b HQp.out.b.size HTL1.out ?_
                    intro vt1 Wpq hR hB hG hA
                    have HQpq := Aside0.mk (Q2.appT HQp.out hR hB hG hA)
                    clear hR hB hG hA
                    refine hK.out _ _ ⟨(int_at HCo.out HQpq.out.b i hio c1 hc1), (int_at HCl1.out HQpq.out.b i hi1 c2 hc2)⟩ (fun hHeld => ?_)
                    clear hK K
                    refine norm_ (a' := ?_) ?_ ?_
                    rotate_left
                    · show Act.put _ (some 63) _ = _
                      simp only [Act.put, List.setIfInBounds_toArray, List.set_cons_zero, List.set_cons_succ, i64_w, i32_w]
                      rfl
                    refine one_ (i := 14) (N := some 70) #[true, true, true, true, true, true, true, true, true, true, true, true, true, true, true, false, false, false] rfl rfl (by kernel_rfl) (by decide) (fun K hK => ?_)
                    refine Kd.R_lit_step k32 (w0 := _) _ 32 (by rfl) (N := 70) rfl (xs := [(⟨c2, 0, 0, 0⟩ : Ln)]) (inner := [.int .i64 c2, .int .i64 0, .int .i64 0, .int .i64 0]) (ok := fun _ => True) (okp := fun _ => True) ?hr (reps1 c2 _) (fun _ h => h) trivial (Below.refl _ _) (Nat.le_refl _) (by simp) ?_
                    case hr => first | (go_simp; done) | (go_simp; rfl)
                    intro s2 Wpqr hR hB hG hS
                    obtain ⟨A2, e2, hs⟩ := Kd.R_slice hR
                    subst hs
                    have HL2pqr := Aside0.mk (Lit.mk' hR HQpq.out)
                    have HQpqr := Aside0.mk (Q2.below HQpq.out hB)
                    clear hR hB hG hS
                    refine hK.out _ _ ⟨(int_at HCo.out HQpqr.out.b i hio c1 hc1), (int_at HCl1.out HQpqr.out.b i hi1 c2 hc2)⟩ (fun hHeld => ?_)
                    clear hK K
                    refine norm_ (a' := ?_) ?_ ?_
                    rotate_left
                    · show Act.put _ (some 70) _ = _
                      simp only [Act.put, List.setIfInBounds_toArray, List.set_cons_zero, List.set_cons_succ, i64_w, i32_w]
                      rfl
                    exact norm_ (by simp only [putAll, Act.put, List.setIfInBounds_toArray, List.set_cons_zero, List.set_cons_succ]) (hCont (.slice A1 [(⟨c1, 0, 0, 0⟩ : Ln)].length e1, vt1, .slice A2 [(⟨c2, 0, 0, 0⟩ : Ln)].length e2) _ ⟨HQpqr.out, _, _, rfl, _, HL2pqr.out⟩)
                  · skip
                    refine Kd.R_lit_step k32 (w0 := _) _ 32 (by rfl) (N := 70) rfl (xs := [(⟨c2, 0, 0, 0⟩ : Ln)]) (inner := [.int .i64 c2, .int .i64 0, .int .i64 0, .int .i64 0]) (ok := fun _ => True) (okp := fun _ => True) ?hr (reps1 c2 _) (fun _ h => h) trivial (Below.refl _ _) (Nat.le_refl _) (by simp) ?_
                    case hr => first | (go_simp; done) | (go_simp; rfl)
                    intro s2 Wpr hR hB hG hS
                    obtain ⟨A2, e2, hs⟩ := Kd.R_slice hR
                    subst hs
                    have HL2pr := Aside0.mk (Lit.mk' hR HQp.out)
                    have HL1pr := Aside0.mk (Lit.below HL1p.out hB)
                    have HQpr := Aside0.mk (Q2.below HQp.out hB)
                    clear hR hB hG hS
                    refine hK.out _ _ ⟨(int_at HCo.out HQpr.out.b i hio c1 hc1), (int_at HCl1.out HQpr.out.b i hi1 c2 hc2)⟩ (fun hHeld => ?_)
                    clear hK K
                    refine norm_ (a' := ?_) ?_ ?_
                    rotate_left
                    · show Act.put _ (some 70) _ = _
                      simp only [Act.put, List.setIfInBounds_toArray, List.set_cons_zero, List.set_cons_succ, i64_w, i32_w]
                      rfl
                    refine one_ (i := 7) (N := some 63) #[true, true, true, true, true, true, true, true, true, true, true, true, true, true, true, false, false, false] rfl rfl (by kernel_rfl) (by decide) (fun K hK => ?_)
                    refine Kd.R_append_rows_step k32 (w0 := W1) W1.heap.size (by rfl) (.tmp 56) (.tmp 62) 30 32 (.agg #[(.int .i64 0), (.int .i64 0), (.int .i64 0), (.int .i64 0)]) 32 rfl Try.underlying30 info32 rfl (by decide) (by decide) u7 (tbl (rd o) B) [(⟨c1, 0, 0, 0⟩ : Ln)] A1 1 e1 (fun k => True ∧ some k ≠ u8.ownBlock) (fun _ => False) rfl rfl HQpr.out.t (Lit.row HL1pr.out) (fun y cs h => by rw [k32_open h]; exact k32_mkM _ _ _ y) (fun _ h => h.elim) (HQpr.out.fresht) HQpr.out.b HQpr.out.b.size HTL1.out ?_
                    intro vt1 Wprq hR hB hG hA
                    have HL2prq := Aside0.mk (Lit.grownT HL2pr.out hG)
                    have HQprq := Aside0.mk (Q2.appT HQpr.out hR hB hG hA)
                    clear hR hB hG hA
                    refine hK.out _ _ ⟨(int_at HCo.out HQprq.out.b i hio c1 hc1), (int_at HCl1.out HQprq.out.b i hi1 c2 hc2)⟩ (fun hHeld => ?_)
                    clear hK K
                    refine norm_ (a' := ?_) ?_ ?_
                    rotate_left
                    · show Act.put _ (some 63) _ = _
                      simp only [Act.put, List.setIfInBounds_toArray, List.set_cons_zero, List.set_cons_succ, i64_w, i32_w]
                      rfl
                    exact norm_ (by simp only [putAll, Act.put, List.setIfInBounds_toArray, List.set_cons_zero, List.set_cons_succ]) (hCont (.slice A1 [(⟨c1, 0, 0, 0⟩ : Ln)].length e1, vt1, .slice A2 [(⟨c2, 0, 0, 0⟩ : Ln)].length e2) _ ⟨HQprq.out, _, _, rfl, _, HL2prq.out⟩)
                · skip
                  refine Kd.R_lit_step k32 (w0 := _) _ 32 (by rfl) (N := 70) rfl (xs := [(⟨c2, 0, 0, 0⟩ : Ln)]) (inner := [.int .i64 c2, .int .i64 0, .int .i64 0, .int .i64 0]) (ok := fun _ => True) (okp := fun _ => True) ?hr (reps1 c2 _) (fun _ h => h) trivial (Below.refl _ _) (Nat.le_refl _) (by simp) ?_
                  case hr => first | (go_simp; done) | (go_simp; rfl)
                  intro s2 Wr hR hB hG hS
                  obtain ⟨A2, e2, hs⟩ := Kd.R_slice hR
                  subst hs
                  have HL2r := Aside0.mk (Lit.mk' hR HQ.out)
                  have HQr := Aside0.mk (Q2.below HQ.out hB)
                  clear hR hB hG hS
                  refine hK.out _ _ ⟨(int_at HCo.out HQr.out.b i hio c1 hc1), (int_at HCl1.out HQr.out.b i hi1 c2 hc2)⟩ (fun hHeld => ?_)
                  clear hK K
                  refine norm_ (a' := ?_) ?_ ?_
                  rotate_left
                  · show Act.put _ (some 70) _ = _
                    simp only [Act.put, List.setIfInBounds_toArray, List.set_cons_zero, List.set_cons_succ, i64_w, i32_w]
                    rfl
                  refine one_ (i := 6) (N := some 62) #[true, true, true, true, true, true, true, false, true, true, true, true, true, true, true, false, false, false] rfl rfl (by kernel_rfl) (by decide) (fun K hK => ?_)
                  refine Kd.R_lit_step k32 (w0 := _) _ 32 (by rfl) (N := 62) rfl (xs := [(⟨c1, 0, 0, 0⟩ : Ln)]) (inner := [.int .i64 c1, .int .i64 0, .int .i64 0, .int .i64 0]) (ok := fun _ => True) (okp := fun _ => True) ?hr (reps1 c1 _) (fun _ h => h) trivial (Below.refl _ _) (Nat.le_refl _) (by simp) ?_
                  case hr => first | (go_simp; done) | (go_simp; rfl)
                  intro s1 Wrp hR hB hG hS
                  obtain ⟨A1, e1, hs⟩ := Kd.R_slice hR
                  subst hs
                  have HL1rp := Aside0.mk (Lit.mk' hR HQr.out)
                  have HL2rp := Aside0.mk (Lit.below HL2r.out hB)
                  have HQrp := Aside0.mk (Q2.below HQr.out hB)
                  clear hR hB hG hS
                  refine hK.out _ _ ⟨(int_at HCo.out HQrp.out.b i hio c1 hc1), (int_at HCl1.out HQrp.out.b i hi1 c2 hc2)⟩ (fun hHeld => ?_)
                  clear hK K
                  refine norm_ (a' := ?_) ?_ ?_
                  rotate_left
                  · show Act.put _ (some 62) _ = _
                    simp only [Act.put, List.setIfInBounds_toArray, List.set_cons_zero, List.set_cons_succ, i64_w, i32_w]
                    rfl
                  refine one_ (i := 7) (N := some 63) #[true, true, true, true, true, true, true, true, true, true, true, true, true, true, true, false, false, false] rfl rfl (by kernel_rfl) (by decide) (fun K hK => ?_)
                  refine Kd.R_append_rows_step k32 (w0 := W1) W1.heap.size (by rfl) (.tmp 56) (.tmp 62) 30 32 (.agg #[(.int .i64 0), (.int .i64 0), (.int .i64 0), (.int .i64 0)]) 32 rfl Try.underlying30 info32 rfl (by decide) (by decide) u7 (tbl (rd o) B) [(⟨c1, 0, 0, 0⟩ : Ln)] A1 1 e1 (fun k => True ∧ some k ≠ u8.ownBlock) (fun _ => False) rfl rfl HQrp.out.t (Lit.row HL1rp.out) (fun y cs h => by rw [k32_open h]; exact k32_mkM _ _ _ y) (fun _ h => h.elim) (HQrp.out.fresht) HQrp.out.b HQrp.out.b.size HTL1.out ?_
                  intro vt1 Wrpq hR hB hG hA
                  have HL2rpq := Aside0.mk (Lit.grownT HL2rp.out hG)
                  have HQrpq := Aside0.mk (Q2.appT HQrp.out hR hB hG hA)
                  clear hR hB hG hA
                  refine hK.out _ _ ⟨(int_at HCo.out HQrpq.out.b i hio c1 hc1), (int_at HCl1.out HQrpq.out.b i hi1 c2 hc2)⟩ (fun hHeld => ?_)
                  clear hK K
                  refine norm_ (a' := ?_) ?_ ?_
                  rotate_left
                  · show Act.put _ (some 63) _ = _
                    simp only [Act.put, List.setIfInBounds_toArray, List.set_cons_zero, List.set_cons_succ, i64_w, i32_w]
                    rfl
                  exact norm_ (by simp only [putAll, Act.put, List.setIfInBounds_toArray, List.set_cons_zero, List.set_cons_succ]) (hCont (.slice A1 [(⟨c1, 0, 0, 0⟩ : Ln)].length e1, vt1, .slice A2 [(⟨c2, 0, 0, 0⟩ : Ln)].length e2) _ ⟨HQrpq.out, _, _, rfl, _, HL2rpq.out⟩)
              rintro ⟨s1, vt1, s2⟩ w8 ⟨hF, A2, e2, hs, vt0, hL⟩
              simp only at hs hF ⊢
              subst hs
              have HQ8 := Aside0.mk hF
              have HL28 := Aside0.mk hL
              clear hF hL
              have hHeld : w8.cell? (ao.add i) = some (.int .i64 c1) ∧ w8.cell? (ac.add i) = some (.int .i64 c2) := ⟨(int_at HCo.out HQ8.out.b i hio c1 hc1), (int_at HCl1.out HQ8.out.b i hi1 c2 hc2)⟩
              refine norm_ (a' := ?_) ?_ ?_
              rotate_left
              · simp only [putAll, Act.put, List.setIfInBounds_toArray, List.set_cons_zero, List.set_cons_succ]
                rfl
              refine one_ (i := 15) (N := some 71) #[true, true, true, true, true, true, true, true, true, true, true, true, true, true, true, true, false, false] rfl rfl (by kernel_rfl) (by decide) (fun K hK => ?_)
              refine Kd.R_append_rows_step k32 (w0 := W1) W1.heap.size (by rfl) (.tmp 64) (.tmp 70) 30 32 (.agg #[(.int .i64 0), (.int .i64 0), (.int .i64 0), (.int .i64 0)]) 32 rfl Try.underlying30 info32 rfl (by decide) (by decide) u8 (tbl (rd l1) B) [(⟨c2, 0, 0, 0⟩ : Ln)] A2 1 e2 (fun k => True ∧ some k ≠ vt1.ownBlock) (fun _ => False) rfl rfl HQ8.out.u (Lit.row HL28.out) (fun y cs h => by rw [k32_open h]; exact k32_mkM _ _ _ y) (fun _ h => h.elim) (HQ8.out.freshu) HQ8.out.b HQ8.out.b.size HTL2.out ?_
              intro vu1 W9 hR hB hG hA
              have HQ9 := Aside0.mk (Q2.appU HQ8.out hR hB hG hA)
              clear hR hB hG hA
              refine hK.out _ _ ⟨(int_at HCo.out HQ9.out.b i hio c1 hc1), (int_at HCl1.out HQ9.out.b i hi1 c2 hc2)⟩ (fun hHeld => ?_)
              clear hK K
              refine norm_ (a' := ?_) ?_ ?_
              rotate_left
              · show Act.put _ (some 71) _ = _
                simp only [Act.put, List.setIfInBounds_toArray, List.set_cons_zero, List.set_cons_succ, i64_w, i32_w]
                rfl
              refine pure_ (i := 16) (N := some 7) (v := ?_) (a' := ?_) #[true, true, true, true, true, true, true, true, true, true, true, true, true, true, true, true, true, false] rfl rfl (by kernel_rfl) (fun _ _ _ h => h) (Or.inl ⟨by rfl, ?_⟩) ?_ ?_
              rotate_left
              · intro w'
                go_simp
                with_reducible rfl
              rotate_left
              · simp only [Act.put, List.setIfInBounds_toArray, List.set_cons_zero, List.set_cons_succ, i64_w, i32_w]
                rfl
              refine pure_ (i := 17) (N := some 8) (v := ?_) (a' := ?_) #[true, true, true, true, true, true, true, true, true, true, true, true, true, true, true, true, true, true] rfl rfl (by kernel_rfl) (fun _ _ _ h => h) (Or.inl ⟨by rfl, ?_⟩) ?_ ?_
              rotate_left
              · intro w'
                go_simp
                with_reducible rfl
              rotate_left
              · simp only [Act.put, List.setIfInBounds_toArray, List.set_cons_zero, List.set_cons_succ, i64_w, i32_w]
                rfl
              refine done_ (by kernel_rfl) ?_
              go_wp2_with (fail)
              refine ⟨⟨i + 1, by omega, by go_num, by rw [HPS.out, List.length_append]; rfl, by rw [HAL.out]; rfl, ⟨?_⟩⟩, by simp [intOf] <;> omega⟩
              rw [HPS.out]
              have h9 := HQ9.out
              unfold tbl mkl at h9 ⊢
              rw [List.map_append, List.map_append]
              simp only [List.map_cons, List.map_nil, HC1.out, HC2.out]
              exact h9
        · obtain ⟨V, hV⟩ : ∃ V, V = wr := ⟨_, rfl⟩
          subst hV
          obtain rfl : i = l.length := by omega
          obtain ⟨B, hBB⟩ : ∃ x, pl l l.length = x := ⟨_, rfl⟩
          have hbl : B.length ≤ 64 := by rw [← hBB, pl_len]; have := lv_len l l.length; omega
          have HBB := Aside0.mk hBB
          have hal : allB l l1 l.length = B.all fun j => decide (0 < rd l1 j) := by unfold allB; rw [hBB]
          obtain ⟨β, hβ⟩ : ∃ β, allB l l1 l.length = β := ⟨_, rfl⟩
          rw [hβ] at hal ⊢
          rw [hBB] at HQ HNE HO1 HKL HKL2 HLS ⊢
          have HALL := Aside0.mk hal
          obtain ⟨AT, cT, hvt⟩ := Kd.R_slice HQ.out.t
          obtain ⟨AU, cU, hvu⟩ := Kd.R_slice HQ.out.u
          subst hvt hvu
          have HTR := Aside0.mk (Kd.R_reads' HQ.out.t)
          have HUR := Aside0.mk (Kd.R_reads' HQ.out.u)
          have HBV := Aside0.mk (below_then HB1.out HB1.out.size HQ.out.b)
          have HCl := Aside0.mk (Kd.C_below HCl.out HQ.out.b)
          have HCl1 := Aside0.mk (Kd.C_below HCl1.out HQ.out.b)
          have HCo := Aside0.mk (Kd.C_below HCo.out HQ.out.b)
          have htp : vldP (tbl (rd o) B) := (vld_tbl HO1.out HNE.out hbl).2 ⟨fun j hj => ⟨HO1.out j hj, (HOB.out j).2⟩, HKL.out⟩
          obtain ⟨kv, hvv⟩ := Ev.rounds (rvalid_ev (tbl (rd o) B))
          rw [decide_eq_true htp] at hvv
          have HVT := Aside0.mk (fun (W : World) (hb : Below V.heap.size V W) => incunableref04_Valid.calls kv AT cT (tbl (rd o) B) true W (Kd.C_below HTR.out.2.2 hb) HTR.out.2.1 hvv)
          obtain ⟨β2, hβ2⟩ : ∃ x, decide (vldP (tbl (rd l1) B)) = x := ⟨_, rfl⟩
          obtain ⟨ku, huv⟩ := Ev.rounds (rvalid_ev (tbl (rd l1) B))
          rw [hβ2] at huv
          have HVU := Aside0.mk (fun (W : World) (hb : Below V.heap.size V W) => incunableref04_Valid.calls ku AU cU (tbl (rd l1) B) β2 W (Kd.C_below HUR.out.2.2 hb) HUR.out.2.1 huv)
          have HB2V := Aside0.mk hβ2
          have HCM := Aside0.mk (show 1 < B.length → ∀ (W : World) (hb : Below V.heap.size V W), Calls Try.prog 21 #[.slice AT (tbl (rd o) B).length cT] W fun e w' => e = .returned (.bool true) ∧ Below W.heap.size W w' from fun h1 W hb => by
            obtain ⟨kc, hcv⟩ := Ev.rounds (complete_ev (rd o) B (fun j hj => ⟨HO1.out j hj, (HOB.out j).2⟩) hbl (HKL2.out h1))
            exact incunableref04_Complete.calls kc AT cT (tbl (rd o) B) true W (Kd.C_below HTR.out.2.2 hb) HTR.out.2.1 hcv)
          clear htp hvv huv hβ2 hβ hal hBB
          have tail : ∀ (V2 : World), Below V.heap.size V V2 → True := fun _ _ => trivial
          by_cases hmany : 1 < B.length
          · have hm1 : (1 : Int) < B.length := by omega
            go_wp2_with (fail)
            refine (HVT.out V (Below.refl _ _)).mono ?_
            rintro e V1 ⟨rfl, hb1⟩
            have HD1 := Aside0.mk hb1
            clear hb1
            go_wp2_with (fail)
            refine (HCM.out hmany V1 HD1.out).mono ?_
            rintro e V2 ⟨rfl, hb2⟩
            have HD2 := Aside0.mk (below_then HD1.out HD1.out.size hb2)
            clear hb2 HD1
            cases β
            · go_wp2_with (fail)
              refine (HA.out _).mono ?_
              rintro e V3 ⟨rfl, hb3⟩
              have HD3 := Aside0.mk (below_then HD2.out HD2.out.size hb3)
              clear hb3
              go_wp2_with (fail)
              go_ret
              exact ⟨rfl, below_then HBV.out HBV.out.size HD3.out⟩
            · go_wp2_with (fail)
              refine (HVU.out V2 HD2.out).mono ?_
              rintro e V3 ⟨rfl, hb3⟩
              have HD3 := Aside0.mk (below_then HD2.out HD2.out.size hb3)
              clear hb3 HD2
              cases β2
              · go_wp2_with (fail)
                refine (HA.out _).mono ?_
                rintro e V4 ⟨rfl, hb4⟩
                have HD4 := Aside0.mk (below_then HD3.out HD3.out.size hb4)
                clear hb4
                go_wp2_with (fail)
                go_ret
                exact ⟨rfl, below_then HBV.out HBV.out.size HD4.out⟩
              · have hv2 : vldP (tbl (rd l1) B) := of_decide_eq_true HB2V.out
                have hall := HALL.out.symm
                rw [List.all_eq_true] at hall
                have hpos : ∀ j ∈ B, 1 ≤ rd l1 j := fun j hj => by have := of_decide_eq_true (hall j hj); omega
                obtain ⟨hf, hk2⟩ := (vld_tbl hpos HNE.out hbl).1 hv2
                have HF := Aside0.mk hf
                have HLE2 := Aside0.mk (HLS.out (rd l1) hf hk2)
                obtain ⟨kc, hcv⟩ := Ev.rounds (cost2_ev l o h64 HOL.out HLB.out HOB.out)
                rw [HBB.out] at hcv
                have HCO := Aside0.mk (prefix_Cost.calls kc Ao co' o A c l (co l o B) 0 V3 (Kd.C_below HCo.out HD3.out) hco (Kd.C_below HCl.out HD3.out) hc hcv)
                clear hv2 hall hpos hf hk2 hcv
                obtain ⟨least, hlst⟩ : ∃ x, co l o B = x := ⟨_, rfl⟩
                rw [hlst] at HCO HLE2
                clear hlst
                go_wp2_with (fail)
                refine HCO.out.mono ?_
                rintro e V4 ⟨rfl, hb4⟩
                have HD4 := Aside0.mk (below_then HD3.out HD3.out.size hb4)
                clear hb4 HD3 HCO
                have HL4 := Aside0.mk (Kd.C_below HCl.out HD4.out)
                have HL14 := Aside0.mk (Kd.C_below HCl1.out HD4.out)
                go_wp2_with (fail)
                go_loopw [14, 101] (fun vc vi wr => ∃ i : Nat, i ≤ l.length ∧ vi = .int .i64 i ∧ vc = .int .i64 (oc l l1 i) ∧ wr = V4) (fun _ vi _ => l.length - (intOf vi).toNat)
                case atStart => exact ⟨0, Nat.zero_le _, rfl, rfl, rfl⟩
                case round =>
                  obtain ⟨i, hi, rfl, rfl, rfl⟩ := hrel
                  by_cases hlt : i < l.length
                  · obtain ⟨ad, hA, hx0⟩ := Kd.at_int HL4.out (i : Int) (by omega) (by omega)
                    obtain ⟨ac, hAc, hx1⟩ := Kd.at_int HL14.out (i : Int) (by omega) (by have := HLN.out; omega)
                    subst hA hAc
                    rw [Int.toNat_natCast] at hx0 hx1
                    have hs := oc_succ l l1 i
                    have hbd := oc_bound l l1 l.length HLB.out (by rw [HBB.out]; exact HF.out) i hi
                    have hbn := HLB.out (i : Int)
                    have hfi : 0 < rd l (i : Int) → 1 ≤ rd l1 (i : Int) ∧ rd l1 (i : Int) ≤ 15 := fun hp => HF.out _ (by rw [← HBB.out]; exact (pl_lt l l.length _).2 ⟨by omega, by omega, hp⟩)
                    obtain ⟨c0, hc0⟩ : ∃ x, rd l (i : Int) = x := ⟨_, rfl⟩
                    obtain ⟨c2, hc2⟩ : ∃ x, rd l1 (i : Int) = x := ⟨_, rfl⟩
                    obtain ⟨oi, hoi⟩ : ∃ x, oc l l1 i = x := ⟨_, rfl⟩
                    rw [hc0] at hx0 hs hbn hfi
                    rw [hc2] at hx1 hs hfi
                    rw [hoi] at hs hbd ⊢
                    have hi1 : (i : Int) < l1.length := by have := HLN.out; omega
                    clear hc0 hc2 hoi
                    by_cases hp : 0 < c0
                    · have hfj := hfi hp
                      rw [if_pos hp] at hs
                      have h3 : 0 ≤ c0 * c2 := Int.mul_nonneg (by omega) (by omega)
                      have h4 : c0 * c2 ≤ c0 * 15 := Int.mul_le_mul_of_nonneg_left hfj.2 (by omega)
                      obtain ⟨pr, hpr⟩ : ∃ x, c0 * c2 = x := ⟨_, rfl⟩
                      have hpw : IntKind.i64.wrap (c0 * c2) = pr := by rw [hpr, i64_w, wrap_id] <;> omega
                      rw [hpr] at h3 h4 hs
                      have HS := Aside0.mk hs
                      clear hs hfi hpr
                      go_wp2_with (fail)
                      exact ⟨⟨i + 1, by omega, by go_num, by rw [HS.out], trivial⟩, by simp [intOf] <;> omega⟩
                    · rw [if_neg hp] at hs
                      have HS := Aside0.mk hs
                      clear hs hfi
                      go_wp2_with (fail)
                      exact ⟨⟨i + 1, by omega, by go_num, by rw [HS.out], trivial⟩, by simp [intOf] <;> omega⟩
                  · obtain rfl : i = l.length := by omega
                    have hle3 : least ≤ oc l l1 l.length := by have := HLE2.out; unfold oc; rw [HBB.out]; exact this
                    obtain ⟨oi, hoi⟩ : ∃ x, oc l l1 l.length = x := ⟨_, rfl⟩
                    rw [hoi] at hle3 ⊢
                    clear hoi
                    go_wp2_with (fail)
                    refine (HA.out _).mono ?_
                    rintro e V5 ⟨rfl, hb5⟩
                    have HD5 := Aside0.mk (below_then HD4.out HD4.out.size hb5)
                    clear hb5
                    go_wp2_with (fail)
                    go_ret
                    exact ⟨rfl, below_then HBV.out HBV.out.size HD5.out⟩
          · have hm1 : ¬ (1 : Int) < B.length := by omega
            go_wp2_with (fail)
            refine (HVT.out V (Below.refl _ _)).mono ?_
            rintro e V2 ⟨rfl, hb2⟩
            have HD2 := Aside0.mk hb2
            clear hb2
            cases β
            · go_wp2_with (fail)
              refine (HA.out _).mono ?_
              rintro e V3 ⟨rfl, hb3⟩
              have HD3 := Aside0.mk (below_then HD2.out HD2.out.size hb3)
              clear hb3
              go_wp2_with (fail)
              go_ret
              exact ⟨rfl, below_then HBV.out HBV.out.size HD3.out⟩
            · go_wp2_with (fail)
              refine (HVU.out V2 HD2.out).mono ?_
              rintro e V3 ⟨rfl, hb3⟩
              have HD3 := Aside0.mk (below_then HD2.out HD2.out.size hb3)
              clear hb3 HD2
              cases β2
              · go_wp2_with (fail)
                refine (HA.out _).mono ?_
                rintro e V4 ⟨rfl, hb4⟩
                have HD4 := Aside0.mk (below_then HD3.out HD3.out.size hb4)
                clear hb4
                go_wp2_with (fail)
                go_ret
                exact ⟨rfl, below_then HBV.out HBV.out.size HD4.out⟩
              · have hv2 : vldP (tbl (rd l1) B) := of_decide_eq_true HB2V.out
                have hall := HALL.out.symm
                rw [List.all_eq_true] at hall
                have hpos : ∀ j ∈ B, 1 ≤ rd l1 j := fun j hj => by have := of_decide_eq_true (hall j hj); omega
                obtain ⟨hf, hk2⟩ := (vld_tbl hpos HNE.out hbl).1 hv2
                have HF := Aside0.mk hf
                have HLE2 := Aside0.mk (HLS.out (rd l1) hf hk2)
                obtain ⟨kc, hcv⟩ := Ev.rounds (cost2_ev l o h64 HOL.out HLB.out HOB.out)
                rw [HBB.out] at hcv
                have HCO := Aside0.mk (prefix_Cost.calls kc Ao co' o A c l (co l o B) 0 V3 (Kd.C_below HCo.out HD3.out) hco (Kd.C_below HCl.out HD3.out) hc hcv)
                clear hv2 hall hpos hf hk2 hcv
                obtain ⟨least, hlst⟩ : ∃ x, co l o B = x := ⟨_, rfl⟩
                rw [hlst] at HCO HLE2
                clear hlst
                go_wp2_with (fail)
                refine HCO.out.mono ?_
                rintro e V4 ⟨rfl, hb4⟩
                have HD4 := Aside0.mk (below_then HD3.out HD3.out.size hb4)
                clear hb4 HD3 HCO
                have HL4 := Aside0.mk (Kd.C_below HCl.out HD4.out)
                have HL14 := Aside0.mk (Kd.C_below HCl1.out HD4.out)
                go_wp2_with (fail)
                go_loopw [14, 101] (fun vc vi wr => ∃ i : Nat, i ≤ l.length ∧ vi = .int .i64 i ∧ vc = .int .i64 (oc l l1 i) ∧ wr = V4) (fun _ vi _ => l.length - (intOf vi).toNat)
                case atStart => exact ⟨0, Nat.zero_le _, rfl, rfl, rfl⟩
                case round =>
                  obtain ⟨i, hi, rfl, rfl, rfl⟩ := hrel
                  by_cases hlt : i < l.length
                  · obtain ⟨ad, hA, hx0⟩ := Kd.at_int HL4.out (i : Int) (by omega) (by omega)
                    obtain ⟨ac, hAc, hx1⟩ := Kd.at_int HL14.out (i : Int) (by omega) (by have := HLN.out; omega)
                    subst hA hAc
                    rw [Int.toNat_natCast] at hx0 hx1
                    have hs := oc_succ l l1 i
                    have hbd := oc_bound l l1 l.length HLB.out (by rw [HBB.out]; exact HF.out) i hi
                    have hbn := HLB.out (i : Int)
                    have hfi : 0 < rd l (i : Int) → 1 ≤ rd l1 (i : Int) ∧ rd l1 (i : Int) ≤ 15 := fun hp => HF.out _ (by rw [← HBB.out]; exact (pl_lt l l.length _).2 ⟨by omega, by omega, hp⟩)
                    obtain ⟨c0, hc0⟩ : ∃ x, rd l (i : Int) = x := ⟨_, rfl⟩
                    obtain ⟨c2, hc2⟩ : ∃ x, rd l1 (i : Int) = x := ⟨_, rfl⟩
                    obtain ⟨oi, hoi⟩ : ∃ x, oc l l1 i = x := ⟨_, rfl⟩
                    rw [hc0] at hx0 hs hbn hfi
                    rw [hc2] at hx1 hs hfi
                    rw [hoi] at hs hbd ⊢
                    have hi1 : (i : Int) < l1.length := by have := HLN.out; omega
                    clear hc0 hc2 hoi
                    by_cases hp : 0 < c0
                    · have hfj := hfi hp
                      rw [if_pos hp] at hs
                      have h3 : 0 ≤ c0 * c2 := Int.mul_nonneg (by omega) (by omega)
                      have h4 : c0 * c2 ≤ c0 * 15 := Int.mul_le_mul_of_nonneg_left hfj.2 (by omega)
                      obtain ⟨pr, hpr⟩ : ∃ x, c0 * c2 = x := ⟨_, rfl⟩
                      have hpw : IntKind.i64.wrap (c0 * c2) = pr := by rw [hpr, i64_w, wrap_id] <;> omega
                      rw [hpr] at h3 h4 hs
                      have HS := Aside0.mk hs
                      clear hs hfi hpr
                      go_wp2_with (fail)
                      exact ⟨⟨i + 1, by omega, by go_num, by rw [HS.out], trivial⟩, by simp [intOf] <;> omega⟩
                    · rw [if_neg hp] at hs
                      have HS := Aside0.mk hs
                      clear hs hfi
                      go_wp2_with (fail)
                      exact ⟨⟨i + 1, by omega, by go_num, by rw [HS.out], trivial⟩, by simp [intOf] <;> omega⟩
                  · obtain rfl : i = l.length := by omega
                    have hle3 : least ≤ oc l l1 l.length := by have := HLE2.out; unfold oc; rw [HBB.out]; exact this
                    obtain ⟨oi, hoi⟩ : ∃ x, oc l l1 l.length = x := ⟨_, rfl⟩
                    rw [hoi] at hle3 ⊢
                    clear hoi
                    go_wp2_with (fail)
                    refine (HA.out _).mono ?_
                    rintro e V5 ⟨rfl, hb5⟩
                    have HD5 := Aside0.mk (below_then HD4.out HD4.out.size hb5)
                    clear hb5
                    go_wp2_with (fail)
                    go_ret
                    exact ⟨rfl, below_then HBV.out HBV.out.size HD5.out⟩
    · have hl2' : ((l1.length : Int) != (l.length : Int)) = true := by simp; omega
      clear hln
      go_enter Try.func4, Try.ntmps4
      go_wp2_with (fail)
      refine HLE.out.mono ?_
      rintro e W1 ⟨v, rfl, hRo, hB1⟩
      have HB1 := Aside0.mk hB1
      clear hRo hB1
      go_wp2_with (fail)
      refine (HA.out _).mono ?_
      rintro e W2 ⟨rfl, hB2⟩
      have HB2 := Aside0.mk (below_then HB1.out HB1.out.size hB2)
      clear hB2
      go_wp2_with (fail)
      go_ret
      exact ⟨rfl, HB2.out⟩
  · have he0 : (er == 0) = false := beq_eq_false_iff_ne.mpr her
    have he1 : (er != 0) = true := bne_iff_ne.mpr her
    go_enter Try.func4, Try.ntmps4
    go_wp2_with (fail)
    refine HLE.out.mono ?_
    rintro e W1 ⟨v, rfl, hRo, hB1⟩
    have HB1 := Aside0.mk hB1
    clear hRo hB1
    go_wp2_with (fail)
    refine (HA.out _).mono ?_
    rintro e W2 ⟨rfl, hB2⟩
    have HB2 := Aside0.mk (below_then HB1.out HB1.out.size hB2)
    clear hB2
    go_wp2_with (fail)
    go_ret
    exact ⟨rfl, HB2.out⟩
end Go.Proofs.Ytnadgcdkcabdoaa.Lsw
