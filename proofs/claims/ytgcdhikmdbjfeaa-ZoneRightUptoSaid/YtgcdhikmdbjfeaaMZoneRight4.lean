import Derived.Test.YtgcdhikmdbjfeaaMZoneRight1
import Derived.Test.YtgcdhikmdbjfeaaMZoneRight3
import Derived.Test.YtgcdhikmdbjfeaaMZoneRight2
import Derived.Lib.IndexLaws
import Derived.Lib.SlBytesConst
import Derived.Test.YtgcdhikmdbjfeaaMZoneRight0
import Derived.SizedLaws
import Derived.ChangeSlices
import Derived.ChangeArms
import Derived.Test.YtgcdhikmdbjfeaaRows
import Derived.HandedShaped
import Derived.Deep.CondSized
set_option linter.unusedVariables false
set_option linter.unusedSimpArgs false
namespace Go.Proofs.Ytgcdhikmdbjfeaa.U
open Go.RowKit Go.Proofs.YtgcdhikmdbjfeaaW.PrintWords Go.Proofs.YtgcdhikmdbjfeaaW.PrintLast Go.Proofs.YtgcdhikmdbjfeaaW.PrintMore
attribute [local go_sem] max2_int min2_int max_two min_two max_three min_three max_four min_four   -- for this text's walks alone
attribute [local go_sem high] eqA34
def incunableref24_SamePairs.l0 : Nat → List (S34) → List (S34) → Int → Int → Option (Bool)
  | 0, _, _, _, _ => none
  | k + 1, x0, x1, x12, x13 => if x13 < x12 then (if 0 ≤ x13 then (if x13 < (x0.length : Int) then (if x13 < (x1.length : Int) then (if (!(((rd_T34 x0 x13).f0) == ((rd_T34 x1 x13).f0)) || (!(((rd_T34 x0 x13).f1) == ((rd_T34 x1 x13).f1)))) = true then (some false) else (incunableref24_SamePairs.l0 k x0 x1 x12 (wrap64 (x13 + 1)))) else (none)) else (none)) else (none)) else (some true)
def incunableref24_SamePairs.f (k : Nat) (l0 : List (S34)) (l1 : List (S34)) : Option (Bool) := if (l0.length : Int) = (l1.length : Int) then (incunableref24_SamePairs.l0 k l0 l1 (l0.length : Int) 0) else (some false)
theorem incunableref24_SamePairs.mono_l : ∀ k, (∀ y0 y1 y2 y3, LeO (incunableref24_SamePairs.l0 k y0 y1 y2 y3) (incunableref24_SamePairs.l0 (k + 1) y0 y1 y2 y3))
  | 0 => fun _ _ _ _ r h => by simp [incunableref24_SamePairs.l0] at h
  | k + 1 => by
    have ih0 := incunableref24_SamePairs.mono_l k
    · intro y0 y1 y2 y3
      unfold incunableref24_SamePairs.l0
      repeat' first
      | (with_reducible exact ih0 _ _ _ _)
      | (with_reducible exact LeO.refl _)
      | (with_reducible exact LeO.none _)
      | (with_reducible refine LeO.ite ?_ ?_)
      | (with_reducible refine LeO.bind ?_ (fun _ => ?_))
      | exact ih0 _ _ _ _
      | exact LeO.none _
      | refine LeO.ite ?_ ?_
      | refine LeO.bind ?_ (fun _ => ?_)
theorem incunableref24_SamePairs.mono : ∀ a0 a1 k, LeO (incunableref24_SamePairs.f k a0 a1) (incunableref24_SamePairs.f (k + 1) a0 a1) := by
 intro a0 a1 k; have ih0 := incunableref24_SamePairs.mono_l k; unfold incunableref24_SamePairs.f
 repeat' first
  | (with_reducible exact ih0 _ _ _ _)
  | (with_reducible exact LeO.refl _)
  | (with_reducible exact LeO.none _)
  | (with_reducible refine LeO.ite ?_ ?_)
  | (with_reducible refine LeO.bind ?_ (fun _ => ?_))
  | exact ih0 _ _ _ _
  | exact LeO.none _
  | refine LeO.ite ?_ ?_
  | refine LeO.bind ?_ (fun _ => ?_)
set_option maxHeartbeats 8000000 in
set_option maxRecDepth 100000 in
theorem incunableref24_SamePairs.calls (k : Nat) (A0 : Option Addr) (c0 : Nat) (l0 : List (S34)) (A1 : Option Addr) (c1 : Nat) (l1 : List (S34)) (r : Bool) (w : World) (hr0 : Kd.C k34 w A0 l0.length l0) (hc0 : l0.length ≤ c0) (hr1 : Kd.C k34 w A1 l1.length l1) (hc1 : l1.length ≤ c1) (h : incunableref24_SamePairs.f k l0 l1 = some r) :
    Calls Try.prog 14 #[.slice A0 l0.length c0, .slice A1 l1.length c1] w fun e w' => e = .returned (.bool r) ∧ Drawn0 w w' := by
 have hu34 := Try.underlying34; have HR0 := Aside0.mk hr0; have HC0 := Aside0.mk hc0; clear hr0 hc0; have HR1 := Aside0.mk hr1; have HC1 := Aside0.mk hc1; clear hr1 hc1; have H : (if (l0.length : Int) = (l1.length : Int) then (incunableref24_SamePairs.l0 k l0 l1 (l0.length : Int) 0) else (some false)) = some r := h; clear h; by_cases c3 : (l0.length : Int) = (l1.length : Int)
 · rw [if_pos c3] at H
   have c3b0 : ((l0.length : Int) == (l1.length : Int)) = true := beq_iff_eq.mpr c3; have c3b1 : ((l0.length : Int) != (l1.length : Int)) = false := bne_eq_false_iff_eq.mpr c3; (have c3b2 : (l0.length == l1.length) = true := by first | simpa using c3 | (simp at c3 ⊢; omega)); clear c3; have H' := Aside0.mk H; clear H; go_enter Try.func14, Try.ntmps14; go_wp2; (repeat (go_quiet (fail); try go_wp2)); go_loopg [13] k (fun kq v13 w' => ∃ (x13_1 : Int), v13 = .int .i64 x13_1 ∧ Aside0 (incunableref24_SamePairs.l0 kq l0 l1 (l0.length : Int) x13_1 = some r) ∧ Aside0 (kq ≤ k) ∧ Drawn0 w w'); (case atStart => exact ⟨(0), (by first | rfl | (simp; done) | (simp [*]; done)), H', ⟨Nat.le_refl _⟩, by repeat (first | exact Drawn0.refl _ | apply Drawn0.step)⟩)
   case round =>
    clear H'; (try clear c1); (try clear p2); (try clear c3); (try clear c3b0); (try clear c3b1); (try clear c3b2); obtain ⟨x13_1, rfl, HA, HK1, ⟨m1, rfl⟩⟩ := hrel
    cases gk with
    | zero => exact absurd HA.out (by simp [incunableref24_SamePairs.l0])
    | succ k1 =>
     have H := HA.out; clear HA; simp only [incunableref24_SamePairs.l0] at H; by_cases c4 : x13_1 < (l0.length : Int)
     (· rw [if_pos c4] at H; have c4b0 : decide (x13_1 < (l0.length : Int)) = true := decide_eq_true c4; clear c4; by_cases c5 : 0 ≤ x13_1; (· rw [if_pos c5] at H; have c5b0 : decide (0 ≤ x13_1) = true := decide_eq_true c5; clear c5; by_cases c6 : x13_1 < (l0.length : Int); (· rw [if_pos c6] at H; have c6b0 : decide (x13_1 < (l0.length : Int)) = true := decide_eq_true c6; clear c6; by_cases c7 : x13_1 < (l1.length : Int); (· rw [if_pos c7] at H; have c7b0 : decide (x13_1 < (l1.length : Int)) = true := decide_eq_true c7; clear c7; by_cases c8 : (!(((rd_T34 l0 x13_1).f0) == ((rd_T34 l1 x13_1).f0)) || (!(((rd_T34 l0 x13_1).f1) == ((rd_T34 l1 x13_1).f1)))) = true; (· rw [if_pos c8] at H; have c8b0 : (!(((rd_T34 l0 x13_1).f0) == ((rd_T34 l1 x13_1).f0)) || (!(((rd_T34 l0 x13_1).f1) == ((rd_T34 l1 x13_1).f1)))) = true := c8; clear c8; obtain rfl := Option.some.inj H; have p116 : 0 ≤ (x13_1 : Int) := of_decide_eq_true (by first | (with_reducible assumption) | assumption); have q116 : x13_1 < (l0.length : Int) := of_decide_eq_true (by first | (with_reducible assumption) | assumption); obtain ⟨ad116, e116, hx116_0, hx116_1⟩ := at_T34 HR0.out x13_1 p116 q116; cases e116; replace p116 := eq_true p116; replace q116 := eq_true q116; have p117 : 0 ≤ (x13_1 : Int) := of_decide_eq_true (by first | (with_reducible assumption) | assumption); have q117 : x13_1 < (l1.length : Int) := of_decide_eq_true (by first | (with_reducible assumption) | assumption); obtain ⟨ad117, e117, hx117_0, hx117_1⟩ := at_T34 HR1.out x13_1 p117 q117; cases e117; replace p117 := eq_true p117; replace q117 := eq_true q117; go_wp2; (repeat (go_quiet (fail); try go_wp2)); go_ret; exact ⟨by first | rfl | (simp; done) | (simp [*]; done), by repeat (first | exact Drawn0.refl _ | apply Drawn0.step)⟩); (· rw [if_neg c8] at H; (have c8b0 : (!(((rd_T34 l0 x13_1).f0) == ((rd_T34 l1 x13_1).f0)) || (!(((rd_T34 l0 x13_1).f1) == ((rd_T34 l1 x13_1).f1)))) = false := by simpa using c8); clear c8; have H' := Aside0.mk H; clear H; have p116 : 0 ≤ (x13_1 : Int) := of_decide_eq_true (by first | (with_reducible assumption) | assumption); have q116 : x13_1 < (l0.length : Int) := of_decide_eq_true (by first | (with_reducible assumption) | assumption); obtain ⟨ad116, e116, hx116_0, hx116_1⟩ := at_T34 HR0.out x13_1 p116 q116; cases e116; replace p116 := eq_true p116; replace q116 := eq_true q116; have p117 : 0 ≤ (x13_1 : Int) := of_decide_eq_true (by first | (with_reducible assumption) | assumption); have q117 : x13_1 < (l1.length : Int) := of_decide_eq_true (by first | (with_reducible assumption) | assumption); obtain ⟨ad117, e117, hx117_0, hx117_1⟩ := at_T34 HR1.out x13_1 p117 q117; cases e117; replace p117 := eq_true p117; replace q117 := eq_true q117; go_wp2; (repeat (go_quiet (fail); try go_wp2)); go_roundg k1; (case measure => have := HK1.out; omega); (case rel => exact ⟨(wrap64 (x13_1 + 1)), (by first | rfl | (simp; done) | (simp [*]; done)), H', ⟨by have := HK1.out; omega⟩, by repeat (first | exact Drawn0.refl _ | apply Drawn0.step)⟩))); (· rw [if_neg c7] at H; exact absurd H (by simp))); (· rw [if_neg c6] at H; exact absurd H (by simp))); (· rw [if_neg c5] at H; exact absurd H (by simp)))
     (· rw [if_neg c4] at H; have c4b0 : decide (x13_1 < (l0.length : Int)) = false := decide_eq_false c4; clear c4; obtain rfl := Option.some.inj H; go_wp2; (repeat (go_quiet (fail); try go_wp2)); go_ret; exact ⟨by first | rfl | (simp; done) | (simp [*]; done), by repeat (first | exact Drawn0.refl _ | apply Drawn0.step)⟩)
 (· rw [if_neg c3] at H; have c3b0 : ((l0.length : Int) == (l1.length : Int)) = false := beq_eq_false_iff_ne.mpr c3; have c3b1 : ((l0.length : Int) != (l1.length : Int)) = true := bne_iff_ne.mpr c3; (have c3b2 : (l0.length == l1.length) = false := by first | simpa using c3 | (simp at c3 ⊢; omega)); obtain rfl := Option.some.inj H; go_enter Try.func14, Try.ntmps14; go_wp2; (repeat (go_quiet (fail); try go_wp2)); go_ret; exact ⟨by first | rfl | (simp; done) | (simp [*]; done), by repeat (first | exact Drawn0.refl _ | apply Drawn0.step)⟩)
end Go.Proofs.Ytgcdhikmdbjfeaa.U
namespace Go.Proofs.Ytgcdhikmdbjfeaa.Zfi
open Go Go.RowKit Go.Proofs.YtgcdhikmdbjfeaaW.PrintWords Go.Proofs.YtgcdhikmdbjfeaaW.PrintLast Go.Proofs.YtgcdhikmdbjfeaaW.PrintMore Go.Proofs.Ytgcdhikmdbjfeaa.U Go.Proofs.Ytgcdhikmdbjfeaa.Aid Go.Proofs.Ytgcdhikmdbjfeaa.HandAid Go.Proofs.Ytgcdhikmdbjfeaa.Zpl Go.Proofs.Ytgcdhikmdbjfeaa.Zrt Go.Proofs.Ytgcdhikmdbjfeaa.Zev
/-- A word stands at a place. -/
def occ (t w : List Int) (a : Nat) : Bool := decide (a + w.length ≤ t.length) && ((t.take (a + w.length)).drop a == w)
/-- The places of a word, from one on. -/
def fnd (t w : List Int) (a : Nat) : List (Nat × Nat) :=
  if h : a < t.length ∧ 0 < w.length then if occ t w a = true then (a, a + w.length) :: fnd t w (a + w.length) else fnd t w (a + 1) else []
  termination_by t.length - a
def prs (l : List (Nat × Nat)) : List (S34) := l.map fun x => ⟨(x.1 : Int), (x.2 : Int)⟩
theorem bytesOf_inj {a b : List Int} (ha : Bytes a) (hb : Bytes b) (h : Lib.bytesOf a = Lib.bytesOf b) : a = b := by
  have h2 := congrArg (List.map fun b : UInt8 => (b.toNat : Int)) h
  have e : ∀ l : List Int, Bytes l → (Lib.bytesOf l).map (fun b : UInt8 => (b.toNat : Int)) = l := by
    intro l hl
    unfold Lib.bytesOf
    rw [List.map_map]
    conv => rhs; rw [← List.map_id l]
    exact List.map_congr_left fun x hx => toByte (hl x hx)
  rwa [e a ha, e b hb] at h2
theorem bytes_cut {t : List Int} (h : Bytes t) (a b : Nat) : Bytes ((t.take b).drop a) := fun x hx => h x (List.mem_of_mem_take (List.mem_of_mem_drop hx))
theorem occ_eq {t w : List Int} (ht : Bytes t) (hw : Bytes w) (a : Nat) (ha : a ≤ t.length) : Lib.occAt (Lib.bytesOf t) (Lib.bytesOf w) a = occ t w a := by
  rw [Bool.eq_iff_iff]
  unfold Lib.occAt occ
  rw [List.isPrefixOf_iff_prefix, Bool.and_eq_true, decide_eq_true_iff, beq_iff_eq]
  constructor
  · rintro ⟨s, hs⟩
    have hl := congrArg List.length hs
    simp [Lib.bytesOf] at hl
    refine ⟨by omega, bytesOf_inj (bytes_cut ht _ _) hw ?_⟩
    have h1 : ((Lib.bytesOf t).drop a).take (Lib.bytesOf w).length = Lib.bytesOf w := by rw [← hs]; simp
    rw [← h1]
    simp [Lib.bytesOf, List.map_drop, List.map_take, List.drop_take]
  · rintro ⟨hl, he⟩
    rw [List.drop_take, Nat.add_sub_cancel_left] at he
    have h2 := congrArg Lib.bytesOf he
    refine ⟨(Lib.bytesOf t).drop (a + w.length), ?_⟩
    simp only [Lib.bytesOf, List.map_take, List.map_drop] at h2 ⊢
    conv => rhs; rw [← List.take_append_drop w.length ((List.map (fun n => UInt8.ofNat n.toNat) t).drop a)]
    rw [h2, List.drop_drop]
theorem fnd_next {t w : List Int} (hw : 0 < w.length) : ∀ m a : Nat, t.length - a = m → ((∀ j, a ≤ j → j < t.length → occ t w j = false) ∧ fnd t w a = []) ∨ ∃ i, a ≤ i ∧ i < t.length ∧ occ t w i = true ∧ (∀ j, a ≤ j → j < i → occ t w j = false) ∧ fnd t w a = (i, i + w.length) :: fnd t w (i + w.length) := by
  intro m
  induction m with
  | zero =>
    intro a hm
    refine .inl ⟨fun j h1 h2 => by omega, ?_⟩
    rw [fnd, dif_neg (by omega)]
  | succ m ih =>
    intro a hm
    rw [fnd, dif_pos (by omega)]
    cases ho : occ t w a
    · rw [if_neg (by simp)]
      rcases ih (a + 1) (by omega) with ⟨h1, h2⟩ | ⟨i, h1, h2, h3, h4, h5⟩
      · refine .inl ⟨fun j hj hj2 => ?_, h2⟩
        by_cases e : j = a
        · rw [e]; exact ho
        · exact h1 j (by omega) hj2
      · refine .inr ⟨i, by omega, h2, h3, fun j hj hj2 => ?_, h5⟩
        by_cases e : j = a
        · rw [e]; exact ho
        · exact h4 j (by omega) hj2
    · rw [if_pos rfl]
      exact .inr ⟨a, Nat.le_refl _, by omega, ho, fun j h1 h2 => by omega, rfl⟩
theorem occ_fit {t w : List Int} {a : Nat} (h : occ t w a = true) : a + w.length ≤ t.length := by
  unfold occ at h
  rw [Bool.and_eq_true, decide_eq_true_iff] at h
  exact h.1
theorem index_at {t w : List Int} (ht : Bytes t) (hb : Bytes w) (hw : 0 < w.length) (a : Nat) (ha : a ≤ t.length) : (fnd t w a = [] ∧ Lib.index (Lib.bytesOf (t.drop a)) (Lib.bytesOf w) = -1) ∨ ∃ i, a ≤ i ∧ i + w.length ≤ t.length ∧ Lib.index (Lib.bytesOf (t.drop a)) (Lib.bytesOf w) = ((i - a : Nat) : Int) ∧ fnd t w a = (i, i + w.length) :: fnd t w (i + w.length) := by
  have hd : Bytes (t.drop a) := fun x hx => ht x (List.mem_of_mem_drop hx)
  have ho : ∀ j, a + j ≤ t.length → Lib.occAt (Lib.bytesOf (t.drop a)) (Lib.bytesOf w) j = occ t w (a + j) := by
    intro j hj
    rw [occ_eq hd hb j (by simp; omega)]
    unfold occ
    congr 1
    · rw [decide_eq_decide, List.length_drop]; omega
    · congr 1
      rw [List.take_drop, List.drop_drop]
      congr 2
      omega
  have hlen : (Lib.bytesOf (t.drop a)).length = t.length - a := by simp [Lib.bytesOf]
  have hwl : (Lib.bytesOf w).length = w.length := by simp [Lib.bytesOf]
  rcases fnd_next hw _ a rfl with ⟨h1, h2⟩ | ⟨i, h1, h2, h3, h4, h5⟩
  · refine .inl ⟨h2, ?_⟩
    refine Lib.index_past (i := t.length - a) (by intro e; rw [e] at hwl; simp at hwl; omega) (fun j hj => ?_) (by rw [hlen, hwl]; omega)
    rw [ho j (by omega)]
    exact h1 _ (by omega) (by omega)
  · refine .inr ⟨i, h1, occ_fit h3, ?_, h5⟩
    refine Lib.index_hit (fun j hj => ?_) (by rw [hlen]; omega) ?_
    · rw [ho j (by omega)]
      exact h4 _ (by omega) (by omega)
    · rw [ho _ (by omega), show a + (i - a) = i by omega]
      exact h3
theorem prs_cons (x : Nat × Nat) (l : List (Nat × Nat)) : prs (x :: l) = (⟨(x.1 : Int), (x.2 : Int)⟩ : S34) :: prs l := rfl
theorem bytes_all {l : List Int} (h : Bytes l) : (l.all fun x => decide (0 ≤ x ∧ x ≤ 255)) = true := List.all_eq_true.2 fun x hx => decide_eq_true (h x hx)
/-- The program's search, from a place on. -/
theorem find_loop {t w : List Int} (ht : Bytes t) (hb : Bytes w) (hw : 0 < w.length) (hwl : w.length ≤ 140737488351232) (htl : t.length ≤ 4000) (l : List Zn) : ∀ m a : Nat, t.length - a = m → a ≤ t.length → ∀ acc : List (S34), acc.length + (t.length - a) ≤ 4000 → Ev (fun k => zone_Find.l0 k w acc (a : Int) t l) (acc ++ prs (fnd t w a), 0) := by
  intro m
  induction m using Nat.strongRecOn with
  | ind m ih =>
    intro a hm ha acc hac
    have hf : bytes_Index.f (t.drop a) w = some (Lib.index (Lib.bytesOf (t.drop a)) (Lib.bytesOf w)) := by
      unfold bytes_Index.f
      exact if_pos ⟨bytes_all fun x hx => ht x (List.mem_of_mem_drop hx), bytes_all hb, by rw [List.length_drop]; omega, List.length_pos_iff.1 hw⟩
    refine ev_succ ?_
    simp only [zone_Find.l0]
    refine ev_pos (by omega) (ev_pos (by omega) (ev_pure (by rw [Int.toNat_natCast]; exact hf) ?_))
    rcases index_at ht hb hw a ha with ⟨h1, h2⟩ | ⟨i, h1, h2, h3, h4⟩
    · rw [h1, h2]
      refine ev_pos (by omega) (ev_const (by simp [prs]))
    · rw [h3, h4]
      refine ev_neg (by omega) (ev_pos (by omega) ?_)
      rw [wrap_id (n := (a : Int) + ((i - a : Nat) : Int)) (by omega) (by omega), wrap_id (n := ((i - a : Nat) : Int) + (w.length : Int)) (by omega) (by omega), wrap_id (n := (a : Int) + (((i - a : Nat) : Int) + (w.length : Int))) (by omega) (by omega), wrap_id (n := (a : Int) + ((i - a : Nat) : Int) + (w.length : Int)) (by omega) (by omega)]
      rw [show (a : Int) + ((i - a : Nat) : Int) = (i : Int) by omega, show (a : Int) + (((i - a : Nat) : Int) + (w.length : Int)) = ((i + w.length : Nat) : Int) by omega]
      refine ev_eq (ih (t.length - (i + w.length)) (by omega) (i + w.length) rfl h2 _ (by simp; omega)) ?_
      rw [prs_cons]
      simp
theorem find_ev {t w : List Int} (ht : Bytes t) (hb : Bytes w) (hwl : w.length ≤ 140737488351232) (l : List Zn) : Ev (fun k => zone_Find.f k t l w) (if vldZ t l = true then (if w.length = 0 then ([], 2) else (prs (fnd t w 0), 0)) else ([], 90)) := by
  unfold zone_Find.f
  refine ev_pure (show zone_Valid.f t l = some (vldZ t l) from rfl) ?_
  cases hv : vldZ t l
  · exact ev_neg (by simp) (ev_const (by simp))
  · refine ev_pos rfl ?_
    rw [if_pos rfl]
    by_cases hw : w.length = 0
    · rw [if_pos hw]
      exact ev_pos (by omega) (ev_const rfl)
    · rw [if_neg hw]
      refine ev_neg (by omega) ?_
      have := (vldZ_iff.1 hv).1
      exact ev_eq (find_loop ht hb (by omega) hwl this l _ 0 rfl (by omega) [] (by simp; omega)) (by simp)
theorem pairs_loop (l : List (S34)) (hl : l.length ≤ 9223372036854775807) : ∀ m i : Nat, l.length - i = m → i ≤ l.length → Ev (fun k => incunableref24_SamePairs.l0 k l l (l.length : Int) (i : Int)) true := by
  intro m
  induction m with
  | zero =>
    intro i hm hi
    obtain rfl : i = l.length := by omega
    refine ev_succ ?_
    simp only [incunableref24_SamePairs.l0]
    exact ev_neg (by omega) (ev_const rfl)
  | succ m ih =>
    intro i hm hi
    refine ev_succ ?_
    simp only [incunableref24_SamePairs.l0]
    rw [wrap_id (n := (i : Int) + 1) (by omega) (by omega), show (i : Int) + 1 = ((i + 1 : Nat) : Int) from rfl]
    exact ev_pos (by omega) (ev_pos (by omega) (ev_pos (by omega) (ev_pos (by omega) (ev_neg (by simp) (ih (i + 1) (by omega) (by omega))))))
theorem pairs_self (l : List (S34)) (hl : l.length ≤ 9223372036854775807) : Ev (fun k => incunableref24_SamePairs.f k l l) true := by
  unfold incunableref24_SamePairs.f
  exact ev_pos rfl (pairs_loop l hl _ 0 rfl (by omega))
end Go.Proofs.Ytgcdhikmdbjfeaa.Zfi
namespace Go.Proofs.Ytgcdhikmdbjfeaa.Zaw
open Go Go.RowKit Go.Proofs.YtgcdhikmdbjfeaaW.PrintWords Go.Proofs.YtgcdhikmdbjfeaaW.PrintLast Go.Proofs.YtgcdhikmdbjfeaaW.PrintMore Go.Proofs.Ytgcdhikmdbjfeaa.U Go.Proofs.Ytgcdhikmdbjfeaa.Aid Go.Proofs.Ytgcdhikmdbjfeaa.HandAid Go.Proofs.Ytgcdhikmdbjfeaa.Zpl Go.Proofs.Ytgcdhikmdbjfeaa.Zix Go.Proofs.Ytgcdhikmdbjfeaa.Zfi
theorem vld_nil (t : List Int) (h : t.length ≤ 4000) : vldZ t [] = true := by
  rw [vldZ_iff]
  exact ⟨h, by rw [okT]; trivial, by rw [cnt]; decide, by rw [dep]; decide⟩
theorem C_cells {W : World} {g : Nat} {t : TypeId} {fr : Nat × Nat} {l : List Int} (h : W.heap[g]? = some (.cells (l.map (Value.int .u8)).toArray t fr)) (hl : l.length ≤ 9223372036854775807) : Kd.C (Kd.int .u8) W (some ⟨g, 0, none⟩) l.length l := by
  refine Kd.C_of_reads (enc := Value.int .u8) (d := (0 : Int)) (h1 := fun _ => rfl) ⟨rfl, hl, fun _ => ⟨_, rfl, fun j hj => ?_⟩⟩
  rw [Addr.add_lit]
  simp only [World.cell?, h]
  simp [List.getElem?_eq_getElem hj, List.getD_eq_getElem?_getD]
theorem C_pairs {W : World} {g : Nat} {t : TypeId} {fr : Nat × Nat} {l : List (S34)} (h : W.heap[g]? = some (.cells (l.flatMap fun x => [.int .i64 x.f0, .int .i64 x.f1]).toArray t fr)) (hl : l.length ≤ 9223372036854775807) : Kd.C k34 W (some ⟨g, 0, none⟩) l.length l := by
  refine ⟨rfl, hl, fun _ => ⟨_, rfl, fun j p hj => ⟨[.int .i64 p.f0, .int .i64 p.f1], rfl, k34_mk W p, fun i u hi => ?_⟩⟩⟩
  rw [Addr.add_lit]
  simp only [World.cell?, h]
  have key : ∀ (l : List (S34)) (j : Nat) (p : S34), l[j]? = some p → ∀ i u, [Value.int .i64 p.f0, Value.int .i64 p.f1][i]? = some u → (l.flatMap fun x => [Value.int .i64 x.f0, Value.int .i64 x.f1])[j * 2 + i]? = some u := by
    intro l
    induction l with
    | nil => intro j p hj; simp at hj
    | cons x l ih =>
      intro j p hj i u hi
      cases j with
      | zero =>
        simp at hj
        subst hj
        match i, hi with
        | 0, hi => simpa using hi
        | 1, hi => simpa using hi
      | succ j =>
        have := ih j p (by simpa using hj) i u hi
        rw [List.flatMap_cons, show (j + 1) * 2 + i = j * 2 + i + 2 by omega]
        simpa using this
  have hk := key l j p hj i u hi
  rw [← List.getElem?_toArray] at hk
  simpa [show k34.sz = 2 from rfl] using hk
theorem heap_top (w : World) (o : Obj) : (w.alloc o).heap[w.heap.size]? = some o := blk_new w o
theorem awake1 : fnd [97, 98, 32, 97, 98] [97, 98] 0 = [(0, 2), (3, 5)] := by
  rw [fnd, dif_pos (by decide), if_pos (by decide), fnd, dif_pos (by decide), if_neg (by decide), fnd, dif_pos (by decide), if_pos (by decide), fnd, dif_neg (by decide)]
  rfl
theorem awake2 : fnd [97, 97, 97] [97, 97] 0 = [(0, 2)] := by
  rw [fnd, dif_pos (by decide), if_pos (by decide), fnd, dif_pos (by decide), if_neg (by decide), fnd, dif_neg (by decide)]
  rfl
theorem bytes_lit {l : List Int} (h : (l.all fun x => decide (0 ≤ x ∧ x ≤ 255)) = true) : Bytes l := fun x hx => of_decide_eq_true (List.all_eq_true.1 h x hx)
set_option maxHeartbeats 4000000 in
set_option maxRecDepth 100000 in
theorem awake_calls (w : World) (hG : GG w) : Calls Try.prog 11 #[] w fun e w' => e = .returned (.bool true) ∧ Below w.heap.size w w' := by
  obtain ⟨k1, f1⟩ := find_ev (t := [97, 98, 32, 97, 98]) (w := [97, 98]) (bytes_lit (by decide)) (bytes_lit (by decide)) (by decide) []
  obtain ⟨k2, f2⟩ := find_ev (t := [97, 97, 97]) (w := [97, 97]) (bytes_lit (by decide)) (bytes_lit (by decide)) (by decide) []
  obtain ⟨k3, f3⟩ := pairs_self [⟨0, 2⟩, ⟨3, 5⟩] (by decide)
  obtain ⟨k4, f4⟩ := pairs_self [⟨0, 2⟩] (by decide)
  have F1 := f1 k1 (Nat.le_refl _)
  have F2 := f2 k2 (Nat.le_refl _)
  have F3 := f3 k3 (Nat.le_refl _)
  have F4 := f4 k4 (Nat.le_refl _)
  rw [if_pos (vld_nil _ (by decide)), if_neg (by decide), awake1, show prs [(0, 2), (3, 5)] = [⟨0, 2⟩, ⟨3, 5⟩] from rfl] at F1
  rw [if_pos (vld_nil _ (by decide)), if_neg (by decide), awake2, show prs [(0, 2)] = [⟨0, 2⟩] from rfl] at F2
  clear f1 f2 f3 f4
  have HF1 := Aside0.mk F1
  have HF2 := Aside0.mk F2
  have HF3 := Aside0.mk F3
  have HF4 := Aside0.mk F4
  clear F1 F2 F3 F4
  have HG := Aside0.mk hG
  clear hG
  have hu25 := Try.underlying25
  have hu34 := Try.underlying34
  go_enter Try.func11, Try.ntmps11
  have c1 := Go.Lib.run_convert_bytes_const (P := Try.prog) w 22 5 #[.int .u8 97, .int .u8 98, .int .u8 32, .int .u8 97, .int .u8 98] 5 5 Try.underlying22 Try.underlying5
  have h1 := heap_top w (.cells #[.int .u8 97, .int .u8 98, .int .u8 32, .int .u8 97, .int .u8 98] 5 (5, 6))
  have b1 := below_alloc (Below.refl w.heap.size w) (.cells #[.int .u8 97, .int .u8 98, .int .u8 32, .int .u8 97, .int .u8 98] 5 (5, 6))
  simp only [List.size_toArray, List.length_cons, List.length_nil, Nat.zero_add, Nat.reduceAdd] at c1
  obtain ⟨W1, hW1⟩ : ∃ x, w.alloc (.cells #[.int .u8 97, .int .u8 98, .int .u8 32, .int .u8 97, .int .u8 98] 5 (5, 6)) = x := ⟨_, rfl⟩
  rw [hW1] at c1 h1 b1
  have c2 := Go.Lib.run_convert_bytes_const (P := Try.prog) W1 22 5 #[.int .u8 97, .int .u8 98] 2 2 Try.underlying22 Try.underlying5
  have h2 := heap_top W1 (.cells #[.int .u8 97, .int .u8 98] 5 (2, 3))
  have b2 := below_alloc (Below.refl W1.heap.size W1) (.cells #[.int .u8 97, .int .u8 98] 5 (2, 3))
  simp only [List.size_toArray, List.length_cons, List.length_nil, Nat.zero_add, Nat.reduceAdd] at c2
  obtain ⟨W2, hW2⟩ : ∃ x, W1.alloc (.cells #[.int .u8 97, .int .u8 98] 5 (2, 3)) = x := ⟨_, rfl⟩
  rw [hW2] at c2 h2 b2
  have HC1 := Aside0.mk (C_cells (l := [97, 98, 32, 97, 98]) (blk_below h1 b2) (by decide))
  have HC2 := Aside0.mk (C_cells (l := [97, 98]) h2 (by decide))
  have HB := Aside0.mk (below_then b1 b1.size b2)
  clear h1 h2 b1 b2 hW1 hW2
  go_wp2_with (fail)
  refine (zone_Find.calls k1 _ 5 [97, 98, 32, 97, 98] none 0 [] _ 2 [97, 98] _ 0 W2 (GG_below HG.out HB.out) HC1.out (by decide) (Kd.C_nil _ _) (Nat.le_refl _) HC2.out (by decide) HF1.out).mono ?_
  rintro e w3 ⟨v1, rfl, ho, hb⟩
  obtain ⟨A1, z1, rfl⟩ := Kd.R_slice ho
  have HS1 := Aside0.mk (Kd.R_reads' ho).2.2
  have HZ1 := Aside0.mk (Kd.R_reads' ho).2.1
  have HB := Aside0.mk (below_then HB.out HB.out.size hb)
  clear ho hb HC1 HC2 c1 c2
  have c1 := Go.Lib.run_convert_bytes_const (P := Try.prog) w3 22 5 #[.int .u8 97, .int .u8 97, .int .u8 97] 3 3 Try.underlying22 Try.underlying5
  have h1 := heap_top w3 (.cells #[.int .u8 97, .int .u8 97, .int .u8 97] 5 (3, 4))
  have b1 := below_alloc (Below.refl w3.heap.size w3) (.cells #[.int .u8 97, .int .u8 97, .int .u8 97] 5 (3, 4))
  simp only [List.size_toArray, List.length_cons, List.length_nil, Nat.zero_add, Nat.reduceAdd] at c1
  obtain ⟨W4, hW1⟩ : ∃ x, w3.alloc (.cells #[.int .u8 97, .int .u8 97, .int .u8 97] 5 (3, 4)) = x := ⟨_, rfl⟩
  rw [hW1] at c1 h1 b1
  have c2 := Go.Lib.run_convert_bytes_const (P := Try.prog) W4 22 5 #[.int .u8 97, .int .u8 97] 2 2 Try.underlying22 Try.underlying5
  have h2 := heap_top W4 (.cells #[.int .u8 97, .int .u8 97] 5 (2, 3))
  have b2 := below_alloc (Below.refl W4.heap.size W4) (.cells #[.int .u8 97, .int .u8 97] 5 (2, 3))
  simp only [List.size_toArray, List.length_cons, List.length_nil, Nat.zero_add, Nat.reduceAdd] at c2
  obtain ⟨W5, hW2⟩ : ∃ x, W4.alloc (.cells #[.int .u8 97, .int .u8 97] 5 (2, 3)) = x := ⟨_, rfl⟩
  rw [hW2] at c2 h2 b2
  have HC1 := Aside0.mk (C_cells (l := [97, 97, 97]) (blk_below h1 b2) (by decide))
  have HC2 := Aside0.mk (C_cells (l := [97, 97]) h2 (by decide))
  have HS1 := Aside0.mk (Kd.C_below HS1.out (below_then b1 b1.size b2))
  have HB := Aside0.mk (below_then HB.out HB.out.size (below_then b1 b1.size b2))
  clear h1 h2 b1 b2 hW1 hW2
  go_wp2_with (fail)
  refine (zone_Find.calls k2 _ 3 [97, 97, 97] none 0 [] _ 2 [97, 97] _ 0 W5 (GG_below HG.out HB.out) HC1.out (by decide) (Kd.C_nil _ _) (Nat.le_refl _) HC2.out (by decide) HF2.out).mono ?_
  rintro e w6 ⟨v2, rfl, ho, hb⟩
  obtain ⟨A2, z2, rfl⟩ := Kd.R_slice ho
  have HS1 := Aside0.mk (Kd.C_below HS1.out hb)
  have HS2 := Aside0.mk (Kd.R_reads' ho).2.2
  have HZ2 := Aside0.mk (Kd.R_reads' ho).2.1
  have HB := Aside0.mk (below_then HB.out HB.out.size hb)
  clear ho hb HC1 HC2 c1 c2
  have hL1 := C_pairs (l := [⟨0, 2⟩, ⟨3, 5⟩]) (heap_top w6 (.cells #[.int .i64 0, .int .i64 2, .int .i64 3, .int .i64 5] 34)) (by decide)
  have hbL := below_alloc (Below.refl w6.heap.size w6) (.cells #[.int .i64 0, .int .i64 2, .int .i64 3, .int .i64 5] 34)
  have HL1 := Aside0.mk hL1
  have HS1 := Aside0.mk (Kd.C_below HS1.out hbL)
  have HS2 := Aside0.mk (Kd.C_below HS2.out hbL)
  have HB := Aside0.mk (below_then HB.out HB.out.size hbL)
  clear hL1 hbL
  go_wp2_with (fail)
  refine (incunableref24_SamePairs.calls k3 _ _ [⟨0, 2⟩, ⟨3, 5⟩] _ 2 [⟨0, 2⟩, ⟨3, 5⟩] true _ HS1.out HZ1.out HL1.out (by decide) HF3.out).mono ?_
  rintro e w7 ⟨rfl, hd⟩
  have HB := Aside0.mk (below_then HB.out HB.out.size hd.below)
  have HS2 := Aside0.mk (Kd.C_below HS2.out hd.below)
  have hL1 := C_pairs (l := [⟨0, 2⟩]) (heap_top w7 (.cells #[.int .i64 0, .int .i64 2] 34)) (by decide)
  have hbL := below_alloc (Below.refl w7.heap.size w7) (.cells #[.int .i64 0, .int .i64 2] 34)
  have HL2 := Aside0.mk hL1
  have HS2 := Aside0.mk (Kd.C_below HS2.out hbL)
  have HB := Aside0.mk (below_then HB.out HB.out.size hbL)
  clear hL1 hbL hd
  go_wp2_with (fail)
  refine (incunableref24_SamePairs.calls k4 _ _ [⟨0, 2⟩] _ 1 [⟨0, 2⟩] true _ HS2.out HZ2.out HL2.out (by decide) HF4.out).mono ?_
  rintro e w8 ⟨rfl, hd⟩
  have HB := Aside0.mk (below_then HB.out HB.out.size hd.below)
  clear hd
  go_wp2_with (fail)
  go_ret
  exact ⟨rfl, HB.out⟩
end Go.Proofs.Ytgcdhikmdbjfeaa.Zaw
namespace Go.Proofs.Ytgcdhikmdbjfeaa.U
open Go Go.RowKit Go.Proofs.YtgcdhikmdbjfeaaW.PrintWords Go.Proofs.YtgcdhikmdbjfeaaW.PrintLast Go.Proofs.YtgcdhikmdbjfeaaW.PrintMore Go.Proofs.Ytgcdhikmdbjfeaa.Aid Go.Proofs.Ytgcdhikmdbjfeaa.HandAid
def incunablelaw24_Awake.f : Option Bool := some true
theorem incunablelaw24_Awake.calls (r : Bool) (w : World) (hGG : Go.Proofs.Ytgcdhikmdbjfeaa.Zix.GG w) (h : incunablelaw24_Awake.f = some r) :
    Calls Try.prog 11 #[] w fun e w' => e = .returned (.bool r) ∧ Below w.heap.size w w' := by
  obtain rfl := Option.some.inj h
  exact Go.Proofs.Ytgcdhikmdbjfeaa.Zaw.awake_calls w hGG
end Go.Proofs.Ytgcdhikmdbjfeaa.U
namespace Go.Proofs.Ytgcdhikmdbjfeaa.U
open Go.RowKit Go.Proofs.YtgcdhikmdbjfeaaW.PrintWords Go.Proofs.YtgcdhikmdbjfeaaW.PrintLast Go.Proofs.YtgcdhikmdbjfeaaW.PrintMore
attribute [local go_sem] max2_int min2_int max_two min_two max_three min_three max_four min_four   -- for this text's walks alone
def bytes_Equal.f (l0 : List Int) (l1 : List Int) : Option (Bool) := some ((strOfNums l0).toList == (strOfNums l1).toList)
set_option maxHeartbeats 8000000 in
set_option maxRecDepth 100000 in
theorem bytes_Equal.calls (A0 : Option Addr) (c0 : Nat) (l0 : List Int) (A1 : Option Addr) (c1 : Nat) (l1 : List Int) (r : Bool) (w : World) (hr0 : Kd.C (Kd.int .u8) w A0 l0.length l0) (hc0 : l0.length ≤ c0) (hr1 : Kd.C (Kd.int .u8) w A1 l1.length l1) (hc1 : l1.length ≤ c1) (h : bytes_Equal.f l0 l1 = some r) :
    Calls Try.prog 38 #[.slice A0 l0.length c0, .slice A1 l1.length c1] w fun e w' => e = .returned (.bool r) ∧ Drawn0 w w' := by
 have HR0 := Aside0.mk hr0; have HC0 := Aside0.mk hc0; clear hr0 hc0; have HR1 := Aside0.mk hr1; have HC1 := Aside0.mk hc1; clear hr1 hc1; have H : (some ((strOfNums l0).toList == (strOfNums l1).toList)) = some r := h; clear h; obtain rfl := Option.some.inj H; have hcv3 := Kd.C_string (P := Try.prog) (A := A0) (c := c0) Try.underlying22 Try.underlying5 Try.underlying9 HR0.out; have hcv4 := Kd.C_string (P := Try.prog) (A := A1) (c := c1) Try.underlying22 Try.underlying5 Try.underlying9 HR1.out; go_enter Try.func38, Try.ntmps38; go_wp2; go_ret; exact ⟨by first | rfl | (simp; done) | (simp [*]; done), by repeat (first | exact Drawn0.refl _ | apply Drawn0.step)⟩
end Go.Proofs.Ytgcdhikmdbjfeaa.U
namespace Go.Proofs.Ytgcdhikmdbjfeaa.Zsm
open Go Go.RowKit Go.Proofs.YtgcdhikmdbjfeaaW.PrintWords Go.Proofs.YtgcdhikmdbjfeaaW.PrintLast Go.Proofs.YtgcdhikmdbjfeaaW.PrintMore Go.Proofs.Ytgcdhikmdbjfeaa.U Go.Proofs.Ytgcdhikmdbjfeaa.Aid Go.Proofs.Ytgcdhikmdbjfeaa.HandAid Go.Proofs.Ytgcdhikmdbjfeaa.Zpl Go.Proofs.Ytgcdhikmdbjfeaa.Zrt
/-- Two lists of zones are the same. -/
def sameP : List Zn → List Zn → Bool
  | [], [] => true
  | z :: a, y :: b => (z.f0 == y.f0 && z.f1 == y.f1 && z.f2 == y.f2 && z.f3 == y.f3 && z.f4 == y.f4 && z.f5 == y.f5 && z.f6 == y.f6 && sameP z.f7 y.f7) && sameP a b
  | [], _ :: _ => false
  | _ :: _, [] => false
  termination_by a => SizeOf.sizeOf a
  decreasing_by
    · exact kid_lt z a
    · exact rest_lt z a
theorem same_iff : ∀ a, ∀ b, sameP a b = true ↔ a = b := by
  refine tree_ind ?_ ?_
  · intro b
    cases b <;> simp [sameP]
  · intro z a h1 h2 b
    cases b with
    | nil => simp [sameP]
    | cons y b =>
      rw [sameP]
      simp only [Bool.and_eq_true, beq_iff_eq, h1, h2, List.cons.injEq]
      constructor
      · rintro ⟨⟨⟨⟨⟨⟨⟨⟨e0, e1⟩, e2⟩, e3⟩, e4⟩, e5⟩, e6⟩, e7⟩, e8⟩
        refine ⟨?_, e8⟩
        cases z
        cases y
        simp_all
      · rintro ⟨rfl, rfl⟩
        simp
theorem same_len {a b : List Zn} (h : a.length ≠ b.length) : sameP a b = false := by
  rw [Bool.eq_false_iff, ne_eq, same_iff]
  intro e
  exact h (by rw [e])
theorem same_at {a b : List Zn} {k : Nat} (h : k < a.length) (h' : k < b.length) : sameP (a.drop k) (b.drop k) = (((rd_T62 a k).f0 == (rd_T62 b k).f0 && (rd_T62 a k).f1 == (rd_T62 b k).f1 && (rd_T62 a k).f2 == (rd_T62 b k).f2 && (rd_T62 a k).f3 == (rd_T62 b k).f3 && (rd_T62 a k).f4 == (rd_T62 b k).f4 && (rd_T62 a k).f5 == (rd_T62 b k).f5 && (rd_T62 a k).f6 == (rd_T62 b k).f6 && sameP (rd_T62 a k).f7 (rd_T62 b k).f7) && sameP (a.drop (k + 1)) (b.drop (k + 1))) := by
  rw [drop_at h, drop_at h', sameP]
theorem below_two {w : World} (o1 o2 : Obj) : Below w.heap.size w ((w.alloc o1).alloc o2) := below_alloc (below_alloc (Below.refl _ _) _) _
/-- What the closure answers. -/
def eqz (x y : Zn) : Bool := x.f0 == y.f0 && x.f1 == y.f1 && x.f2 == y.f2 && x.f3 == y.f3 && x.f4 == y.f4 && x.f5 == y.f5 && x.f6 == y.f6 && sameP x.f7 y.f7
set_option maxHeartbeats 4000000 in
set_option maxRecDepth 100000 in
theorem closure_calls (x y : Zn) (A : Option Addr) (cA : Nat) (B : Option Addr) (cB : Nat) (w : World) (IH : ∀ W : World, Below w.heap.size w W → Calls Try.prog 39 #[.slice A x.f7.length cA, .slice B y.f7.length cB] W fun e w' => e = .returned (.bool (sameP x.f7 y.f7)) ∧ Below W.heap.size W w') :
    Calls Try.prog 61 #[.agg #[.int .i64 x.f0, .int .i64 x.f1, .int .i64 x.f2, .int .i64 x.f3, .int .i64 x.f4, .int .i64 x.f5, .int .i64 x.f6, .slice A x.f7.length cA], .agg #[.int .i64 y.f0, .int .i64 y.f1, .int .i64 y.f2, .int .i64 y.f3, .int .i64 y.f4, .int .i64 y.f5, .int .i64 y.f6, .slice B y.f7.length cB]] w fun e w' => e = .returned (.bool (eqz x y)) ∧ Below w.heap.size w w' := by
  have hu62 := Try.underlying62
  have HIH := Aside0.mk (IH _ (below_two (.cells #[.int .i64 x.f0, .int .i64 x.f1, .int .i64 x.f2, .int .i64 x.f3, .int .i64 x.f4, .int .i64 x.f5, .int .i64 x.f6, .slice A x.f7.length cA] 62) (.cells #[.int .i64 y.f0, .int .i64 y.f1, .int .i64 y.f2, .int .i64 y.f3, .int .i64 y.f4, .int .i64 y.f5, .int .i64 y.f6, .slice B y.f7.length cB] 62)))
  have HBT := Aside0.mk (below_two (w := w) (.cells #[.int .i64 x.f0, .int .i64 x.f1, .int .i64 x.f2, .int .i64 x.f3, .int .i64 x.f4, .int .i64 x.f5, .int .i64 x.f6, .slice A x.f7.length cA] 62) (.cells #[.int .i64 y.f0, .int .i64 y.f1, .int .i64 y.f2, .int .i64 y.f3, .int .i64 y.f4, .int .i64 y.f5, .int .i64 y.f6, .slice B y.f7.length cB] 62))
  obtain ⟨r, hr⟩ : ∃ r, eqz x y = r := ⟨_, rfl⟩
  have HR := Aside0.mk hr
  rw [hr]
  clear hr IH
  cases q0 : (x.f0 == y.f0)
  · have HR := Aside0.mk (show false = r by have h := HR.out; unfold eqz at h; simp only [q0] at h; simpa using h)
    go_enter Try.func61, Try.ntmps61
    go_wp2_with (fail)
    go_ret
    exact ⟨congrArg (fun b => Ending.returned (.bool b)) HR.out, HBT.out⟩
  · skip
    cases q1 : (x.f1 == y.f1)
    · have HR := Aside0.mk (show false = r by have h := HR.out; unfold eqz at h; simp only [q0, q1] at h; simpa using h)
      go_enter Try.func61, Try.ntmps61
      go_wp2_with (fail)
      go_ret
      exact ⟨congrArg (fun b => Ending.returned (.bool b)) HR.out, HBT.out⟩
    · skip
      cases q2 : (x.f2 == y.f2)
      · have HR := Aside0.mk (show false = r by have h := HR.out; unfold eqz at h; simp only [q0, q1, q2] at h; simpa using h)
        go_enter Try.func61, Try.ntmps61
        go_wp2_with (fail)
        go_ret
        exact ⟨congrArg (fun b => Ending.returned (.bool b)) HR.out, HBT.out⟩
      · skip
        cases q3 : (x.f3 == y.f3)
        · have HR := Aside0.mk (show false = r by have h := HR.out; unfold eqz at h; simp only [q0, q1, q2, q3] at h; simpa using h)
          go_enter Try.func61, Try.ntmps61
          go_wp2_with (fail)
          go_ret
          exact ⟨congrArg (fun b => Ending.returned (.bool b)) HR.out, HBT.out⟩
        · skip
          cases q4 : (x.f4 == y.f4)
          · have HR := Aside0.mk (show false = r by have h := HR.out; unfold eqz at h; simp only [q0, q1, q2, q3, q4] at h; simpa using h)
            go_enter Try.func61, Try.ntmps61
            go_wp2_with (fail)
            go_ret
            exact ⟨congrArg (fun b => Ending.returned (.bool b)) HR.out, HBT.out⟩
          · skip
            cases q5 : (x.f5 == y.f5)
            · have HR := Aside0.mk (show false = r by have h := HR.out; unfold eqz at h; simp only [q0, q1, q2, q3, q4, q5] at h; simpa using h)
              go_enter Try.func61, Try.ntmps61
              go_wp2_with (fail)
              go_ret
              exact ⟨congrArg (fun b => Ending.returned (.bool b)) HR.out, HBT.out⟩
            · skip
              cases q6 : (x.f6 == y.f6)
              · have HR := Aside0.mk (show false = r by have h := HR.out; unfold eqz at h; simp only [q0, q1, q2, q3, q4, q5, q6] at h; simpa using h)
                go_enter Try.func61, Try.ntmps61
                go_wp2_with (fail)
                go_ret
                exact ⟨congrArg (fun b => Ending.returned (.bool b)) HR.out, HBT.out⟩
              · skip
                have HR := Aside0.mk (show sameP x.f7 y.f7 = r by have h := HR.out; unfold eqz at h; simp only [q0, q1, q2, q3, q4, q5, q6] at h; simpa using h)
                obtain ⟨s, hs⟩ : ∃ s, sameP x.f7 y.f7 = s := ⟨_, rfl⟩
                rw [hs] at HIH HR
                clear hs
                go_enter Try.func61, Try.ntmps61
                go_wp2_with (go_at_call 39; refine HIH.out.mono ?_; rintro e w2 ⟨rfl, hb⟩; have HB := Aside0.mk hb; clear hb)
                go_ret
                exact ⟨congrArg (fun b => Ending.returned (.bool b)) HR.out, below_then HBT.out HBT.out.size HB.out⟩
set_option maxHeartbeats 4000000 in
set_option maxRecDepth 100000 in
theorem equal_calls (a : List Zn) (A : Option Addr) (cA : Nat) (b : List Zn) (B : Option Addr) (cB : Nat) (w : World) (hA : Kd.C k62 w A a.length a) (hcA : a.length ≤ cA) (hB : Kd.C k62 w B b.length b) (hcB : b.length ≤ cB)
    (IH : ∀ k : Nat, k < a.length → ∀ (A : Option Addr) (cA : Nat) (b : List Zn) (B : Option Addr) (cB : Nat) (w : World), Kd.C k62 w A (rd_T62 a k).f7.length (rd_T62 a k).f7 → (rd_T62 a k).f7.length ≤ cA → Kd.C k62 w B b.length b → b.length ≤ cB → Calls Try.prog 39 #[.slice A (rd_T62 a k).f7.length cA, .slice B b.length cB] w fun e w' => e = .returned (.bool (sameP (rd_T62 a k).f7 b)) ∧ Below w.heap.size w w') :
    Calls Try.prog 60 #[.slice A a.length cA, .slice B b.length cB, .func (.func 61) #[] #[]] w fun e w' => e = .returned (.bool (sameP a b)) ∧ Below w.heap.size w w' := by
  have hu62 := Try.underlying62
  have hla : a.length ≤ 9223372036854775807 := Kd.C_max hA
  have hlb : b.length ≤ 9223372036854775807 := Kd.C_max hB
  have HA := Aside0.mk hA
  have HB := Aside0.mk hB
  have HIH := Aside0.mk IH
  obtain ⟨r, hr⟩ : ∃ r, sameP a b = r := ⟨_, rfl⟩
  have HR := Aside0.mk hr
  rw [hr]
  clear hA hB hcA hcB IH hr
  by_cases hne : (a.length : Int) = (b.length : Int)
  · have t0 : ((a.length : Int) == (b.length : Int)) = true := beq_iff_eq.2 hne
    have t1 : ((a.length : Int) != (b.length : Int)) = false := by simp [hne]
    have t2 : (a.length == b.length) = true := beq_iff_eq.2 (by omega)
    have t3 : (a.length != b.length) = false := by simp only [bne, t2]; rfl
    have HLE := Aside0.mk (show a.length = b.length by omega)
    clear hne
    go_enter Try.func60, Try.ntmps60
    go_wp2_with (fail)
    go_loopw [6, 17] (fun e_ i wr => ∃ k : Nat, k ≤ a.length ∧ e_ = .bool false ∧ i = .int .i64 k ∧ Aside0 (r = sameP (a.drop k) (b.drop k)) ∧ Aside0 (Below w.heap.size w wr)) (fun _ i _ => a.length - (intOf i).toNat)
    case atStart => exact ⟨0, by omega, rfl, rfl, ⟨HR.out.symm⟩, ⟨Below.refl _ _⟩⟩
    case round =>
      clear HR
      obtain ⟨k, hk, rfl, rfl, HR, HW⟩ := hrel
      by_cases hlt : k < a.length
      · have hltk : (k : Int) < (a.length : Int) := by omega
        have hlt2 : k < b.length := by have := HLE.out; omega
        have hltk2 : (k : Int) < (b.length : Int) := by omega
        obtain ⟨ad, A7, c7, eA, hx0, hx1, hx2, hx3, hx4, hx5, hx6, hx7, hl7, hi7⟩ := at_T62 HA.out k (by omega) (by omega)
        cases eA
        obtain ⟨bd, B7, d7, eB, hy0, hy1, hy2, hy3, hy4, hy5, hy6, hy7, hm7, hj7⟩ := at_T62 HB.out k (by omega) (by omega)
        cases eB
        have HZ7 := Aside0.mk hi7
        have HZc := Aside0.mk hl7
        have HY7 := Aside0.mk hj7
        have HYc := Aside0.mk hm7
        have HSA := Aside0.mk (same_at hlt hlt2)
        have IHz := Aside0.mk (HIH.out k hlt)
        clear hi7 hl7 hj7 hm7
        obtain ⟨z, hz⟩ : ∃ z, rd_T62 a k = z := ⟨_, rfl⟩
        obtain ⟨y, hy⟩ : ∃ y, rd_T62 b k = y := ⟨_, rfl⟩
        rw [hz] at hx0 hx1 hx2 hx3 hx4 hx5 hx6 hx7 HZ7 HZc IHz
        rw [hy] at hy0 hy1 hy2 hy3 hy4 hy5 hy6 hy7 HY7 HYc
        rw [hz, hy] at HSA
        have HR := Aside0.mk (HR.out.trans HSA.out)
        clear hz hy HSA
        simp only [Int.toNat_natCast] at hx0 hx1 hx2 hx3 hx4 hx5 hx6 hx7 hy0 hy1 hy2 hy3 hy4 hy5 hy6 hy7
        replace hx0 := (HW.out.cell (World.block_lt_of_cell? w _ hx0)).trans hx0
        replace hx1 := (HW.out.cell (World.block_lt_of_cell? w _ hx1)).trans hx1
        replace hx2 := (HW.out.cell (World.block_lt_of_cell? w _ hx2)).trans hx2
        replace hx3 := (HW.out.cell (World.block_lt_of_cell? w _ hx3)).trans hx3
        replace hx4 := (HW.out.cell (World.block_lt_of_cell? w _ hx4)).trans hx4
        replace hx5 := (HW.out.cell (World.block_lt_of_cell? w _ hx5)).trans hx5
        replace hx6 := (HW.out.cell (World.block_lt_of_cell? w _ hx6)).trans hx6
        replace hx7 := (HW.out.cell (World.block_lt_of_cell? w _ hx7)).trans hx7
        replace hy0 := (HW.out.cell (World.block_lt_of_cell? w _ hy0)).trans hy0
        replace hy1 := (HW.out.cell (World.block_lt_of_cell? w _ hy1)).trans hy1
        replace hy2 := (HW.out.cell (World.block_lt_of_cell? w _ hy2)).trans hy2
        replace hy3 := (HW.out.cell (World.block_lt_of_cell? w _ hy3)).trans hy3
        replace hy4 := (HW.out.cell (World.block_lt_of_cell? w _ hy4)).trans hy4
        replace hy5 := (HW.out.cell (World.block_lt_of_cell? w _ hy5)).trans hy5
        replace hy6 := (HW.out.cell (World.block_lt_of_cell? w _ hy6)).trans hy6
        replace hy7 := (HW.out.cell (World.block_lt_of_cell? w _ hy7)).trans hy7
        obtain ⟨gz, hgz⟩ : ∃ x, wr.heap.size = x := ⟨_, rfl⟩
        have HL := laid_at hgz z A7 c7
        obtain ⟨W3, hW3⟩ : ∃ x, wr.alloc (.cells #[.int .i64 z.f0, .int .i64 z.f1, .int .i64 z.f2, .int .i64 z.f3, .int .i64 z.f4, .int .i64 z.f5, .int .i64 z.f6, .slice A7 z.f7.length c7] 62) = x := ⟨_, rfl⟩
        rw [show wr.alloc (.cells (zc z A7 c7) 62) = W3 from hW3] at HL
        have HZ := Aside0.mk HL.1
        have HW3 := Aside0.mk HL.2
        clear HL
        obtain ⟨gy, hgy⟩ : ∃ x, W3.heap.size = x := ⟨_, rfl⟩
        have HL := laid_at hgy y B7 d7
        obtain ⟨W4, hW4⟩ : ∃ x, W3.alloc (.cells #[.int .i64 y.f0, .int .i64 y.f1, .int .i64 y.f2, .int .i64 y.f3, .int .i64 y.f4, .int .i64 y.f5, .int .i64 y.f6, .slice B7 y.f7.length d7] 62) = x := ⟨_, rfl⟩
        rw [show W3.alloc (.cells (zc y B7 d7) 62) = W4 from hW4] at HL
        have HY := Aside0.mk HL.1
        have HW4 := Aside0.mk HL.2
        have HZ4 := Aside0.mk (blk_below HZ.out HL.2)
        clear HL
        have HB4 := Aside0.mk (below_then (below_then HW.out HW.out.size HW3.out) (Nat.le_trans HW.out.size HW3.out.size) HW4.out)
        replace hy0 := (HW3.out.cell (World.block_lt_of_cell? wr _ hy0)).trans hy0
        replace hy1 := (HW3.out.cell (World.block_lt_of_cell? wr _ hy1)).trans hy1
        replace hy2 := (HW3.out.cell (World.block_lt_of_cell? wr _ hy2)).trans hy2
        replace hy3 := (HW3.out.cell (World.block_lt_of_cell? wr _ hy3)).trans hy3
        replace hy4 := (HW3.out.cell (World.block_lt_of_cell? wr _ hy4)).trans hy4
        replace hy5 := (HW3.out.cell (World.block_lt_of_cell? wr _ hy5)).trans hy5
        replace hy6 := (HW3.out.cell (World.block_lt_of_cell? wr _ hy6)).trans hy6
        replace hy7 := (HW3.out.cell (World.block_lt_of_cell? wr _ hy7)).trans hy7
        have kz0 : W4.cell? ⟨gz, 0, none⟩ = some (.int .i64 z.f0) := (blk_cell HZ4.out 0).trans rfl
        have kz1 : W4.cell? ⟨gz, 1, none⟩ = some (.int .i64 z.f1) := (blk_cell HZ4.out 1).trans rfl
        have kz2 : W4.cell? ⟨gz, 2, none⟩ = some (.int .i64 z.f2) := (blk_cell HZ4.out 2).trans rfl
        have kz3 : W4.cell? ⟨gz, 3, none⟩ = some (.int .i64 z.f3) := (blk_cell HZ4.out 3).trans rfl
        have kz4 : W4.cell? ⟨gz, 4, none⟩ = some (.int .i64 z.f4) := (blk_cell HZ4.out 4).trans rfl
        have kz5 : W4.cell? ⟨gz, 5, none⟩ = some (.int .i64 z.f5) := (blk_cell HZ4.out 5).trans rfl
        have kz6 : W4.cell? ⟨gz, 6, none⟩ = some (.int .i64 z.f6) := (blk_cell HZ4.out 6).trans rfl
        have kz7 : W4.cell? ⟨gz, 7, none⟩ = some (.slice A7 z.f7.length c7) := (blk_cell HZ4.out 7).trans rfl
        have ky0 : W4.cell? ⟨gy, 0, none⟩ = some (.int .i64 y.f0) := (blk_cell HY.out 0).trans rfl
        have ky1 : W4.cell? ⟨gy, 1, none⟩ = some (.int .i64 y.f1) := (blk_cell HY.out 1).trans rfl
        have ky2 : W4.cell? ⟨gy, 2, none⟩ = some (.int .i64 y.f2) := (blk_cell HY.out 2).trans rfl
        have ky3 : W4.cell? ⟨gy, 3, none⟩ = some (.int .i64 y.f3) := (blk_cell HY.out 3).trans rfl
        have ky4 : W4.cell? ⟨gy, 4, none⟩ = some (.int .i64 y.f4) := (blk_cell HY.out 4).trans rfl
        have ky5 : W4.cell? ⟨gy, 5, none⟩ = some (.int .i64 y.f5) := (blk_cell HY.out 5).trans rfl
        have ky6 : W4.cell? ⟨gy, 6, none⟩ = some (.int .i64 y.f6) := (blk_cell HY.out 6).trans rfl
        have ky7 : W4.cell? ⟨gy, 7, none⟩ = some (.slice B7 y.f7.length d7) := (blk_cell HY.out 7).trans rfl
        have HCL := Aside0.mk (closure_calls z y A7 c7 B7 d7 W4 (fun W hb => IHz.out A7 c7 y.f7 B7 d7 W (Kd.C_below HZ7.out (HB4.out.trans (hb.mono HB4.out.size))) HZc.out (Kd.C_below HY7.out (HB4.out.trans (hb.mono HB4.out.size))) HYc.out))
        obtain ⟨q, hq⟩ : ∃ q, eqz z y = q := ⟨_, rfl⟩
        have HR := Aside0.mk (show r = (q && sameP (a.drop (k + 1)) (b.drop (k + 1))) from HR.out.trans (by rw [← hq]; rfl))
        rw [hq] at HCL
        clear hq
        cases q
        · have HR := Aside0.mk (show r = false by rw [HR.out]; rfl)
          go_wp2_with (go_at_call 61; refine HCL.out.mono ?_; rintro e w5 ⟨rfl, hb⟩; have HB5 := Aside0.mk hb; clear hb)
          go_ret
          exact ⟨congrArg (fun b => Ending.returned (.bool b)) HR.out.symm, below_then HB4.out HB4.out.size HB5.out⟩
        · have HR := Aside0.mk (show r = sameP (a.drop (k + 1)) (b.drop (k + 1)) by rw [HR.out, Bool.true_and])
          go_wp2_with (go_at_call 61; refine HCL.out.mono ?_; rintro e w5 ⟨rfl, hb⟩; have HB5 := Aside0.mk hb; clear hb)
          have hk1 : k + 1 ≤ a.length := hlt
          go_roundw
          case rel => exact ⟨k + 1, hk1, rfl, by go_num, HR, ⟨below_then HB4.out HB4.out.size HB5.out⟩⟩
          case measure => simp [intOf]; omega
      · obtain rfl : k = a.length := by omega
        have HR := Aside0.mk (show r = true by rw [HR.out, List.drop_length, List.drop_of_length_le (by rw [HLE.out]; exact Nat.le_refl _), sameP])
        go_wp2_with (fail)
        go_ret
        exact ⟨congrArg (fun b => Ending.returned (.bool b)) HR.out.symm, HW.out⟩
  · have t0 : ((a.length : Int) == (b.length : Int)) = false := beq_eq_false_iff_ne.2 hne
    have t1 : ((a.length : Int) != (b.length : Int)) = true := by simp only [bne, t0]; rfl
    have t2 : (a.length == b.length) = false := beq_eq_false_iff_ne.2 (by omega)
    have t3 : (a.length != b.length) = true := by simp only [bne, t2]; rfl
    have HR := Aside0.mk (HR.out.symm.trans (same_len (by omega)))
    clear hne
    go_enter Try.func60, Try.ntmps60
    go_wp2_with (fail)
    go_ret
    exact ⟨congrArg (fun b => Ending.returned (.bool b)) HR.out.symm, Below.refl _ _⟩
theorem same_calls (a : List Zn) : ∀ (A : Option Addr) (cA : Nat) (b : List Zn) (B : Option Addr) (cB : Nat) (w : World), Kd.C k62 w A a.length a → a.length ≤ cA → Kd.C k62 w B b.length b → b.length ≤ cB →
    Calls Try.prog 39 #[.slice A a.length cA, .slice B b.length cB] w fun e w' => e = .returned (.bool (sameP a b)) ∧ Below w.heap.size w w' := by
  induction a using tree_all with
  | h a ih =>
  intro A cA b B cB w hA hcA hB hcB
  have HQ := Aside0.mk (equal_calls a A cA b B cB w hA hcA hB hcB ih)
  clear hA hcA hB hcB ih
  go_enter Try.func39, Try.ntmps39
  go_wp2_with (go_at_call 60; refine HQ.out.mono ?_; rintro e w2 ⟨rfl, hb⟩; have HB := Aside0.mk hb; clear hb)
  go_ret
  exact ⟨rfl, HB.out⟩
set_option maxHeartbeats 4000000 in
set_option maxRecDepth 100000 in
theorem rsame_loop (a : List Zn) (A : Option Addr) (cA : Nat) (b : List Zn) (B : Option Addr) (cB : Nat) (w : World) (hA : Kd.C k62 w A a.length a) (hcA : a.length ≤ cA) (hB : Kd.C k62 w B b.length b) (hcB : b.length ≤ cB)
    (IH : ∀ k : Nat, k < a.length → ∀ (A : Option Addr) (cA : Nat) (b : List Zn) (B : Option Addr) (cB : Nat) (w : World), Kd.C k62 w A (rd_T62 a k).f7.length (rd_T62 a k).f7 → (rd_T62 a k).f7.length ≤ cA → Kd.C k62 w B b.length b → b.length ≤ cB → Calls Try.prog 40 #[.slice A (rd_T62 a k).f7.length cA, .slice B b.length cB] w fun e w' => e = .returned (.bool (sameP (rd_T62 a k).f7 b)) ∧ Below w.heap.size w w') :
    Calls Try.prog 40 #[.slice A a.length cA, .slice B b.length cB] w fun e w' => e = .returned (.bool (sameP a b)) ∧ Below w.heap.size w w' := by
  have hu62 := Try.underlying62
  have hla : a.length ≤ 9223372036854775807 := Kd.C_max hA
  have hlb : b.length ≤ 9223372036854775807 := Kd.C_max hB
  have HA := Aside0.mk hA
  have HB := Aside0.mk hB
  have HIH := Aside0.mk IH
  obtain ⟨r, hr⟩ : ∃ r, sameP a b = r := ⟨_, rfl⟩
  have HR := Aside0.mk hr
  rw [hr]
  clear hA hB hcA hcB IH hr
  by_cases hne : (a.length : Int) = (b.length : Int)
  · have t0 : ((a.length : Int) == (b.length : Int)) = true := beq_iff_eq.2 hne
    have t1 : ((a.length : Int) != (b.length : Int)) = false := by simp [hne]
    have t2 : (a.length == b.length) = true := beq_iff_eq.2 (by omega)
    have t3 : (a.length != b.length) = false := by simp only [bne, t2]; rfl
    have HLE := Aside0.mk (show a.length = b.length by omega)
    clear hne
    go_enter Try.func40, Try.ntmps40
    go_wp2_with (fail)
    go_loopw [4, 15] (fun e_ i wr => ∃ k : Nat, k ≤ a.length ∧ e_ = .bool false ∧ i = .int .i64 k ∧ Aside0 (r = sameP (a.drop k) (b.drop k)) ∧ Aside0 (Below w.heap.size w wr)) (fun _ i _ => a.length - (intOf i).toNat)
    case atStart => exact ⟨0, by omega, rfl, rfl, ⟨HR.out.symm⟩, ⟨Below.refl _ _⟩⟩
    case round =>
      clear HR
      obtain ⟨k, hk, rfl, rfl, HR, HW⟩ := hrel
      by_cases hlt : k < a.length
      · have hltk : (k : Int) < (a.length : Int) := by omega
        have hlt2 : k < b.length := by have := HLE.out; omega
        have hltk2 : (k : Int) < (b.length : Int) := by omega
        obtain ⟨ad, A7, c7, eA, hx0, hx1, hx2, hx3, hx4, hx5, hx6, hx7, hl7, hi7⟩ := at_T62 HA.out k (by omega) (by omega)
        cases eA
        obtain ⟨bd, B7, d7, eB, hy0, hy1, hy2, hy3, hy4, hy5, hy6, hy7, hm7, hj7⟩ := at_T62 HB.out k (by omega) (by omega)
        cases eB
        have HZ7 := Aside0.mk hi7
        have HZc := Aside0.mk hl7
        have HY7 := Aside0.mk hj7
        have HYc := Aside0.mk hm7
        have HSA := Aside0.mk (same_at hlt hlt2)
        have IHz := Aside0.mk (HIH.out k hlt)
        clear hi7 hl7 hj7 hm7
        obtain ⟨z, hz⟩ : ∃ z, rd_T62 a k = z := ⟨_, rfl⟩
        obtain ⟨y, hy⟩ : ∃ y, rd_T62 b k = y := ⟨_, rfl⟩
        rw [hz] at hx0 hx1 hx2 hx3 hx4 hx5 hx6 hx7 HZ7 HZc IHz
        rw [hy] at hy0 hy1 hy2 hy3 hy4 hy5 hy6 hy7 HY7 HYc
        rw [hz, hy] at HSA
        have HR := Aside0.mk (HR.out.trans HSA.out)
        clear hz hy HSA
        simp only [Int.toNat_natCast] at hx0 hx1 hx2 hx3 hx4 hx5 hx6 hx7 hy0 hy1 hy2 hy3 hy4 hy5 hy6 hy7
        replace hx0 := (HW.out.cell (World.block_lt_of_cell? w _ hx0)).trans hx0
        replace hx1 := (HW.out.cell (World.block_lt_of_cell? w _ hx1)).trans hx1
        replace hx2 := (HW.out.cell (World.block_lt_of_cell? w _ hx2)).trans hx2
        replace hx3 := (HW.out.cell (World.block_lt_of_cell? w _ hx3)).trans hx3
        replace hx4 := (HW.out.cell (World.block_lt_of_cell? w _ hx4)).trans hx4
        replace hx5 := (HW.out.cell (World.block_lt_of_cell? w _ hx5)).trans hx5
        replace hx6 := (HW.out.cell (World.block_lt_of_cell? w _ hx6)).trans hx6
        replace hx7 := (HW.out.cell (World.block_lt_of_cell? w _ hx7)).trans hx7
        replace hy0 := (HW.out.cell (World.block_lt_of_cell? w _ hy0)).trans hy0
        replace hy1 := (HW.out.cell (World.block_lt_of_cell? w _ hy1)).trans hy1
        replace hy2 := (HW.out.cell (World.block_lt_of_cell? w _ hy2)).trans hy2
        replace hy3 := (HW.out.cell (World.block_lt_of_cell? w _ hy3)).trans hy3
        replace hy4 := (HW.out.cell (World.block_lt_of_cell? w _ hy4)).trans hy4
        replace hy5 := (HW.out.cell (World.block_lt_of_cell? w _ hy5)).trans hy5
        replace hy6 := (HW.out.cell (World.block_lt_of_cell? w _ hy6)).trans hy6
        replace hy7 := (HW.out.cell (World.block_lt_of_cell? w _ hy7)).trans hy7
        obtain ⟨gz, hgz⟩ : ∃ x, wr.heap.size = x := ⟨_, rfl⟩
        have HL := laid_at hgz z A7 c7
        obtain ⟨W3, hW3⟩ : ∃ x, wr.alloc (.cells #[.int .i64 z.f0, .int .i64 z.f1, .int .i64 z.f2, .int .i64 z.f3, .int .i64 z.f4, .int .i64 z.f5, .int .i64 z.f6, .slice A7 z.f7.length c7] 62) = x := ⟨_, rfl⟩
        rw [show wr.alloc (.cells (zc z A7 c7) 62) = W3 from hW3] at HL
        have HZ := Aside0.mk HL.1
        have HW3 := Aside0.mk HL.2
        clear HL
        obtain ⟨gy, hgy⟩ : ∃ x, W3.heap.size = x := ⟨_, rfl⟩
        have HL := laid_at hgy y B7 d7
        obtain ⟨W4, hW4⟩ : ∃ x, W3.alloc (.cells #[.int .i64 y.f0, .int .i64 y.f1, .int .i64 y.f2, .int .i64 y.f3, .int .i64 y.f4, .int .i64 y.f5, .int .i64 y.f6, .slice B7 y.f7.length d7] 62) = x := ⟨_, rfl⟩
        rw [show W3.alloc (.cells (zc y B7 d7) 62) = W4 from hW4] at HL
        have HY := Aside0.mk HL.1
        have HW4 := Aside0.mk HL.2
        have HZ4 := Aside0.mk (blk_below HZ.out HL.2)
        clear HL
        have HB4 := Aside0.mk (below_then (below_then HW.out HW.out.size HW3.out) (Nat.le_trans HW.out.size HW3.out.size) HW4.out)
        replace hy0 := (HW3.out.cell (World.block_lt_of_cell? wr _ hy0)).trans hy0
        replace hy1 := (HW3.out.cell (World.block_lt_of_cell? wr _ hy1)).trans hy1
        replace hy2 := (HW3.out.cell (World.block_lt_of_cell? wr _ hy2)).trans hy2
        replace hy3 := (HW3.out.cell (World.block_lt_of_cell? wr _ hy3)).trans hy3
        replace hy4 := (HW3.out.cell (World.block_lt_of_cell? wr _ hy4)).trans hy4
        replace hy5 := (HW3.out.cell (World.block_lt_of_cell? wr _ hy5)).trans hy5
        replace hy6 := (HW3.out.cell (World.block_lt_of_cell? wr _ hy6)).trans hy6
        replace hy7 := (HW3.out.cell (World.block_lt_of_cell? wr _ hy7)).trans hy7
        have kz0 : W4.cell? ⟨gz, 0, none⟩ = some (.int .i64 z.f0) := (blk_cell HZ4.out 0).trans rfl
        have kz1 : W4.cell? ⟨gz, 1, none⟩ = some (.int .i64 z.f1) := (blk_cell HZ4.out 1).trans rfl
        have kz2 : W4.cell? ⟨gz, 2, none⟩ = some (.int .i64 z.f2) := (blk_cell HZ4.out 2).trans rfl
        have kz3 : W4.cell? ⟨gz, 3, none⟩ = some (.int .i64 z.f3) := (blk_cell HZ4.out 3).trans rfl
        have kz4 : W4.cell? ⟨gz, 4, none⟩ = some (.int .i64 z.f4) := (blk_cell HZ4.out 4).trans rfl
        have kz5 : W4.cell? ⟨gz, 5, none⟩ = some (.int .i64 z.f5) := (blk_cell HZ4.out 5).trans rfl
        have kz6 : W4.cell? ⟨gz, 6, none⟩ = some (.int .i64 z.f6) := (blk_cell HZ4.out 6).trans rfl
        have kz7 : W4.cell? ⟨gz, 7, none⟩ = some (.slice A7 z.f7.length c7) := (blk_cell HZ4.out 7).trans rfl
        have ky0 : W4.cell? ⟨gy, 0, none⟩ = some (.int .i64 y.f0) := (blk_cell HY.out 0).trans rfl
        have ky1 : W4.cell? ⟨gy, 1, none⟩ = some (.int .i64 y.f1) := (blk_cell HY.out 1).trans rfl
        have ky2 : W4.cell? ⟨gy, 2, none⟩ = some (.int .i64 y.f2) := (blk_cell HY.out 2).trans rfl
        have ky3 : W4.cell? ⟨gy, 3, none⟩ = some (.int .i64 y.f3) := (blk_cell HY.out 3).trans rfl
        have ky4 : W4.cell? ⟨gy, 4, none⟩ = some (.int .i64 y.f4) := (blk_cell HY.out 4).trans rfl
        have ky5 : W4.cell? ⟨gy, 5, none⟩ = some (.int .i64 y.f5) := (blk_cell HY.out 5).trans rfl
        have ky6 : W4.cell? ⟨gy, 6, none⟩ = some (.int .i64 y.f6) := (blk_cell HY.out 6).trans rfl
        have ky7 : W4.cell? ⟨gy, 7, none⟩ = some (.slice B7 y.f7.length d7) := (blk_cell HY.out 7).trans rfl
        cases q0 : (z.f0 == y.f0)
        · have p0 : (z.f0 != y.f0) = true := by simp only [bne, q0]; rfl
          have HR := Aside0.mk (show r = false by rw [HR.out, q0]; simp)
          go_wp2_with (fail)
          go_ret
          exact ⟨congrArg (fun b => Ending.returned (.bool b)) HR.out.symm, HB4.out⟩
        · have p0 : (z.f0 != y.f0) = false := by simp only [bne, q0]; rfl
          cases q1 : (z.f1 == y.f1)
          · have p1 : (z.f1 != y.f1) = true := by simp only [bne, q1]; rfl
            have HR := Aside0.mk (show r = false by rw [HR.out, q0, q1]; simp)
            go_wp2_with (fail)
            go_ret
            exact ⟨congrArg (fun b => Ending.returned (.bool b)) HR.out.symm, HB4.out⟩
          · have p1 : (z.f1 != y.f1) = false := by simp only [bne, q1]; rfl
            cases q2 : (z.f2 == y.f2)
            · have p2 : (z.f2 != y.f2) = true := by simp only [bne, q2]; rfl
              have HR := Aside0.mk (show r = false by rw [HR.out, q0, q1, q2]; simp)
              go_wp2_with (fail)
              go_ret
              exact ⟨congrArg (fun b => Ending.returned (.bool b)) HR.out.symm, HB4.out⟩
            · have p2 : (z.f2 != y.f2) = false := by simp only [bne, q2]; rfl
              cases q3 : (z.f3 == y.f3)
              · have p3 : (z.f3 != y.f3) = true := by simp only [bne, q3]; rfl
                have HR := Aside0.mk (show r = false by rw [HR.out, q0, q1, q2, q3]; simp)
                go_wp2_with (fail)
                go_ret
                exact ⟨congrArg (fun b => Ending.returned (.bool b)) HR.out.symm, HB4.out⟩
              · have p3 : (z.f3 != y.f3) = false := by simp only [bne, q3]; rfl
                cases q4 : (z.f4 == y.f4)
                · have p4 : (z.f4 != y.f4) = true := by simp only [bne, q4]; rfl
                  have HR := Aside0.mk (show r = false by rw [HR.out, q0, q1, q2, q3, q4]; simp)
                  go_wp2_with (fail)
                  go_ret
                  exact ⟨congrArg (fun b => Ending.returned (.bool b)) HR.out.symm, HB4.out⟩
                · have p4 : (z.f4 != y.f4) = false := by simp only [bne, q4]; rfl
                  cases q5 : (z.f5 == y.f5)
                  · have p5 : (z.f5 != y.f5) = true := by simp only [bne, q5]; rfl
                    have HR := Aside0.mk (show r = false by rw [HR.out, q0, q1, q2, q3, q4, q5]; simp)
                    go_wp2_with (fail)
                    go_ret
                    exact ⟨congrArg (fun b => Ending.returned (.bool b)) HR.out.symm, HB4.out⟩
                  · have p5 : (z.f5 != y.f5) = false := by simp only [bne, q5]; rfl
                    cases q6 : (z.f6 == y.f6)
                    · have p6 : (z.f6 != y.f6) = true := by simp only [bne, q6]; rfl
                      have HR := Aside0.mk (show r = false by rw [HR.out, q0, q1, q2, q3, q4, q5, q6]; simp)
                      go_wp2_with (fail)
                      go_ret
                      exact ⟨congrArg (fun b => Ending.returned (.bool b)) HR.out.symm, HB4.out⟩
                    · have p6 : (z.f6 != y.f6) = false := by simp only [bne, q6]; rfl
                      have HR := Aside0.mk (show r = (sameP z.f7 y.f7 && sameP (a.drop (k + 1)) (b.drop (k + 1))) by rw [HR.out, q0, q1, q2, q3, q4, q5, q6]; simp only [Bool.true_and])
                      have HCL := Aside0.mk (IHz.out A7 c7 y.f7 B7 d7 W4 (Kd.C_below HZ7.out HB4.out) HZc.out (Kd.C_below HY7.out HB4.out) HYc.out)
                      cases q : sameP z.f7 y.f7
                      · rw [q] at HCL
                        have HR := Aside0.mk (show r = false by rw [HR.out, q]; rfl)
                        go_wp2_with (go_at_call 40; refine HCL.out.mono ?_; rintro e w5 ⟨rfl, hb⟩; have HB5 := Aside0.mk hb; clear hb)
                        go_ret
                        exact ⟨congrArg (fun b => Ending.returned (.bool b)) HR.out.symm, below_then HB4.out HB4.out.size HB5.out⟩
                      · rw [q] at HCL
                        have HR := Aside0.mk (show r = sameP (a.drop (k + 1)) (b.drop (k + 1)) by rw [HR.out, q, Bool.true_and])
                        go_wp2_with (go_at_call 40; refine HCL.out.mono ?_; rintro e w5 ⟨rfl, hb⟩; have HB5 := Aside0.mk hb; clear hb)
                        have hk1 : k + 1 ≤ a.length := hlt
                        go_roundw
                        case rel => exact ⟨k + 1, hk1, rfl, by go_num, HR, ⟨below_then HB4.out HB4.out.size HB5.out⟩⟩
                        case measure => simp [intOf]; omega
      · obtain rfl : k = a.length := by omega
        have HR := Aside0.mk (show r = true by rw [HR.out, List.drop_length, List.drop_of_length_le (by rw [HLE.out]; exact Nat.le_refl _), sameP])
        go_wp2_with (fail)
        go_ret
        exact ⟨congrArg (fun b => Ending.returned (.bool b)) HR.out.symm, HW.out⟩
  · have t0 : ((a.length : Int) == (b.length : Int)) = false := beq_eq_false_iff_ne.2 hne
    have t1 : ((a.length : Int) != (b.length : Int)) = true := by simp only [bne, t0]; rfl
    have t2 : (a.length == b.length) = false := beq_eq_false_iff_ne.2 (by omega)
    have t3 : (a.length != b.length) = true := by simp only [bne, t2]; rfl
    have HR := Aside0.mk (HR.out.symm.trans (same_len (by omega)))
    clear hne
    go_enter Try.func40, Try.ntmps40
    go_wp2_with (fail)
    go_ret
    exact ⟨congrArg (fun b => Ending.returned (.bool b)) HR.out.symm, Below.refl _ _⟩
theorem rsame_calls (a : List Zn) : ∀ (A : Option Addr) (cA : Nat) (b : List Zn) (B : Option Addr) (cB : Nat) (w : World), Kd.C k62 w A a.length a → a.length ≤ cA → Kd.C k62 w B b.length b → b.length ≤ cB →
    Calls Try.prog 40 #[.slice A a.length cA, .slice B b.length cB] w fun e w' => e = .returned (.bool (sameP a b)) ∧ Below w.heap.size w w' := by
  induction a using tree_all with
  | h a ih =>
  intro A cA b B cB w hA hcA hB hcB
  exact rsame_loop a A cA b B cB w hA hcA hB hcB ih
end Go.Proofs.Ytgcdhikmdbjfeaa.Zsm
namespace Go.Proofs.Ytgcdhikmdbjfeaa.U
open Go Go.RowKit Go.Proofs.YtgcdhikmdbjfeaaW.PrintWords Go.Proofs.YtgcdhikmdbjfeaaW.PrintLast Go.Proofs.YtgcdhikmdbjfeaaW.PrintMore Go.Proofs.Ytgcdhikmdbjfeaa.Aid Go.Proofs.Ytgcdhikmdbjfeaa.HandAid Go.Proofs.Ytgcdhikmdbjfeaa.Zpl Go.Proofs.Ytgcdhikmdbjfeaa.Zsm
def zone_same.f (l0 l1 : List (S62)) : Option (Bool) := some (sameP l0 l1)
theorem zone_same.calls (A0 : Option Addr) (c0 : Nat) (l0 : List (S62)) (A1 : Option Addr) (c1 : Nat) (l1 : List (S62)) (r : Bool) (w : World) (hr0 : Kd.C k62 w A0 l0.length l0) (hc0 : l0.length ≤ c0) (hr1 : Kd.C k62 w A1 l1.length l1) (hc1 : l1.length ≤ c1) (h : zone_same.f l0 l1 = some r) :
    Calls Try.prog 39 #[.slice A0 l0.length c0, .slice A1 l1.length c1] w fun e w' => e = .returned (.bool r) ∧ Below w.heap.size w w' := by
  obtain rfl := Option.some.inj h
  exact same_calls l0 A0 c0 l1 A1 c1 w hr0 hc0 hr1 hc1
end Go.Proofs.Ytgcdhikmdbjfeaa.U
namespace Go.Proofs.Ytgcdhikmdbjfeaa.U
open Go.RowKit Go.Proofs.YtgcdhikmdbjfeaaW.PrintWords Go.Proofs.YtgcdhikmdbjfeaaW.PrintLast Go.Proofs.YtgcdhikmdbjfeaaW.PrintMore
attribute [local go_sem] max2_int min2_int max_two min_two max_three min_three max_four min_four   -- for this text's walks alone
def zone_Same.f (l0_0 : List Int) (l0_1 : List (S62)) (l1_0 : List Int) (l1_1 : List (S62)) : Option (Bool) := (bytes_Equal.f l0_0 l1_0).bind fun t193 => (if t193 = true then ((zone_same.f l0_1 l1_1).bind fun t194 => (some t194)) else (some false))
set_option maxHeartbeats 8000000 in
set_option maxRecDepth 100000 in
theorem zone_Same.calls (A0_0 : Option Addr) (c0_0 : Nat) (l0_0 : List Int) (A0_1 : Option Addr) (c0_1 : Nat) (l0_1 : List (S62)) (A1_0 : Option Addr) (c1_0 : Nat) (l1_0 : List Int) (A1_1 : Option Addr) (c1_1 : Nat) (l1_1 : List (S62)) (r : Bool) (w : World) (hr0_0 : Kd.C (Kd.int .u8) w A0_0 l0_0.length l0_0) (hc0_0 : l0_0.length ≤ c0_0) (hr0_1 : Kd.C k62 w A0_1 l0_1.length l0_1) (hc0_1 : l0_1.length ≤ c0_1) (hr1_0 : Kd.C (Kd.int .u8) w A1_0 l1_0.length l1_0) (hc1_0 : l1_0.length ≤ c1_0) (hr1_1 : Kd.C k62 w A1_1 l1_1.length l1_1) (hc1_1 : l1_1.length ≤ c1_1) (h : zone_Same.f l0_0 l0_1 l1_0 l1_1 = some r) :
    Calls Try.prog 17 #[.agg #[.slice A0_0 l0_0.length c0_0, .slice A0_1 l0_1.length c0_1], .agg #[.slice A1_0 l1_0.length c1_0, .slice A1_1 l1_1.length c1_1]] w fun e w' => e = .returned (.bool r) ∧ Below w.heap.size w w' := by
 have hu25 := Try.underlying25; have HR0_0 := Aside0.mk hr0_0; have HC0_0 := Aside0.mk hc0_0; clear hr0_0 hc0_0; have HR0_1 := Aside0.mk hr0_1; have HC0_1 := Aside0.mk hc0_1; clear hr0_1 hc0_1; have HR1_0 := Aside0.mk hr1_0; have HC1_0 := Aside0.mk hc1_0; clear hr1_0 hc1_0; have HR1_1 := Aside0.mk hr1_1; have HC1_1 := Aside0.mk hc1_1; clear hr1_1 hc1_1; have HB := Aside0.mk (Below.refl w.heap.size w); have H : ((bytes_Equal.f l0_0 l1_0).bind fun t193 => (if t193 = true then ((zone_same.f l0_1 l1_1).bind fun t194 => (some t194)) else (some false))) = some r := h; clear h; replace H := Option.bind_eq_some_iff.mp H; obtain ⟨t193, A30, H⟩ := H; replace H : (if t193 = true then ((zone_same.f l0_1 l1_1).bind fun t194 => (some t194)) else (some false)) = some r := H; have A3 := Aside0.mk A30; clear A30; by_cases c4 : t193 = true
 (· subst c4; (have H1 : ((zone_same.f l0_1 l1_1).bind fun t194 => (some t194)) = some r := by rw [if_pos rfl] at H; exact H); clear H; have H := H1; clear H1; replace H := Option.bind_eq_some_iff.mp H; obtain ⟨t194, A50, H⟩ := H; replace H : (some t194) = some r := H; have A5 := Aside0.mk A50; clear A50; obtain rfl := Option.some.inj H; go_enter Try.func17, Try.ntmps17; go_wp2_with (first | ((with_reducible refine gate_dst (N := 2) rfl ?_); refine box_event ?hg (N := 2) ?hd (cs := #[.slice A0_0 l0_0.length c0_0, .slice A0_1 l0_1.length c0_1]) (t := 25) ?hr ?_; (case hd => rfl); (case hg => rfl); (case hr => first | (go_simp; done) | (go_simp; rfl)); intro gb191 hg w6 hbox hb; have n0_ := Aside0.mk (below_step (by repeat (first | (with_reducible first | exact HB.out | apply below_alloc | apply pw_below_drewN | apply below_drew1) | exact HB.out)) hb); have n1_ := Aside0.mk (hbox); have n2_ := Aside0.mk ((by rw [hg]; exact (below_size (by repeat (first | (with_reducible first | exact HB.out | apply below_alloc | apply pw_below_drewN | apply below_drew1) | exact HB.out))) : w.heap.size ≤ gb191)); have n3_ := Aside0.mk ((by rw [hg]; exact (below_size (by repeat (first | (with_reducible first | exact HB.out | apply below_alloc | apply pw_below_drewN | apply below_drew1) | exact HB.out))) : w.heap.size ≤ gb191)); clear HB; have HB := n0_; have BK191 := n1_; have GW191 := n2_; have GE191 := n3_; clear n0_ n1_ n2_ n3_; clear hb hbox hg) | ((with_reducible refine gate_dst (N := 3) rfl ?_); refine box_event ?hg (N := 3) ?hd (cs := #[.slice A1_0 l1_0.length c1_0, .slice A1_1 l1_1.length c1_1]) (t := 25) ?hr ?_; (case hd => rfl); (case hg => rfl); (case hr => first | (go_simp; done) | (go_simp; rfl)); intro gb192 hg w7 hbox hb; have n0_ := Aside0.mk (blk_below (g := gb191) (o := .cells #[.slice A0_0 l0_0.length c0_0, .slice A0_1 l0_1.length c0_1] 25 (0, 0)) (by (with_reducible repeat (first | refine blk_drewN ?_ _ | refine blk_drew ?_ | refine blk_alloc ?_ _)); exact BK191.out) hb); have n1_ := Aside0.mk (below_step (by repeat (first | (with_reducible first | exact HB.out | apply below_alloc | apply pw_below_drewN | apply below_drew1 | refine below_set ?_ GE191.out) | exact HB.out)) hb); have n2_ := Aside0.mk (hbox); have n3_ := Aside0.mk ((by rw [hg]; exact (below_size (by repeat (first | (with_reducible first | exact HB.out | apply below_alloc | apply pw_below_drewN | apply below_drew1 | refine below_set ?_ GE191.out) | exact HB.out))) : w.heap.size ≤ gb192)); have n4_ := Aside0.mk ((by rw [hg]; exact (below_size (by repeat (first | (with_reducible first | exact HB.out | apply below_alloc | apply pw_below_drewN | apply below_drew1 | refine below_set ?_ GE191.out) | exact HB.out))) : w.heap.size ≤ gb192)); have n5_ := Aside0.mk ((by rw [hg]; exact Nat.ne_of_lt (blk_lt (g := gb191) (o := .cells #[.slice A0_0 l0_0.length c0_0, .slice A0_1 l0_1.length c0_1] 25 (0, 0)) (by (with_reducible repeat (first | refine blk_drewN ?_ _ | refine blk_drew ?_ | refine blk_alloc ?_ _)); exact BK191.out)) : gb191 ≠ gb192)); have n6_ := Aside0.mk ((by rw [hg]; exact Nat.ne_of_gt (blk_lt (g := gb191) (o := .cells #[.slice A0_0 l0_0.length c0_0, .slice A0_1 l0_1.length c0_1] 25 (0, 0)) (by (with_reducible repeat (first | refine blk_drewN ?_ _ | refine blk_drew ?_ | refine blk_alloc ?_ _)); exact BK191.out)) : gb192 ≠ gb191)); clear BK191; clear HB; have BK191 := n0_; have HB := n1_; have BK192 := n2_; have GW192 := n3_; have GE192 := n4_; have NB191_192 := n5_; have NB192_191 := n6_; clear n0_ n1_ n2_ n3_ n4_ n5_ n6_; clear hb hbox hg; have hnb8 := NB191_192.out; have hnc8 := NB192_191.out; have hcz9_0 : w7.cell? ⟨gb191, 0, none⟩ = some (.slice A0_0 l0_0.length c0_0) := (blk_cell BK191.out 0).trans rfl; have hcz9_1 : w7.cell? ⟨gb191, 1, none⟩ = some (.slice A0_1 l0_1.length c0_1) := (blk_cell BK191.out 1).trans rfl; have hfz9_0 := blk_frozen BK191.out 0; have hfz9_1 := blk_frozen BK191.out 1; have hcz10_0 : w7.cell? ⟨gb192, 0, none⟩ = some (.slice A1_0 l1_0.length c1_0) := (blk_cell BK192.out 0).trans rfl; have hcz10_1 : w7.cell? ⟨gb192, 1, none⟩ = some (.slice A1_1 l1_1.length c1_1) := (blk_cell BK192.out 1).trans rfl; have hfz10_0 := blk_frozen BK192.out 0; have hfz10_1 := blk_frozen BK192.out 1) | ((with_reducible refine gate_callee (f := 38) rfl ?_); refine goesL_ (some 9) rfl rfl Try.func38 (by kernel_rfl) rfl #[.slice A0_0 l0_0.length c0_0, .slice A1_0 l1_0.length c1_0] rfl (by (try simp only [List.map_toArray, List.map_cons, List.map_nil]); first | done | rfl | (simp only [List.length_drop, List.length_take]; rfl)) ?_; (with_reducible refine (bytes_Equal.calls _ _ l0_0 _ _ l1_0 true _ ?side1 ?side2 ?side3 ?side4 A3.out).mono ?_); (case side1 => repeat (first | exact (Kd.C_below HR0_0.out HB.out) | (with_reducible refine Kd.C_alloc ?_ _) | (with_reducible refine Kd.C_drewN ?_ _) | (with_reducible refine Kd.C_drew ?_))); (case side2 => exact HC0_0.out); (case side3 => repeat (first | exact (Kd.C_below HR1_0.out HB.out) | (with_reducible refine Kd.C_alloc ?_ _) | (with_reducible refine Kd.C_drewN ?_ _) | (with_reducible refine Kd.C_drew ?_))); (case side4 => exact HC1_0.out); rintro e w' ⟨rfl, ⟨nd, rfl⟩⟩; refine ⟨_, rfl, ?_⟩) | (go_at_call 39; (with_reducible refine (zone_same.calls _ _ l0_1 _ _ l1_1 t194 _ ?side1 ?side2 ?side3 ?side4 A5.out).mono ?_); (case side1 => repeat (first | exact (Kd.C_below HR0_1.out (by repeat (first | (with_reducible first | exact HB.out | apply below_alloc | apply pw_below_drewN | apply below_drew1 | refine below_set ?_ GE191.out | refine below_set ?_ GE192.out) | exact HB.out))) | (with_reducible refine Kd.C_alloc ?_ _) | (with_reducible refine Kd.C_drewN ?_ _) | (with_reducible refine Kd.C_drew ?_))); (case side2 => exact HC0_1.out); (case side3 => repeat (first | exact (Kd.C_below HR1_1.out (by repeat (first | (with_reducible first | exact HB.out | apply below_alloc | apply pw_below_drewN | apply below_drew1 | refine below_set ?_ GE191.out | refine below_set ?_ GE192.out) | exact HB.out))) | (with_reducible refine Kd.C_alloc ?_ _) | (with_reducible refine Kd.C_drewN ?_ _) | (with_reducible refine Kd.C_drew ?_))); (case side4 => exact HC1_1.out); rintro e w11 ⟨rfl, hb⟩; have n0_ := Aside0.mk (blk_below (g := gb191) (o := .cells #[.slice A0_0 l0_0.length c0_0, .slice A0_1 l0_1.length c0_1] 25 (0, 0)) (by (with_reducible repeat (first | refine blk_drewN ?_ _ | refine blk_drew ?_ | refine blk_alloc ?_ _)); exact BK191.out) hb); have n1_ := Aside0.mk (blk_below (g := gb192) (o := .cells #[.slice A1_0 l1_0.length c1_0, .slice A1_1 l1_1.length c1_1] 25 (0, 0)) (by (with_reducible repeat (first | refine blk_drewN ?_ _ | refine blk_drew ?_ | refine blk_alloc ?_ _)); exact BK192.out) hb); have n2_ := Aside0.mk (below_step (by repeat (first | (with_reducible first | exact HB.out | apply below_alloc | apply pw_below_drewN | apply below_drew1 | refine below_set ?_ GE191.out | refine below_set ?_ GE192.out) | exact HB.out)) hb); clear BK191; clear BK192; clear HB; have BK191 := n0_; have BK192 := n1_; have HB := n2_; clear n0_ n1_ n2_; (try clear hb); (try clear hb2); (try clear hk); (try clear hi))); go_ret; (exact ⟨by first | rfl | (simp [errW_none, errW_some] <;> rfl) | (simp [*, errW_none, errW_some] <;> rfl), by repeat (first | (with_reducible first | exact HB.out | apply below_alloc | apply pw_below_drewN | apply below_drew1 | refine below_set ?_ GE191.out | refine below_set ?_ GE192.out) | exact HB.out)⟩))
 (· replace c4 := Bool.eq_false_iff.mpr c4; subst c4; (have H1 : (some false) = some r := by rw [if_neg (show ¬ (false = true) by decide)] at H; exact H); clear H; have H := H1; clear H1; obtain rfl := Option.some.inj H; go_enter Try.func17, Try.ntmps17; go_wp2_with (first | ((with_reducible refine gate_dst (N := 2) rfl ?_); refine box_event ?hg (N := 2) ?hd (cs := #[.slice A0_0 l0_0.length c0_0, .slice A0_1 l0_1.length c0_1]) (t := 25) ?hr ?_; (case hd => rfl); (case hg => rfl); (case hr => first | (go_simp; done) | (go_simp; rfl)); intro gb191 hg w12 hbox hb; have n0_ := Aside0.mk (below_step (by repeat (first | (with_reducible first | exact HB.out | apply below_alloc | apply pw_below_drewN | apply below_drew1) | exact HB.out)) hb); have n1_ := Aside0.mk (hbox); have n2_ := Aside0.mk ((by rw [hg]; exact (below_size (by repeat (first | (with_reducible first | exact HB.out | apply below_alloc | apply pw_below_drewN | apply below_drew1) | exact HB.out))) : w.heap.size ≤ gb191)); have n3_ := Aside0.mk ((by rw [hg]; exact (below_size (by repeat (first | (with_reducible first | exact HB.out | apply below_alloc | apply pw_below_drewN | apply below_drew1) | exact HB.out))) : w.heap.size ≤ gb191)); clear HB; have HB := n0_; have BK191 := n1_; have GW191 := n2_; have GE191 := n3_; clear n0_ n1_ n2_ n3_; clear hb hbox hg) | ((with_reducible refine gate_dst (N := 3) rfl ?_); refine box_event ?hg (N := 3) ?hd (cs := #[.slice A1_0 l1_0.length c1_0, .slice A1_1 l1_1.length c1_1]) (t := 25) ?hr ?_; (case hd => rfl); (case hg => rfl); (case hr => first | (go_simp; done) | (go_simp; rfl)); intro gb192 hg w13 hbox hb; have n0_ := Aside0.mk (blk_below (g := gb191) (o := .cells #[.slice A0_0 l0_0.length c0_0, .slice A0_1 l0_1.length c0_1] 25 (0, 0)) (by (with_reducible repeat (first | refine blk_drewN ?_ _ | refine blk_drew ?_ | refine blk_alloc ?_ _)); exact BK191.out) hb); have n1_ := Aside0.mk (below_step (by repeat (first | (with_reducible first | exact HB.out | apply below_alloc | apply pw_below_drewN | apply below_drew1 | refine below_set ?_ GE191.out) | exact HB.out)) hb); have n2_ := Aside0.mk (hbox); have n3_ := Aside0.mk ((by rw [hg]; exact (below_size (by repeat (first | (with_reducible first | exact HB.out | apply below_alloc | apply pw_below_drewN | apply below_drew1 | refine below_set ?_ GE191.out) | exact HB.out))) : w.heap.size ≤ gb192)); have n4_ := Aside0.mk ((by rw [hg]; exact (below_size (by repeat (first | (with_reducible first | exact HB.out | apply below_alloc | apply pw_below_drewN | apply below_drew1 | refine below_set ?_ GE191.out) | exact HB.out))) : w.heap.size ≤ gb192)); have n5_ := Aside0.mk ((by rw [hg]; exact Nat.ne_of_lt (blk_lt (g := gb191) (o := .cells #[.slice A0_0 l0_0.length c0_0, .slice A0_1 l0_1.length c0_1] 25 (0, 0)) (by (with_reducible repeat (first | refine blk_drewN ?_ _ | refine blk_drew ?_ | refine blk_alloc ?_ _)); exact BK191.out)) : gb191 ≠ gb192)); have n6_ := Aside0.mk ((by rw [hg]; exact Nat.ne_of_gt (blk_lt (g := gb191) (o := .cells #[.slice A0_0 l0_0.length c0_0, .slice A0_1 l0_1.length c0_1] 25 (0, 0)) (by (with_reducible repeat (first | refine blk_drewN ?_ _ | refine blk_drew ?_ | refine blk_alloc ?_ _)); exact BK191.out)) : gb192 ≠ gb191)); clear BK191; clear HB; have BK191 := n0_; have HB := n1_; have BK192 := n2_; have GW192 := n3_; have GE192 := n4_; have NB191_192 := n5_; have NB192_191 := n6_; clear n0_ n1_ n2_ n3_ n4_ n5_ n6_; clear hb hbox hg; have hnb14 := NB191_192.out; have hnc14 := NB192_191.out; have hcz15_0 : w13.cell? ⟨gb191, 0, none⟩ = some (.slice A0_0 l0_0.length c0_0) := (blk_cell BK191.out 0).trans rfl; have hcz15_1 : w13.cell? ⟨gb191, 1, none⟩ = some (.slice A0_1 l0_1.length c0_1) := (blk_cell BK191.out 1).trans rfl; have hfz15_0 := blk_frozen BK191.out 0; have hfz15_1 := blk_frozen BK191.out 1; have hcz16_0 : w13.cell? ⟨gb192, 0, none⟩ = some (.slice A1_0 l1_0.length c1_0) := (blk_cell BK192.out 0).trans rfl; have hcz16_1 : w13.cell? ⟨gb192, 1, none⟩ = some (.slice A1_1 l1_1.length c1_1) := (blk_cell BK192.out 1).trans rfl; have hfz16_0 := blk_frozen BK192.out 0; have hfz16_1 := blk_frozen BK192.out 1) | ((with_reducible refine gate_callee (f := 38) rfl ?_); refine goesL_ (some 9) rfl rfl Try.func38 (by kernel_rfl) rfl #[.slice A0_0 l0_0.length c0_0, .slice A1_0 l1_0.length c1_0] rfl (by (try simp only [List.map_toArray, List.map_cons, List.map_nil]); first | done | rfl | (simp only [List.length_drop, List.length_take]; rfl)) ?_; (with_reducible refine (bytes_Equal.calls _ _ l0_0 _ _ l1_0 false _ ?side1 ?side2 ?side3 ?side4 A3.out).mono ?_); (case side1 => repeat (first | exact (Kd.C_below HR0_0.out HB.out) | (with_reducible refine Kd.C_alloc ?_ _) | (with_reducible refine Kd.C_drewN ?_ _) | (with_reducible refine Kd.C_drew ?_))); (case side2 => exact HC0_0.out); (case side3 => repeat (first | exact (Kd.C_below HR1_0.out HB.out) | (with_reducible refine Kd.C_alloc ?_ _) | (with_reducible refine Kd.C_drewN ?_ _) | (with_reducible refine Kd.C_drew ?_))); (case side4 => exact HC1_0.out); rintro e w' ⟨rfl, ⟨nd, rfl⟩⟩; refine ⟨_, rfl, ?_⟩)); go_ret; (exact ⟨by first | rfl | (simp [errW_none, errW_some] <;> rfl) | (simp [*, errW_none, errW_some] <;> rfl), by repeat (first | (with_reducible first | exact HB.out | apply below_alloc | apply pw_below_drewN | apply below_drew1 | refine below_set ?_ GE191.out | refine below_set ?_ GE192.out) | exact HB.out)⟩))
end Go.Proofs.Ytgcdhikmdbjfeaa.U
namespace Go.Proofs.Ytgcdhikmdbjfeaa.U
open Go Go.RowKit Go.Proofs.YtgcdhikmdbjfeaaW.PrintWords Go.Proofs.YtgcdhikmdbjfeaaW.PrintLast Go.Proofs.YtgcdhikmdbjfeaaW.PrintMore Go.Proofs.Ytgcdhikmdbjfeaa.Aid Go.Proofs.Ytgcdhikmdbjfeaa.HandAid Go.Proofs.Ytgcdhikmdbjfeaa.Zpl Go.Proofs.Ytgcdhikmdbjfeaa.Zsm
def incunableref24_sameZones.f (l0 l1 : List (S62)) : Option (Bool) := some (sameP l0 l1)
theorem incunableref24_sameZones.calls (A0 : Option Addr) (c0 : Nat) (l0 : List (S62)) (A1 : Option Addr) (c1 : Nat) (l1 : List (S62)) (r : Bool) (w : World) (hr0 : Kd.C k62 w A0 l0.length l0) (hc0 : l0.length ≤ c0) (hr1 : Kd.C k62 w A1 l1.length l1) (hc1 : l1.length ≤ c1) (h : incunableref24_sameZones.f l0 l1 = some r) :
    Calls Try.prog 40 #[.slice A0 l0.length c0, .slice A1 l1.length c1] w fun e w' => e = .returned (.bool r) ∧ Below w.heap.size w w' := by
  obtain rfl := Option.some.inj h
  exact rsame_calls l0 A0 c0 l1 A1 c1 w hr0 hc0 hr1 hc1
end Go.Proofs.Ytgcdhikmdbjfeaa.U
namespace Go.Proofs.Ytgcdhikmdbjfeaa.U
open Go.RowKit Go.Proofs.YtgcdhikmdbjfeaaW.PrintWords Go.Proofs.YtgcdhikmdbjfeaaW.PrintLast Go.Proofs.YtgcdhikmdbjfeaaW.PrintMore
attribute [local go_sem] max2_int min2_int max_two min_two max_three min_three max_four min_four   -- for this text's walks alone
def incunableref24_Same.f (l0_0 : List Int) (l0_1 : List (S62)) (l1_0 : List Int) (l1_1 : List (S62)) : Option (Bool) := if (strOfNums l0_0).toList = (strOfNums l1_0).toList then ((incunableref24_sameZones.f l0_1 l1_1).bind fun t197 => (some t197)) else (some false)
set_option maxHeartbeats 8000000 in
set_option maxRecDepth 100000 in
theorem incunableref24_Same.calls (A0_0 : Option Addr) (c0_0 : Nat) (l0_0 : List Int) (A0_1 : Option Addr) (c0_1 : Nat) (l0_1 : List (S62)) (A1_0 : Option Addr) (c1_0 : Nat) (l1_0 : List Int) (A1_1 : Option Addr) (c1_1 : Nat) (l1_1 : List (S62)) (r : Bool) (w : World) (hr0_0 : Kd.C (Kd.int .u8) w A0_0 l0_0.length l0_0) (hc0_0 : l0_0.length ≤ c0_0) (hr0_1 : Kd.C k62 w A0_1 l0_1.length l0_1) (hc0_1 : l0_1.length ≤ c0_1) (hr1_0 : Kd.C (Kd.int .u8) w A1_0 l1_0.length l1_0) (hc1_0 : l1_0.length ≤ c1_0) (hr1_1 : Kd.C k62 w A1_1 l1_1.length l1_1) (hc1_1 : l1_1.length ≤ c1_1) (h : incunableref24_Same.f l0_0 l0_1 l1_0 l1_1 = some r) :
    Calls Try.prog 18 #[.agg #[.slice A0_0 l0_0.length c0_0, .slice A0_1 l0_1.length c0_1], .agg #[.slice A1_0 l1_0.length c1_0, .slice A1_1 l1_1.length c1_1]] w fun e w' => e = .returned (.bool r) ∧ Below w.heap.size w w' := by
 have hu25 := Try.underlying25; have HR0_0 := Aside0.mk hr0_0; have HC0_0 := Aside0.mk hc0_0; clear hr0_0 hc0_0; have HR0_1 := Aside0.mk hr0_1; have HC0_1 := Aside0.mk hc0_1; clear hr0_1 hc0_1; have HR1_0 := Aside0.mk hr1_0; have HC1_0 := Aside0.mk hc1_0; clear hr1_0 hc1_0; have HR1_1 := Aside0.mk hr1_1; have HC1_1 := Aside0.mk hc1_1; clear hr1_1 hc1_1; have HB := Aside0.mk (Below.refl w.heap.size w); have H : (if (strOfNums l0_0).toList = (strOfNums l1_0).toList then ((incunableref24_sameZones.f l0_1 l1_1).bind fun t197 => (some t197)) else (some false)) = some r := h; clear h; by_cases c3 : (strOfNums l0_0).toList = (strOfNums l1_0).toList
 (· rw [if_pos c3] at H; have c3b0 : ((strOfNums l0_0).toList == (strOfNums l1_0).toList) = true := beq_iff_eq.mpr c3; have c3b1 : ((strOfNums l0_0).toList != (strOfNums l1_0).toList) = false := bne_eq_false_iff_eq.mpr c3; clear c3; replace H := Option.bind_eq_some_iff.mp H; obtain ⟨t197, A40, H⟩ := H; replace H : (some t197) = some r := H; have A4 := Aside0.mk A40; clear A40; obtain rfl := Option.some.inj H; go_enter Try.func18, Try.ntmps18; go_wp2_with (first | ((with_reducible refine gate_dst (N := 2) rfl ?_); refine box_event ?hg (N := 2) ?hd (cs := #[.slice A0_0 l0_0.length c0_0, .slice A0_1 l0_1.length c0_1]) (t := 25) ?hr ?_; (case hd => rfl); (case hg => rfl); (case hr => first | (go_simp; done) | (go_simp; rfl)); intro gb195 hg w5 hbox hb; have n0_ := Aside0.mk (below_step (by repeat (first | (with_reducible first | exact HB.out | apply below_alloc | apply pw_below_drewN | apply below_drew1) | exact HB.out)) hb); have n1_ := Aside0.mk (hbox); have n2_ := Aside0.mk ((by rw [hg]; exact (below_size (by repeat (first | (with_reducible first | exact HB.out | apply below_alloc | apply pw_below_drewN | apply below_drew1) | exact HB.out))) : w.heap.size ≤ gb195)); have n3_ := Aside0.mk ((by rw [hg]; exact (below_size (by repeat (first | (with_reducible first | exact HB.out | apply below_alloc | apply pw_below_drewN | apply below_drew1) | exact HB.out))) : w.heap.size ≤ gb195)); clear HB; have HB := n0_; have BK195 := n1_; have GW195 := n2_; have GE195 := n3_; clear n0_ n1_ n2_ n3_; clear hb hbox hg) | ((with_reducible refine gate_dst (N := 3) rfl ?_); refine box_event ?hg (N := 3) ?hd (cs := #[.slice A1_0 l1_0.length c1_0, .slice A1_1 l1_1.length c1_1]) (t := 25) ?hr ?_; (case hd => rfl); (case hg => rfl); (case hr => first | (go_simp; done) | (go_simp; rfl)); intro gb196 hg w6 hbox hb; have n0_ := Aside0.mk (blk_below (g := gb195) (o := .cells #[.slice A0_0 l0_0.length c0_0, .slice A0_1 l0_1.length c0_1] 25 (0, 0)) (by (with_reducible repeat (first | refine blk_drewN ?_ _ | refine blk_drew ?_ | refine blk_alloc ?_ _)); exact BK195.out) hb); have n1_ := Aside0.mk (below_step (by repeat (first | (with_reducible first | exact HB.out | apply below_alloc | apply pw_below_drewN | apply below_drew1 | refine below_set ?_ GE195.out) | exact HB.out)) hb); have n2_ := Aside0.mk (hbox); have n3_ := Aside0.mk ((by rw [hg]; exact (below_size (by repeat (first | (with_reducible first | exact HB.out | apply below_alloc | apply pw_below_drewN | apply below_drew1 | refine below_set ?_ GE195.out) | exact HB.out))) : w.heap.size ≤ gb196)); have n4_ := Aside0.mk ((by rw [hg]; exact (below_size (by repeat (first | (with_reducible first | exact HB.out | apply below_alloc | apply pw_below_drewN | apply below_drew1 | refine below_set ?_ GE195.out) | exact HB.out))) : w.heap.size ≤ gb196)); have n5_ := Aside0.mk ((by rw [hg]; exact Nat.ne_of_lt (blk_lt (g := gb195) (o := .cells #[.slice A0_0 l0_0.length c0_0, .slice A0_1 l0_1.length c0_1] 25 (0, 0)) (by (with_reducible repeat (first | refine blk_drewN ?_ _ | refine blk_drew ?_ | refine blk_alloc ?_ _)); exact BK195.out)) : gb195 ≠ gb196)); have n6_ := Aside0.mk ((by rw [hg]; exact Nat.ne_of_gt (blk_lt (g := gb195) (o := .cells #[.slice A0_0 l0_0.length c0_0, .slice A0_1 l0_1.length c0_1] 25 (0, 0)) (by (with_reducible repeat (first | refine blk_drewN ?_ _ | refine blk_drew ?_ | refine blk_alloc ?_ _)); exact BK195.out)) : gb196 ≠ gb195)); clear BK195; clear HB; have BK195 := n0_; have HB := n1_; have BK196 := n2_; have GW196 := n3_; have GE196 := n4_; have NB195_196 := n5_; have NB196_195 := n6_; clear n0_ n1_ n2_ n3_ n4_ n5_ n6_; clear hb hbox hg; have hnb7 := NB195_196.out; have hnc7 := NB196_195.out; have hcz8_0 : w6.cell? ⟨gb195, 0, none⟩ = some (.slice A0_0 l0_0.length c0_0) := (blk_cell BK195.out 0).trans rfl; have hcz8_1 : w6.cell? ⟨gb195, 1, none⟩ = some (.slice A0_1 l0_1.length c0_1) := (blk_cell BK195.out 1).trans rfl; have hfz8_0 := blk_frozen BK195.out 0; have hfz8_1 := blk_frozen BK195.out 1; have hcv9 := Kd.C_string (P := Try.prog) (A := A0_0) (c := c0_0) Try.underlying22 Try.underlying5 Try.underlying9 (Kd.C_below HR0_0.out HB.out); have hcz10_0 : w6.cell? ⟨gb196, 0, none⟩ = some (.slice A1_0 l1_0.length c1_0) := (blk_cell BK196.out 0).trans rfl; have hcz10_1 : w6.cell? ⟨gb196, 1, none⟩ = some (.slice A1_1 l1_1.length c1_1) := (blk_cell BK196.out 1).trans rfl; have hfz10_0 := blk_frozen BK196.out 0; have hfz10_1 := blk_frozen BK196.out 1; have hcv11 := Kd.C_string (P := Try.prog) (A := A1_0) (c := c1_0) Try.underlying22 Try.underlying5 Try.underlying9 (Kd.C_below HR1_0.out HB.out)) | (go_at_call 40; (with_reducible refine (incunableref24_sameZones.calls _ _ l0_1 _ _ l1_1 t197 _ ?side1 ?side2 ?side3 ?side4 A4.out).mono ?_); (case side1 => repeat (first | exact (Kd.C_below HR0_1.out HB.out) | (with_reducible refine Kd.C_alloc ?_ _) | (with_reducible refine Kd.C_drewN ?_ _) | (with_reducible refine Kd.C_drew ?_))); (case side2 => exact HC0_1.out); (case side3 => repeat (first | exact (Kd.C_below HR1_1.out HB.out) | (with_reducible refine Kd.C_alloc ?_ _) | (with_reducible refine Kd.C_drewN ?_ _) | (with_reducible refine Kd.C_drew ?_))); (case side4 => exact HC1_1.out); rintro e w12 ⟨rfl, hb⟩; have n0_ := Aside0.mk (blk_below (g := gb195) (o := .cells #[.slice A0_0 l0_0.length c0_0, .slice A0_1 l0_1.length c0_1] 25 (0, 0)) (by (with_reducible repeat (first | refine blk_drewN ?_ _ | refine blk_drew ?_ | refine blk_alloc ?_ _)); exact BK195.out) hb); have n1_ := Aside0.mk (blk_below (g := gb196) (o := .cells #[.slice A1_0 l1_0.length c1_0, .slice A1_1 l1_1.length c1_1] 25 (0, 0)) (by (with_reducible repeat (first | refine blk_drewN ?_ _ | refine blk_drew ?_ | refine blk_alloc ?_ _)); exact BK196.out) hb); have n2_ := Aside0.mk (below_step (by repeat (first | (with_reducible first | exact HB.out | apply below_alloc | apply pw_below_drewN | apply below_drew1 | refine below_set ?_ GE195.out | refine below_set ?_ GE196.out) | exact HB.out)) hb); clear BK195; clear BK196; clear HB; have BK195 := n0_; have BK196 := n1_; have HB := n2_; clear n0_ n1_ n2_; (try clear hb); (try clear hb2); (try clear hk); (try clear hi))); go_ret; (exact ⟨by first | rfl | (simp [errW_none, errW_some] <;> rfl) | (simp [*, errW_none, errW_some] <;> rfl), by repeat (first | (with_reducible first | exact HB.out | apply below_alloc | apply pw_below_drewN | apply below_drew1 | refine below_set ?_ GE195.out | refine below_set ?_ GE196.out) | exact HB.out)⟩))
 (· rw [if_neg c3] at H; have c3b0 : ((strOfNums l0_0).toList == (strOfNums l1_0).toList) = false := beq_eq_false_iff_ne.mpr c3; have c3b1 : ((strOfNums l0_0).toList != (strOfNums l1_0).toList) = true := bne_iff_ne.mpr c3; obtain rfl := Option.some.inj H; go_enter Try.func18, Try.ntmps18; go_wp2_with (first | ((with_reducible refine gate_dst (N := 2) rfl ?_); refine box_event ?hg (N := 2) ?hd (cs := #[.slice A0_0 l0_0.length c0_0, .slice A0_1 l0_1.length c0_1]) (t := 25) ?hr ?_; (case hd => rfl); (case hg => rfl); (case hr => first | (go_simp; done) | (go_simp; rfl)); intro gb195 hg w13 hbox hb; have n0_ := Aside0.mk (below_step (by repeat (first | (with_reducible first | exact HB.out | apply below_alloc | apply pw_below_drewN | apply below_drew1) | exact HB.out)) hb); have n1_ := Aside0.mk (hbox); have n2_ := Aside0.mk ((by rw [hg]; exact (below_size (by repeat (first | (with_reducible first | exact HB.out | apply below_alloc | apply pw_below_drewN | apply below_drew1) | exact HB.out))) : w.heap.size ≤ gb195)); have n3_ := Aside0.mk ((by rw [hg]; exact (below_size (by repeat (first | (with_reducible first | exact HB.out | apply below_alloc | apply pw_below_drewN | apply below_drew1) | exact HB.out))) : w.heap.size ≤ gb195)); clear HB; have HB := n0_; have BK195 := n1_; have GW195 := n2_; have GE195 := n3_; clear n0_ n1_ n2_ n3_; clear hb hbox hg) | ((with_reducible refine gate_dst (N := 3) rfl ?_); refine box_event ?hg (N := 3) ?hd (cs := #[.slice A1_0 l1_0.length c1_0, .slice A1_1 l1_1.length c1_1]) (t := 25) ?hr ?_; (case hd => rfl); (case hg => rfl); (case hr => first | (go_simp; done) | (go_simp; rfl)); intro gb196 hg w14 hbox hb; have n0_ := Aside0.mk (blk_below (g := gb195) (o := .cells #[.slice A0_0 l0_0.length c0_0, .slice A0_1 l0_1.length c0_1] 25 (0, 0)) (by (with_reducible repeat (first | refine blk_drewN ?_ _ | refine blk_drew ?_ | refine blk_alloc ?_ _)); exact BK195.out) hb); have n1_ := Aside0.mk (below_step (by repeat (first | (with_reducible first | exact HB.out | apply below_alloc | apply pw_below_drewN | apply below_drew1 | refine below_set ?_ GE195.out) | exact HB.out)) hb); have n2_ := Aside0.mk (hbox); have n3_ := Aside0.mk ((by rw [hg]; exact (below_size (by repeat (first | (with_reducible first | exact HB.out | apply below_alloc | apply pw_below_drewN | apply below_drew1 | refine below_set ?_ GE195.out) | exact HB.out))) : w.heap.size ≤ gb196)); have n4_ := Aside0.mk ((by rw [hg]; exact (below_size (by repeat (first | (with_reducible first | exact HB.out | apply below_alloc | apply pw_below_drewN | apply below_drew1 | refine below_set ?_ GE195.out) | exact HB.out))) : w.heap.size ≤ gb196)); have n5_ := Aside0.mk ((by rw [hg]; exact Nat.ne_of_lt (blk_lt (g := gb195) (o := .cells #[.slice A0_0 l0_0.length c0_0, .slice A0_1 l0_1.length c0_1] 25 (0, 0)) (by (with_reducible repeat (first | refine blk_drewN ?_ _ | refine blk_drew ?_ | refine blk_alloc ?_ _)); exact BK195.out)) : gb195 ≠ gb196)); have n6_ := Aside0.mk ((by rw [hg]; exact Nat.ne_of_gt (blk_lt (g := gb195) (o := .cells #[.slice A0_0 l0_0.length c0_0, .slice A0_1 l0_1.length c0_1] 25 (0, 0)) (by (with_reducible repeat (first | refine blk_drewN ?_ _ | refine blk_drew ?_ | refine blk_alloc ?_ _)); exact BK195.out)) : gb196 ≠ gb195)); clear BK195; clear HB; have BK195 := n0_; have HB := n1_; have BK196 := n2_; have GW196 := n3_; have GE196 := n4_; have NB195_196 := n5_; have NB196_195 := n6_; clear n0_ n1_ n2_ n3_ n4_ n5_ n6_; clear hb hbox hg; have hnb15 := NB195_196.out; have hnc15 := NB196_195.out; have hcz16_0 : w14.cell? ⟨gb195, 0, none⟩ = some (.slice A0_0 l0_0.length c0_0) := (blk_cell BK195.out 0).trans rfl; have hcz16_1 : w14.cell? ⟨gb195, 1, none⟩ = some (.slice A0_1 l0_1.length c0_1) := (blk_cell BK195.out 1).trans rfl; have hfz16_0 := blk_frozen BK195.out 0; have hfz16_1 := blk_frozen BK195.out 1; have hcv17 := Kd.C_string (P := Try.prog) (A := A0_0) (c := c0_0) Try.underlying22 Try.underlying5 Try.underlying9 (Kd.C_below HR0_0.out HB.out); have hcz18_0 : w14.cell? ⟨gb196, 0, none⟩ = some (.slice A1_0 l1_0.length c1_0) := (blk_cell BK196.out 0).trans rfl; have hcz18_1 : w14.cell? ⟨gb196, 1, none⟩ = some (.slice A1_1 l1_1.length c1_1) := (blk_cell BK196.out 1).trans rfl; have hfz18_0 := blk_frozen BK196.out 0; have hfz18_1 := blk_frozen BK196.out 1; have hcv19 := Kd.C_string (P := Try.prog) (A := A1_0) (c := c1_0) Try.underlying22 Try.underlying5 Try.underlying9 (Kd.C_below HR1_0.out HB.out))); go_ret; (exact ⟨by first | rfl | (simp [errW_none, errW_some] <;> rfl) | (simp [*, errW_none, errW_some] <;> rfl), by repeat (first | (with_reducible first | exact HB.out | apply below_alloc | apply pw_below_drewN | apply below_drew1 | refine below_set ?_ GE195.out | refine below_set ?_ GE196.out) | exact HB.out)⟩))
end Go.Proofs.Ytgcdhikmdbjfeaa.U
namespace Go.Proofs.Ytgcdhikmdbjfeaa.U
open Go.RowKit Go.Proofs.YtgcdhikmdbjfeaaW.PrintWords Go.Proofs.YtgcdhikmdbjfeaaW.PrintLast Go.Proofs.YtgcdhikmdbjfeaaW.PrintMore
attribute [local go_sem] max2_int min2_int max_two min_two max_three min_three max_four min_four   -- for this text's walks alone
def incunablelaw24_ZoneRight.j0 : Nat → Bool → List Int → List (S62) → List Int → List (S62) → Option (Bool)
  | 0, _, _, _, _, _ => none
  | k + 1, x10, x199000, x199001, x200000, x200001 => if x10 = true then ((incunablelaw24_Awake.f).bind fun t202 => (some t202)) else ((zone_Valid.f x199000 x199001).bind fun t203 => ((incunableref24_Valid.f k x199000 x199001).bind fun t204 => (if (t203 == t204) = true then ((zone_Same.f x199000 x199001 x200000 x200001).bind fun t205 => ((incunableref24_Same.f x199000 x199001 x200000 x200001).bind fun t206 => (if (t205 == t206) = true then ((zone_Same.f x199000 x199001 x199000 x199001).bind fun t207 => (if t207 = true then ((incunablelaw24_Awake.f).bind fun t208 => (some t208)) else (some false))) else (some false)))) else (some false))))
def incunablelaw24_ZoneRight.f (k : Nat) (l0_0 : List Int) (l0_1 : List (S62)) (l1_0 : List Int) (l1_1 : List (S62)) : Option (Bool) := (incunablelaw24_large.f k l0_0 l0_1).bind fun t200 => (if t200 = true then (incunablelaw24_ZoneRight.j0 k true l0_0 l0_1 l1_0 l1_1) else ((incunablelaw24_large.f k l1_0 l1_1).bind fun t201 => (incunablelaw24_ZoneRight.j0 k t201 l0_0 l0_1 l1_0 l1_1)))
theorem incunablelaw24_ZoneRight.mono_l : ∀ k, (∀ y0 y1 y2 y3 y4, LeO (incunablelaw24_ZoneRight.j0 k y0 y1 y2 y3 y4) (incunablelaw24_ZoneRight.j0 (k + 1) y0 y1 y2 y3 y4))
  | 0 => fun _ _ _ _ _ r h => by simp [incunablelaw24_ZoneRight.j0] at h
  | k + 1 => by
    have ih0 := incunablelaw24_ZoneRight.mono_l k
    · intro y0 y1 y2 y3 y4
      unfold incunablelaw24_ZoneRight.j0
      repeat' first
      | (with_reducible exact ih0 _ _ _ _ _)
      | (with_reducible exact incunablelaw24_large.mono _ _ _)
      | (with_reducible exact incunableref24_Valid.mono _ _ _)
      | (with_reducible exact LeO.refl _)
      | (with_reducible exact LeO.none _)
      | (with_reducible refine LeO.ite ?_ ?_)
      | (with_reducible refine LeO.bind ?_ (fun _ => ?_))
      | exact ih0 _ _ _ _ _
      | exact incunablelaw24_large.mono _ _ _
      | exact incunableref24_Valid.mono _ _ _
      | exact LeO.none _
      | refine LeO.ite ?_ ?_
      | refine LeO.bind ?_ (fun _ => ?_)
theorem incunablelaw24_ZoneRight.mono : ∀ a0 a1 a2 a3 k, LeO (incunablelaw24_ZoneRight.f k a0 a1 a2 a3) (incunablelaw24_ZoneRight.f (k + 1) a0 a1 a2 a3) := by
 intro a0 a1 a2 a3 k; have ih0 := incunablelaw24_ZoneRight.mono_l k; unfold incunablelaw24_ZoneRight.f
 repeat' first
  | (with_reducible exact ih0 _ _ _ _ _)
  | (with_reducible exact incunablelaw24_large.mono _ _ _)
  | (with_reducible exact incunableref24_Valid.mono _ _ _)
  | (with_reducible exact LeO.refl _)
  | (with_reducible exact LeO.none _)
  | (with_reducible refine LeO.ite ?_ ?_)
  | (with_reducible refine LeO.bind ?_ (fun _ => ?_))
  | exact ih0 _ _ _ _ _
  | exact incunablelaw24_large.mono _ _ _
  | exact incunableref24_Valid.mono _ _ _
  | exact LeO.none _
  | refine LeO.ite ?_ ?_
  | refine LeO.bind ?_ (fun _ => ?_)
def incunablelaw24_ZoneRight.T3 : Bool × List (List Nat × List Nat) := (true, [([], []), ([0], [0]), ([], []), ([2, 1], [2]), ([1, 3], [1, 3]), ([4, 3], [4]), ([5], [5]), ([5], [5]), ([6, 7, 5, 5], [5, 6, 7]), ([5], [5]), ([5], [5]), ([9, 10, 8, 5], [5, 9, 10]), ([8, 11, 5], [5, 8, 11]), ([5, 12], [5, 12]), ([13, 11], [13]), ([14], [14]), ([14], [14]), ([15, 16, 14, 14], [14, 15, 16]), ([14, 17], [14, 17]), ([18, 17], [18]), ([19, 19], [19]), ([19, 20], [19, 20]), ([21, 20, 0, 1, 2, 3, 4, 5, 6, 7, 8, 9, 10, 11, 12, 13, 14, 15, 16, 17, 18, 19, 20, 21], [21])])
def incunablelaw24_ZoneRight.B3 : List Nat := [0, 1, 0, 7, 15, 31, 63, 63, 255, 63, 63, 2047, 4095, 8191, 16383, 32767, 32767, 131071, 262143, 524287, 1048575, 2097151, 4194303]
theorem incunablelaw24_ZoneRight.tab3 : rtab .any (opsOf Try.f5 3) = incunablelaw24_ZoneRight.T3 := by kernel_rfl
theorem incunablelaw24_ZoneRight.bits3 : waitsOk incunablelaw24_ZoneRight.T3.2 incunablelaw24_ZoneRight.B3 = true := by kernel_rfl
set_option maxHeartbeats 8000000 in
set_option maxRecDepth 100000 in
theorem incunablelaw24_ZoneRight.calls (k : Nat) (A0_0 : Option Addr) (c0_0 : Nat) (l0_0 : List Int) (A0_1 : Option Addr) (c0_1 : Nat) (l0_1 : List (S62)) (A1_0 : Option Addr) (c1_0 : Nat) (l1_0 : List Int) (A1_1 : Option Addr) (c1_1 : Nat) (l1_1 : List (S62)) (r : Bool) (w : World) (hGG : Go.Proofs.Ytgcdhikmdbjfeaa.Zix.GG w) (hr0_0 : Kd.C (Kd.int .u8) w A0_0 l0_0.length l0_0) (hc0_0 : l0_0.length ≤ c0_0) (hr0_1 : Kd.C k62 w A0_1 l0_1.length l0_1) (hc0_1 : l0_1.length ≤ c0_1) (hr1_0 : Kd.C (Kd.int .u8) w A1_0 l1_0.length l1_0) (hc1_0 : l1_0.length ≤ c1_0) (hr1_1 : Kd.C k62 w A1_1 l1_1.length l1_1) (hc1_1 : l1_1.length ≤ c1_1) (h : incunablelaw24_ZoneRight.f k l0_0 l0_1 l1_0 l1_1 = some r) :
    Calls Try.prog 5 #[.agg #[.slice A0_0 l0_0.length c0_0, .slice A0_1 l0_1.length c0_1], .agg #[.slice A1_0 l1_0.length c1_0, .slice A1_1 l1_1.length c1_1]] w fun e w' => e = .returned (.bool r) ∧ Below w.heap.size w w' := by
 have hu25 := Try.underlying25; have HR0_0 := Aside0.mk hr0_0; have HC0_0 := Aside0.mk hc0_0; clear hr0_0 hc0_0; have HR0_1 := Aside0.mk hr0_1; have HC0_1 := Aside0.mk hc0_1; clear hr0_1 hc0_1; have HR1_0 := Aside0.mk hr1_0; have HC1_0 := Aside0.mk hc1_0; clear hr1_0 hc1_0; have HR1_1 := Aside0.mk hr1_1; have HC1_1 := Aside0.mk hc1_1; clear hr1_1 hc1_1; have HB := Aside0.mk (Below.refl w.heap.size w); have HGG := Aside0.mk hGG; clear hGG; have H : ((incunablelaw24_large.f k l0_0 l0_1).bind fun t200 => (if t200 = true then (incunablelaw24_ZoneRight.j0 k true l0_0 l0_1 l1_0 l1_1) else ((incunablelaw24_large.f k l1_0 l1_1).bind fun t201 => (incunablelaw24_ZoneRight.j0 k t201 l0_0 l0_1 l1_0 l1_1)))) = some r := h; clear h; have HC3 := Aside0.mk H; clear H; go_enter Try.func5, Try.ntmps5
 go_upto_region 1 with (first | ((with_reducible refine gate_dst (N := 2) rfl ?_); refine box_event ?hg (N := 2) ?hd (cs := #[.slice A0_0 l0_0.length c0_0, .slice A0_1 l0_1.length c0_1]) (t := 25) ?hr ?_; (case hd => rfl); (case hg => rfl); (case hr => first | (go_simp; done) | (go_simp; rfl)); intro gb198 hg w4 hbox hb; have n0_ := Aside0.mk (below_step (by repeat (first | (with_reducible first | exact HB.out | apply below_alloc | apply pw_below_drewN | apply below_drew1) | exact HB.out)) hb); have n1_ := Aside0.mk (hbox); have n2_ := Aside0.mk ((by rw [hg]; exact (below_size (by repeat (first | (with_reducible first | exact HB.out | apply below_alloc | apply pw_below_drewN | apply below_drew1) | exact HB.out))) : w.heap.size ≤ gb198)); have n3_ := Aside0.mk ((by rw [hg]; exact (below_size (by repeat (first | (with_reducible first | exact HB.out | apply below_alloc | apply pw_below_drewN | apply below_drew1) | exact HB.out))) : w.heap.size ≤ gb198)); clear HB; have HB := n0_; have BK198 := n1_; have GW198 := n2_; have GE198 := n3_; clear n0_ n1_ n2_ n3_; clear hb hbox hg) | ((with_reducible refine gate_dst (N := 3) rfl ?_); refine box_event ?hg (N := 3) ?hd (cs := #[.slice A1_0 l1_0.length c1_0, .slice A1_1 l1_1.length c1_1]) (t := 25) ?hr ?_; (case hd => rfl); (case hg => rfl); (case hr => first | (go_simp; done) | (go_simp; rfl)); intro gb199 hg w5 hbox hb; have n0_ := Aside0.mk (blk_below (g := gb198) (o := .cells #[.slice A0_0 l0_0.length c0_0, .slice A0_1 l0_1.length c0_1] 25 (0, 0)) (by (with_reducible repeat (first | refine blk_drewN ?_ _ | refine blk_drew ?_ | refine blk_alloc ?_ _)); exact BK198.out) hb); have n1_ := Aside0.mk (below_step (by repeat (first | (with_reducible first | exact HB.out | apply below_alloc | apply pw_below_drewN | apply below_drew1 | refine below_set ?_ GE198.out) | exact HB.out)) hb); have n2_ := Aside0.mk (hbox); have n3_ := Aside0.mk ((by rw [hg]; exact (below_size (by repeat (first | (with_reducible first | exact HB.out | apply below_alloc | apply pw_below_drewN | apply below_drew1 | refine below_set ?_ GE198.out) | exact HB.out))) : w.heap.size ≤ gb199)); have n4_ := Aside0.mk ((by rw [hg]; exact (below_size (by repeat (first | (with_reducible first | exact HB.out | apply below_alloc | apply pw_below_drewN | apply below_drew1 | refine below_set ?_ GE198.out) | exact HB.out))) : w.heap.size ≤ gb199)); have n5_ := Aside0.mk ((by rw [hg]; exact Nat.ne_of_lt (blk_lt (g := gb198) (o := .cells #[.slice A0_0 l0_0.length c0_0, .slice A0_1 l0_1.length c0_1] 25 (0, 0)) (by (with_reducible repeat (first | refine blk_drewN ?_ _ | refine blk_drew ?_ | refine blk_alloc ?_ _)); exact BK198.out)) : gb198 ≠ gb199)); have n6_ := Aside0.mk ((by rw [hg]; exact Nat.ne_of_gt (blk_lt (g := gb198) (o := .cells #[.slice A0_0 l0_0.length c0_0, .slice A0_1 l0_1.length c0_1] 25 (0, 0)) (by (with_reducible repeat (first | refine blk_drewN ?_ _ | refine blk_drew ?_ | refine blk_alloc ?_ _)); exact BK198.out)) : gb199 ≠ gb198)); clear BK198; clear HB; have BK198 := n0_; have HB := n1_; have BK199 := n2_; have GW199 := n3_; have GE199 := n4_; have NB198_199 := n5_; have NB199_198 := n6_; clear n0_ n1_ n2_ n3_ n4_ n5_ n6_; clear hb hbox hg))
 (try simp only [Act.put, List.setIfInBounds_toArray, List.set_cons_zero, List.set_cons_succ]); go_cut [10] (fun v10 wc => ∃ (kq : Nat) (x10_2 : Bool), v10 = .bool x10_2 ∧ Aside0 (incunablelaw24_ZoneRight.j0 kq x10_2 l0_0 l0_1 l1_0 l1_1 = some r) ∧ Aside0 (kq ≤ k) ∧ Aside0 (wc.heap[gb198]? = some (.cells #[(.slice A0_0 l0_0.length c0_0), (.slice A0_1 l0_1.length c0_1)] 25 (0, 0))) ∧ Aside0 (wc.heap[gb199]? = some (.cells #[(.slice A1_0 l1_0.length c1_0), (.slice A1_1 l1_1.length c1_1)] 25 (0, 0))) ∧ Aside0 (Below w.heap.size w wc))
 (case first => have H := HC3.out; clear HC3; replace H := Option.bind_eq_some_iff.mp H; obtain ⟨t200, A60, H⟩ := H; replace H : (if t200 = true then (incunablelaw24_ZoneRight.j0 k true l0_0 l0_1 l1_0 l1_1) else ((incunablelaw24_large.f k l1_0 l1_1).bind fun t201 => (incunablelaw24_ZoneRight.j0 k t201 l0_0 l0_1 l1_0 l1_1))) = some r := H; have A6 := Aside0.mk A60; clear A60; by_cases c7 : t200 = true; (· subst c7; (have H1 : (incunablelaw24_ZoneRight.j0 k true l0_0 l0_1 l1_0 l1_1) = some r := by rw [if_pos rfl] at H; exact H); clear H; have H := H1; clear H1; have H' := Aside0.mk H; clear H; have hnb8 := NB198_199.out; have hnc8 := NB199_198.out; have hcz9_0 : w5.cell? ⟨gb198, 0, none⟩ = some (.slice A0_0 l0_0.length c0_0) := (blk_cell BK198.out 0).trans rfl; have hcz9_1 : w5.cell? ⟨gb198, 1, none⟩ = some (.slice A0_1 l0_1.length c0_1) := (blk_cell BK198.out 1).trans rfl; have hfz9_0 := blk_frozen BK198.out 0; have hfz9_1 := blk_frozen BK198.out 1; go_wp2_with (first | ((with_reducible refine gate_callee (f := 10) rfl ?_); refine goesL_ (some 6) rfl rfl Try.func10 (by kernel_rfl) rfl #[.agg #[.slice A0_0 l0_0.length c0_0, .slice A0_1 l0_1.length c0_1]] rfl (by (try simp only [List.map_toArray, List.map_cons, List.map_nil]); first | done | rfl | (simp only [List.length_drop, List.length_take]; rfl)) ?_; (with_reducible refine (incunablelaw24_large.calls k _ _ l0_0 _ _ l0_1 true _ ?side1 ?side2 ?side3 ?side4 A6.out).mono ?_); (case side1 => repeat (first | exact (Kd.C_below HR0_0.out HB.out) | (with_reducible refine Kd.C_alloc ?_ _) | (with_reducible refine Kd.C_drewN ?_ _) | (with_reducible refine Kd.C_drew ?_))); (case side2 => exact HC0_0.out); (case side3 => repeat (first | exact (Kd.C_below HR0_1.out HB.out) | (with_reducible refine Kd.C_alloc ?_ _) | (with_reducible refine Kd.C_drewN ?_ _) | (with_reducible refine Kd.C_drew ?_))); (case side4 => exact HC0_1.out); rintro e w10 ⟨rfl, hb⟩; refine ⟨_, rfl, ?_⟩; have n0_ := Aside0.mk (blk_below (g := gb198) (o := .cells #[.slice A0_0 l0_0.length c0_0, .slice A0_1 l0_1.length c0_1] 25 (0, 0)) (by (with_reducible repeat (first | refine blk_drewN ?_ _ | refine blk_drew ?_ | refine blk_alloc ?_ _)); exact BK198.out) hb); have n1_ := Aside0.mk (blk_below (g := gb199) (o := .cells #[.slice A1_0 l1_0.length c1_0, .slice A1_1 l1_1.length c1_1] 25 (0, 0)) (by (with_reducible repeat (first | refine blk_drewN ?_ _ | refine blk_drew ?_ | refine blk_alloc ?_ _)); exact BK199.out) hb); have n2_ := Aside0.mk (below_step (by repeat (first | (with_reducible first | exact HB.out | apply below_alloc | apply pw_below_drewN | apply below_drew1 | refine below_set ?_ GE198.out | refine below_set ?_ GE199.out) | exact HB.out)) hb); clear BK198; clear BK199; clear HB; have BK198 := n0_; have BK199 := n1_; have HB := n2_; clear n0_ n1_ n2_; (try clear hb); (try clear hb2); (try clear hk); (try clear hi))); go_meet; (case rel => exact ⟨_, (true), (by first | rfl | (simp; done) | (simp [*]; done)), H', ⟨by first | omega | exact Nat.le_refl _⟩, ⟨by (with_reducible repeat (first | refine blk_drewN ?_ _ | refine blk_drew ?_ | refine blk_alloc ?_ _)); exact BK198.out⟩, ⟨by (with_reducible repeat (first | refine blk_drewN ?_ _ | refine blk_drew ?_ | refine blk_alloc ?_ _)); exact BK199.out⟩, ⟨by repeat (first | (with_reducible first | exact HB.out | apply below_alloc | apply pw_below_drewN | apply below_drew1 | refine below_set ?_ GE198.out | refine below_set ?_ GE199.out) | exact HB.out)⟩⟩)); (· replace c7 := Bool.eq_false_iff.mpr c7; subst c7; (have H1 : ((incunablelaw24_large.f k l1_0 l1_1).bind fun t201 => (incunablelaw24_ZoneRight.j0 k t201 l0_0 l0_1 l1_0 l1_1)) = some r := by rw [if_neg (show ¬ (false = true) by decide)] at H; exact H); clear H; have H := H1; clear H1; replace H := Option.bind_eq_some_iff.mp H; obtain ⟨t201, A110, H⟩ := H; replace H : (incunablelaw24_ZoneRight.j0 k t201 l0_0 l0_1 l1_0 l1_1) = some r := H; have A11 := Aside0.mk A110; clear A110; have H' := Aside0.mk H; clear H; have hnb12 := NB198_199.out; have hnc12 := NB199_198.out; have hcz13_0 : w5.cell? ⟨gb198, 0, none⟩ = some (.slice A0_0 l0_0.length c0_0) := (blk_cell BK198.out 0).trans rfl; have hcz13_1 : w5.cell? ⟨gb198, 1, none⟩ = some (.slice A0_1 l0_1.length c0_1) := (blk_cell BK198.out 1).trans rfl; have hfz13_0 := blk_frozen BK198.out 0; have hfz13_1 := blk_frozen BK198.out 1; go_wp2_with (first | ((with_reducible refine gate_callee (f := 10) rfl ?_); refine goesL_ (some 6) rfl rfl Try.func10 (by kernel_rfl) rfl #[.agg #[.slice A0_0 l0_0.length c0_0, .slice A0_1 l0_1.length c0_1]] rfl (by (try simp only [List.map_toArray, List.map_cons, List.map_nil]); first | done | rfl | (simp only [List.length_drop, List.length_take]; rfl)) ?_; (with_reducible refine (incunablelaw24_large.calls k _ _ l0_0 _ _ l0_1 false _ ?side1 ?side2 ?side3 ?side4 A6.out).mono ?_); (case side1 => repeat (first | exact (Kd.C_below HR0_0.out HB.out) | (with_reducible refine Kd.C_alloc ?_ _) | (with_reducible refine Kd.C_drewN ?_ _) | (with_reducible refine Kd.C_drew ?_))); (case side2 => exact HC0_0.out); (case side3 => repeat (first | exact (Kd.C_below HR0_1.out HB.out) | (with_reducible refine Kd.C_alloc ?_ _) | (with_reducible refine Kd.C_drewN ?_ _) | (with_reducible refine Kd.C_drew ?_))); (case side4 => exact HC0_1.out); rintro e w14 ⟨rfl, hb⟩; refine ⟨_, rfl, ?_⟩; have n0_ := Aside0.mk (blk_below (g := gb198) (o := .cells #[.slice A0_0 l0_0.length c0_0, .slice A0_1 l0_1.length c0_1] 25 (0, 0)) (by (with_reducible repeat (first | refine blk_drewN ?_ _ | refine blk_drew ?_ | refine blk_alloc ?_ _)); exact BK198.out) hb); have n1_ := Aside0.mk (blk_below (g := gb199) (o := .cells #[.slice A1_0 l1_0.length c1_0, .slice A1_1 l1_1.length c1_1] 25 (0, 0)) (by (with_reducible repeat (first | refine blk_drewN ?_ _ | refine blk_drew ?_ | refine blk_alloc ?_ _)); exact BK199.out) hb); have n2_ := Aside0.mk (below_step (by repeat (first | (with_reducible first | exact HB.out | apply below_alloc | apply pw_below_drewN | apply below_drew1 | refine below_set ?_ GE198.out | refine below_set ?_ GE199.out) | exact HB.out)) hb); clear BK198; clear BK199; clear HB; have BK198 := n0_; have BK199 := n1_; have HB := n2_; clear n0_ n1_ n2_; (try clear hb); (try clear hb2); (try clear hk); (try clear hi); have hcz15_0 : w14.cell? ⟨gb199, 0, none⟩ = some (.slice A1_0 l1_0.length c1_0) := (blk_cell BK199.out 0).trans rfl; have hcz15_1 : w14.cell? ⟨gb199, 1, none⟩ = some (.slice A1_1 l1_1.length c1_1) := (blk_cell BK199.out 1).trans rfl; have hfz15_0 := blk_frozen BK199.out 0; have hfz15_1 := blk_frozen BK199.out 1) | (go_at_call 10; (with_reducible refine (incunablelaw24_large.calls k _ _ l1_0 _ _ l1_1 t201 _ ?side1 ?side2 ?side3 ?side4 A11.out).mono ?_); (case side1 => repeat (first | exact (Kd.C_below HR1_0.out HB.out) | (with_reducible refine Kd.C_alloc ?_ _) | (with_reducible refine Kd.C_drewN ?_ _) | (with_reducible refine Kd.C_drew ?_))); (case side2 => exact HC1_0.out); (case side3 => repeat (first | exact (Kd.C_below HR1_1.out HB.out) | (with_reducible refine Kd.C_alloc ?_ _) | (with_reducible refine Kd.C_drewN ?_ _) | (with_reducible refine Kd.C_drew ?_))); (case side4 => exact HC1_1.out); rintro e w16 ⟨rfl, hb⟩; have n0_ := Aside0.mk (blk_below (g := gb198) (o := .cells #[.slice A0_0 l0_0.length c0_0, .slice A0_1 l0_1.length c0_1] 25 (0, 0)) (by (with_reducible repeat (first | refine blk_drewN ?_ _ | refine blk_drew ?_ | refine blk_alloc ?_ _)); exact BK198.out) hb); have n1_ := Aside0.mk (blk_below (g := gb199) (o := .cells #[.slice A1_0 l1_0.length c1_0, .slice A1_1 l1_1.length c1_1] 25 (0, 0)) (by (with_reducible repeat (first | refine blk_drewN ?_ _ | refine blk_drew ?_ | refine blk_alloc ?_ _)); exact BK199.out) hb); have n2_ := Aside0.mk (below_step (by repeat (first | (with_reducible first | exact HB.out | apply below_alloc | apply pw_below_drewN | apply below_drew1 | refine below_set ?_ GE198.out | refine below_set ?_ GE199.out) | exact HB.out)) hb); clear BK198; clear BK199; clear HB; have BK198 := n0_; have BK199 := n1_; have HB := n2_; clear n0_ n1_ n2_; (try clear hb); (try clear hb2); (try clear hk); (try clear hi))); go_meet; (case rel => exact ⟨_, (t201), (by first | rfl | (simp; done) | (simp [*]; done)), H', ⟨by first | omega | exact Nat.le_refl _⟩, ⟨by (with_reducible repeat (first | refine blk_drewN ?_ _ | refine blk_drew ?_ | refine blk_alloc ?_ _)); exact BK198.out⟩, ⟨by (with_reducible repeat (first | refine blk_drewN ?_ _ | refine blk_drew ?_ | refine blk_alloc ?_ _)); exact BK199.out⟩, ⟨by repeat (first | (with_reducible first | exact HB.out | apply below_alloc | apply pw_below_drewN | apply below_drew1 | refine below_set ?_ GE198.out | refine below_set ?_ GE199.out) | exact HB.out)⟩⟩)))
 case rest =>
  clear HC3; (try clear c1); (try clear p2); (try clear c5); (try clear c7); (try clear c8); (try clear c10); (try clear c12); (try clear hcz13_0); (try clear hcz13_1); (try clear hcz15_0); (try clear hcz15_1); (try clear hcz9_0); (try clear hcz9_1); (try clear hfz13_0); (try clear hfz13_1); (try clear hfz15_0); (try clear hfz15_1); (try clear hfz9_0); (try clear hfz9_1); obtain ⟨kq, x10_2, rfl, HA, HJ2, BK198, BK199, HB⟩ := hcut
  cases kq with
  | zero => exact absurd HA.out (by simp [incunablelaw24_ZoneRight.j0])
  | succ kj2 =>
   have H := HA.out; clear HA; simp only [incunablelaw24_ZoneRight.j0] at H; by_cases c17 : x10_2 = true
   (· subst c17; (have H1 : ((incunablelaw24_Awake.f).bind fun t202 => (some t202)) = some r := by rw [if_pos rfl] at H; exact H); clear H; have H := H1; clear H1; replace H := Option.bind_eq_some_iff.mp H; obtain ⟨t202, A180, H⟩ := H; replace H : (some t202) = some r := H; have A18 := Aside0.mk A180; clear A180; obtain rfl := Option.some.inj H; go_wp2_with (first | ((with_reducible refine gate_callee (f := 11) rfl ?_); refine goesL_ (some 11) rfl rfl Try.func11 (by kernel_rfl) rfl #[] rfl (by (try simp only [List.map_toArray, List.map_cons, List.map_nil]); first | done | rfl | (simp only [List.length_drop, List.length_take]; rfl)) ?_; (with_reducible refine (incunablelaw24_Awake.calls  t202 _ ?sideG A18.out).mono ?_); (case sideG => exact Go.Proofs.Ytgcdhikmdbjfeaa.Zix.GG_below HGG.out (by repeat (first | (with_reducible first | exact HB.out | apply below_alloc | apply pw_below_drewN | apply below_drew1) | exact HB.out))); rintro e w19 ⟨rfl, hb⟩; refine ⟨_, rfl, ?_⟩; have n0_ := Aside0.mk (blk_below (g := gb198) (o := .cells #[.slice A0_0 l0_0.length c0_0, .slice A0_1 l0_1.length c0_1] 25 (0, 0)) (by (with_reducible repeat (first | refine blk_drewN ?_ _ | refine blk_drew ?_ | refine blk_alloc ?_ _)); exact BK198.out) hb); have n1_ := Aside0.mk (blk_below (g := gb199) (o := .cells #[.slice A1_0 l1_0.length c1_0, .slice A1_1 l1_1.length c1_1] 25 (0, 0)) (by (with_reducible repeat (first | refine blk_drewN ?_ _ | refine blk_drew ?_ | refine blk_alloc ?_ _)); exact BK199.out) hb); have n2_ := Aside0.mk (below_step (by repeat (first | (with_reducible first | exact HB.out | apply below_alloc | apply pw_below_drewN | apply below_drew1 | refine below_set ?_ GE198.out | refine below_set ?_ GE199.out) | exact HB.out)) hb); clear BK198; clear BK199; clear HB; have BK198 := n0_; have BK199 := n1_; have HB := n2_; clear n0_ n1_ n2_; (try clear hb); (try clear hb2); (try clear hk); (try clear hi))); go_ret; (exact ⟨by first | rfl | (simp [errW_none, errW_some] <;> rfl) | (simp [*, errW_none, errW_some] <;> rfl), by repeat (first | (with_reducible first | exact HB.out | apply below_alloc | apply pw_below_drewN | apply below_drew1 | refine below_set ?_ GE198.out | refine below_set ?_ GE199.out) | exact HB.out)⟩))
   (· replace c17 := Bool.eq_false_iff.mpr c17; subst c17; (have H1 : ((zone_Valid.f l0_0 l0_1).bind fun t203 => ((incunableref24_Valid.f kj2 l0_0 l0_1).bind fun t204 => (if (t203 == t204) = true then ((zone_Same.f l0_0 l0_1 l1_0 l1_1).bind fun t205 => ((incunableref24_Same.f l0_0 l0_1 l1_0 l1_1).bind fun t206 => (if (t205 == t206) = true then ((zone_Same.f l0_0 l0_1 l0_0 l0_1).bind fun t207 => (if t207 = true then ((incunablelaw24_Awake.f).bind fun t208 => (some t208)) else (some false))) else (some false)))) else (some false)))) = some r := by rw [if_neg (show ¬ (false = true) by decide)] at H; exact H); clear H; have H := H1; clear H1; replace H := Option.bind_eq_some_iff.mp H; obtain ⟨t203, A200, H⟩ := H; replace H : ((incunableref24_Valid.f kj2 l0_0 l0_1).bind fun t204 => (if (t203 == t204) = true then ((zone_Same.f l0_0 l0_1 l1_0 l1_1).bind fun t205 => ((incunableref24_Same.f l0_0 l0_1 l1_0 l1_1).bind fun t206 => (if (t205 == t206) = true then ((zone_Same.f l0_0 l0_1 l0_0 l0_1).bind fun t207 => (if t207 = true then ((incunablelaw24_Awake.f).bind fun t208 => (some t208)) else (some false))) else (some false)))) else (some false))) = some r := H; have A20 := Aside0.mk A200; clear A200; replace H := Option.bind_eq_some_iff.mp H; obtain ⟨t204, A210, H⟩ := H; replace H : (if (t203 == t204) = true then ((zone_Same.f l0_0 l0_1 l1_0 l1_1).bind fun t205 => ((incunableref24_Same.f l0_0 l0_1 l1_0 l1_1).bind fun t206 => (if (t205 == t206) = true then ((zone_Same.f l0_0 l0_1 l0_0 l0_1).bind fun t207 => (if t207 = true then ((incunablelaw24_Awake.f).bind fun t208 => (some t208)) else (some false))) else (some false)))) else (some false)) = some r := H; have A21 := Aside0.mk A210; clear A210; by_cases c22 : (t203 == t204) = true; (· rw [if_pos c22] at H; have c22b0 : (t203 == t204) = true := c22; (try (have c22b1 : decide (t203 = t204) = true := by simpa using c22)); (try (have c22b2 : (t203 == t204) = true := by simpa using c22)); clear c22; replace H := Option.bind_eq_some_iff.mp H; obtain ⟨t205, A230, H⟩ := H; replace H : ((incunableref24_Same.f l0_0 l0_1 l1_0 l1_1).bind fun t206 => (if (t205 == t206) = true then ((zone_Same.f l0_0 l0_1 l0_0 l0_1).bind fun t207 => (if t207 = true then ((incunablelaw24_Awake.f).bind fun t208 => (some t208)) else (some false))) else (some false))) = some r := H; have A23 := Aside0.mk A230; clear A230; replace H := Option.bind_eq_some_iff.mp H; obtain ⟨t206, A240, H⟩ := H; replace H : (if (t205 == t206) = true then ((zone_Same.f l0_0 l0_1 l0_0 l0_1).bind fun t207 => (if t207 = true then ((incunablelaw24_Awake.f).bind fun t208 => (some t208)) else (some false))) else (some false)) = some r := H; have A24 := Aside0.mk A240; clear A240; by_cases c25 : (t205 == t206) = true; (· rw [if_pos c25] at H; have c25b0 : (t205 == t206) = true := c25; (try (have c25b1 : decide (t205 = t206) = true := by simpa using c25)); (try (have c25b2 : (t205 == t206) = true := by simpa using c25)); clear c25; replace H := Option.bind_eq_some_iff.mp H; obtain ⟨t207, A260, H⟩ := H; replace H : (if t207 = true then ((incunablelaw24_Awake.f).bind fun t208 => (some t208)) else (some false)) = some r := H; have A26 := Aside0.mk A260; clear A260; by_cases c27 : t207 = true; (· subst c27; (have H1 : ((incunablelaw24_Awake.f).bind fun t208 => (some t208)) = some r := by rw [if_pos rfl] at H; exact H); clear H; have H := H1; clear H1; replace H := Option.bind_eq_some_iff.mp H; obtain ⟨t208, A280, H⟩ := H; replace H : (some t208) = some r := H; have A28 := Aside0.mk A280; clear A280; obtain rfl := Option.some.inj H; (try go_wp2); have n0_ := Aside0.mk (blk_drew BK198.out); have n1_ := Aside0.mk (blk_drew BK199.out); have n2_ := Aside0.mk (below_drew1 HB.out); clear BK198; clear BK199; clear HB; have BK198 := n0_; have BK199 := n1_; have HB := n2_; clear n0_ n1_ n2_; refine start_ (n := 23) (S := fun w' => w'.cell? ⟨gb198, 0, none⟩ = some (.slice A0_0 l0_0.length c0_0) ∧ w'.cell? ⟨gb198, 1, none⟩ = some (.slice A0_1 l0_1.length c0_1) ∧ w'.cell? ⟨gb199, 0, none⟩ = some (.slice A1_0 l1_0.length c1_0) ∧ w'.cell? ⟨gb199, 1, none⟩ = some (.slice A1_1 l1_1.length c1_1)) (ds := []) #[false, false, false, false, false, false, false, false, false, false, false, false, false, false, false, false, false, false, false, false, false, false, false] (by kernel_rfl) rfl rfl ⟨(blk_cell BK198.out 0).trans rfl, (blk_cell BK198.out 1).trans rfl, (blk_cell BK199.out 0).trans rfl, (blk_cell BK199.out 1).trans rfl⟩ (fun hHeld => ?_); refine with_tabW incunablelaw24_ZoneRight.tab3 incunablelaw24_ZoneRight.bits3 (fun HT_ HW_ => ?_); generalize wc.drew = w29 at BK198 BK199 HB hHeld ⊢; refine take_ (i := 0) (N := some 12) (v := ?_) (a' := ?_) #[true, false, false, false, false, false, false, false, false, false, false, false, false, false, false, false, false, false, false, false, false, false, false] rfl rfl (take_ofW HT_.out HW_.out (by kernel_rfl)) (fun _ _ _ h => h) (Or.inl ⟨by rfl, ?_⟩) hHeld ?_ ?_; rotate_left; (· rintro w' ⟨s0, s1, s2, s3⟩; go_simp; (with_reducible rfl)); rotate_left; (· simp only [Act.put, List.setIfInBounds_toArray, List.set_cons_zero, List.set_cons_succ, i64_w, i32_w]; rfl); refine take_ (i := 2) (N := some 14) (v := ?_) (a' := ?_) #[true, false, true, false, false, false, false, false, false, false, false, false, false, false, false, false, false, false, false, false, false, false, false] rfl rfl (take_ofW HT_.out HW_.out (by kernel_rfl)) (fun _ _ _ h => h) (Or.inl ⟨by rfl, ?_⟩) hHeld ?_ ?_; rotate_left; (· rintro w' ⟨s0, s1, s2, s3⟩; go_simp; (with_reducible rfl)); rotate_left; (· simp only [Act.put, List.setIfInBounds_toArray, List.set_cons_zero, List.set_cons_succ, i64_w, i32_w]; rfl); refine one_ (i := 1) (N := some 13) #[true, true, true, false, false, false, false, false, false, false, false, false, false, false, false, false, false, false, false, false, false, false, false] rfl rfl (one_of HT_.out (by kernel_rfl)) (by decide) (fun K hK => ?_); refine goes_ Try.func15 (by kernel_rfl) rfl #[.agg #[.slice A0_0 l0_0.length c0_0, .slice A0_1 l0_1.length c0_1]] (by rfl) rfl rfl (by (try simp only [List.map_toArray, List.map_cons, List.map_nil]); first | done | rfl | (simp only [List.length_drop, List.length_take]; rfl)) ?_; (with_reducible refine (zone_Valid.calls _ _ l0_0 _ _ l0_1 t203 _ ?side1 ?side2 ?side3 ?side4 A20.out).mono ?_); (case side1 => repeat (first | exact (Kd.C_below HR0_0.out HB.out) | (with_reducible refine Kd.C_alloc ?_ _) | (with_reducible refine Kd.C_drewN ?_ _) | (with_reducible refine Kd.C_drew ?_))); (case side2 => exact HC0_0.out); (case side3 => repeat (first | exact (Kd.C_below HR0_1.out HB.out) | (with_reducible refine Kd.C_alloc ?_ _) | (with_reducible refine Kd.C_drewN ?_ _) | (with_reducible refine Kd.C_drew ?_))); (case side4 => exact HC0_1.out); rintro e w30 ⟨rfl, hb⟩; refine ⟨_, rfl, ?_⟩; have n0_ := Aside0.mk (blk_below (g := gb198) (o := .cells #[.slice A0_0 l0_0.length c0_0, .slice A0_1 l0_1.length c0_1] 25 (0, 0)) (by (with_reducible repeat (first | refine blk_drewN ?_ _ | refine blk_drew ?_ | refine blk_alloc ?_ _)); exact BK198.out) hb); have n1_ := Aside0.mk (blk_below (g := gb199) (o := .cells #[.slice A1_0 l1_0.length c1_0, .slice A1_1 l1_1.length c1_1] 25 (0, 0)) (by (with_reducible repeat (first | refine blk_drewN ?_ _ | refine blk_drew ?_ | refine blk_alloc ?_ _)); exact BK199.out) hb); have n2_ := Aside0.mk (below_step (by repeat (first | (with_reducible first | exact HB.out | apply below_alloc | apply pw_below_drewN | apply below_drew1 | refine below_set ?_ GE198.out | refine below_set ?_ GE199.out) | exact HB.out)) hb); clear BK198; clear BK199; clear HB; have BK198 := n0_; have BK199 := n1_; have HB := n2_; clear n0_ n1_ n2_; (try clear hb); (try clear hb2); (try clear hk); (try clear hi); refine hK.out _ _ ⟨(blk_cell BK198.out 0).trans rfl, (blk_cell BK198.out 1).trans rfl, (blk_cell BK199.out 0).trans rfl, (blk_cell BK199.out 1).trans rfl⟩ (fun hHeld => ?_); clear hK K; refine norm_ (a' := ?_) ?_ ?_; rotate_left; (· show Act.put _ (some 13) _ = _; simp only [Act.put, List.setIfInBounds_toArray, List.set_cons_zero, List.set_cons_succ, i64_w, i32_w]; rfl); refine one_ (i := 3) (N := some 15) #[true, true, true, true, false, false, false, false, false, false, false, false, false, false, false, false, false, false, false, false, false, false, false] rfl rfl (one_of HT_.out (by kernel_rfl)) (by decide) (fun K hK => ?_); refine goes_ Try.func16 (by kernel_rfl) rfl #[.agg #[.slice A0_0 l0_0.length c0_0, .slice A0_1 l0_1.length c0_1]] (by rfl) rfl rfl (by (try simp only [List.map_toArray, List.map_cons, List.map_nil]); first | done | rfl | (simp only [List.length_drop, List.length_take]; rfl)) ?_; (with_reducible refine (incunableref24_Valid.calls kj2 _ _ l0_0 _ _ l0_1 t204 _ ?side1 ?side2 ?side3 ?side4 A21.out).mono ?_); (case side1 => repeat (first | exact (Kd.C_below HR0_0.out HB.out) | (with_reducible refine Kd.C_alloc ?_ _) | (with_reducible refine Kd.C_drewN ?_ _) | (with_reducible refine Kd.C_drew ?_))); (case side2 => exact HC0_0.out); (case side3 => repeat (first | exact (Kd.C_below HR0_1.out HB.out) | (with_reducible refine Kd.C_alloc ?_ _) | (with_reducible refine Kd.C_drewN ?_ _) | (with_reducible refine Kd.C_drew ?_))); (case side4 => exact HC0_1.out); rintro e w31 ⟨rfl, hb⟩; refine ⟨_, rfl, ?_⟩; have n0_ := Aside0.mk (blk_below (g := gb198) (o := .cells #[.slice A0_0 l0_0.length c0_0, .slice A0_1 l0_1.length c0_1] 25 (0, 0)) (by (with_reducible repeat (first | refine blk_drewN ?_ _ | refine blk_drew ?_ | refine blk_alloc ?_ _)); exact BK198.out) hb); have n1_ := Aside0.mk (blk_below (g := gb199) (o := .cells #[.slice A1_0 l1_0.length c1_0, .slice A1_1 l1_1.length c1_1] 25 (0, 0)) (by (with_reducible repeat (first | refine blk_drewN ?_ _ | refine blk_drew ?_ | refine blk_alloc ?_ _)); exact BK199.out) hb); have n2_ := Aside0.mk (below_step (by repeat (first | (with_reducible first | exact HB.out | apply below_alloc | apply pw_below_drewN | apply below_drew1 | refine below_set ?_ GE198.out | refine below_set ?_ GE199.out) | exact HB.out)) hb); clear BK198; clear BK199; clear HB; have BK198 := n0_; have BK199 := n1_; have HB := n2_; clear n0_ n1_ n2_; (try clear hb); (try clear hb2); (try clear hk); (try clear hi); refine hK.out _ _ ⟨(blk_cell BK198.out 0).trans rfl, (blk_cell BK198.out 1).trans rfl, (blk_cell BK199.out 0).trans rfl, (blk_cell BK199.out 1).trans rfl⟩ (fun hHeld => ?_); clear hK K; refine norm_ (a' := ?_) ?_ ?_; rotate_left; (· show Act.put _ (some 15) _ = _; simp only [Act.put, List.setIfInBounds_toArray, List.set_cons_zero, List.set_cons_succ, i64_w, i32_w]; rfl); refine pure_ (i := 4) (N := some 16) (v := ?_) (a' := ?_) #[true, true, true, true, true, false, false, false, false, false, false, false, false, false, false, false, false, false, false, false, false, false, false] rfl rfl (any_of HT_.out (by kernel_rfl)) (fun _ _ _ h => h) (Or.inl ⟨by rfl, ?_⟩) ?_ ?_; rotate_left; (· intro w'; go_simp; (with_reducible rfl)); rotate_left; (· simp only [Act.put, List.setIfInBounds_toArray, List.set_cons_zero, List.set_cons_succ, i64_w, i32_w]; rfl); refine pure_ (i := 5) (N := some 17) (v := ?_) (a' := ?_) #[true, true, true, true, true, true, false, false, false, false, false, false, false, false, false, false, false, false, false, false, false, false, false] rfl rfl (any_of HT_.out (by kernel_rfl)) (fun _ _ _ h => h) (Or.inl ⟨by rfl, ?_⟩) ?_ ?_; rotate_left; (· intro w'; go_simp; (with_reducible rfl)); rotate_left; (· simp only [Act.put, List.setIfInBounds_toArray, List.set_cons_zero, List.set_cons_succ, i64_w, i32_w]; rfl); refine take_ (i := 6) (N := some 18) (v := ?_) (a' := ?_) #[true, true, true, true, true, true, true, false, false, false, false, false, false, false, false, false, false, false, false, false, false, false, false] rfl rfl (take_ofW HT_.out HW_.out (by kernel_rfl)) (fun _ _ _ h => h) (Or.inl ⟨by rfl, ?_⟩) hHeld ?_ ?_; rotate_left; (· rintro w' ⟨s0, s1, s2, s3⟩; go_simp; (with_reducible rfl)); rotate_left; (· simp only [Act.put, List.setIfInBounds_toArray, List.set_cons_zero, List.set_cons_succ, i64_w, i32_w]; rfl); refine take_ (i := 7) (N := some 19) (v := ?_) (a' := ?_) #[true, true, true, true, true, true, true, true, false, false, false, false, false, false, false, false, false, false, false, false, false, false, false] rfl rfl (take_ofW HT_.out HW_.out (by kernel_rfl)) (fun _ _ _ h => h) (Or.inl ⟨by rfl, ?_⟩) hHeld ?_ ?_; rotate_left; (· rintro w' ⟨s0, s1, s2, s3⟩; go_simp; (with_reducible rfl)); rotate_left; (· simp only [Act.put, List.setIfInBounds_toArray, List.set_cons_zero, List.set_cons_succ, i64_w, i32_w]; rfl); refine take_ (i := 9) (N := some 21) (v := ?_) (a' := ?_) #[true, true, true, true, true, true, true, true, false, true, false, false, false, false, false, false, false, false, false, false, false, false, false] rfl rfl (take_ofW HT_.out HW_.out (by kernel_rfl)) (fun _ _ _ h => h) (Or.inl ⟨by rfl, ?_⟩) hHeld ?_ ?_; rotate_left; (· rintro w' ⟨s0, s1, s2, s3⟩; go_simp; (with_reducible rfl)); rotate_left; (· simp only [Act.put, List.setIfInBounds_toArray, List.set_cons_zero, List.set_cons_succ, i64_w, i32_w]; rfl); refine take_ (i := 10) (N := some 22) (v := ?_) (a' := ?_) #[true, true, true, true, true, true, true, true, false, true, true, false, false, false, false, false, false, false, false, false, false, false, false] rfl rfl (take_ofW HT_.out HW_.out (by kernel_rfl)) (fun _ _ _ h => h) (Or.inl ⟨by rfl, ?_⟩) hHeld ?_ ?_; rotate_left; (· rintro w' ⟨s0, s1, s2, s3⟩; go_simp; (with_reducible rfl)); rotate_left; (· simp only [Act.put, List.setIfInBounds_toArray, List.set_cons_zero, List.set_cons_succ, i64_w, i32_w]; rfl); refine one_ (i := 8) (N := some 20) #[true, true, true, true, true, true, true, true, true, true, true, false, false, false, false, false, false, false, false, false, false, false, false] rfl rfl (one_of HT_.out (by kernel_rfl)) (by decide) (fun K hK => ?_); refine goes_ Try.func17 (by kernel_rfl) rfl #[.agg #[.slice A0_0 l0_0.length c0_0, .slice A0_1 l0_1.length c0_1], .agg #[.slice A1_0 l1_0.length c1_0, .slice A1_1 l1_1.length c1_1]] (by rfl) rfl rfl (by (try simp only [List.map_toArray, List.map_cons, List.map_nil]); first | done | rfl | (simp only [List.length_drop, List.length_take]; rfl)) ?_; (with_reducible refine (zone_Same.calls _ _ l0_0 _ _ l0_1 _ _ l1_0 _ _ l1_1 t205 _ ?side1 ?side2 ?side3 ?side4 ?side5 ?side6 ?side7 ?side8 A23.out).mono ?_); (case side1 => repeat (first | exact (Kd.C_below HR0_0.out HB.out) | (with_reducible refine Kd.C_alloc ?_ _) | (with_reducible refine Kd.C_drewN ?_ _) | (with_reducible refine Kd.C_drew ?_))); (case side2 => exact HC0_0.out); (case side3 => repeat (first | exact (Kd.C_below HR0_1.out HB.out) | (with_reducible refine Kd.C_alloc ?_ _) | (with_reducible refine Kd.C_drewN ?_ _) | (with_reducible refine Kd.C_drew ?_))); (case side4 => exact HC0_1.out); (case side5 => repeat (first | exact (Kd.C_below HR1_0.out HB.out) | (with_reducible refine Kd.C_alloc ?_ _) | (with_reducible refine Kd.C_drewN ?_ _) | (with_reducible refine Kd.C_drew ?_))); (case side6 => exact HC1_0.out); (case side7 => repeat (first | exact (Kd.C_below HR1_1.out HB.out) | (with_reducible refine Kd.C_alloc ?_ _) | (with_reducible refine Kd.C_drewN ?_ _) | (with_reducible refine Kd.C_drew ?_))); (case side8 => exact HC1_1.out); rintro e w32 ⟨rfl, hb⟩; refine ⟨_, rfl, ?_⟩; have n0_ := Aside0.mk (blk_below (g := gb198) (o := .cells #[.slice A0_0 l0_0.length c0_0, .slice A0_1 l0_1.length c0_1] 25 (0, 0)) (by (with_reducible repeat (first | refine blk_drewN ?_ _ | refine blk_drew ?_ | refine blk_alloc ?_ _)); exact BK198.out) hb); have n1_ := Aside0.mk (blk_below (g := gb199) (o := .cells #[.slice A1_0 l1_0.length c1_0, .slice A1_1 l1_1.length c1_1] 25 (0, 0)) (by (with_reducible repeat (first | refine blk_drewN ?_ _ | refine blk_drew ?_ | refine blk_alloc ?_ _)); exact BK199.out) hb); have n2_ := Aside0.mk (below_step (by repeat (first | (with_reducible first | exact HB.out | apply below_alloc | apply pw_below_drewN | apply below_drew1 | refine below_set ?_ GE198.out | refine below_set ?_ GE199.out) | exact HB.out)) hb); clear BK198; clear BK199; clear HB; have BK198 := n0_; have BK199 := n1_; have HB := n2_; clear n0_ n1_ n2_; (try clear hb); (try clear hb2); (try clear hk); (try clear hi); refine hK.out _ _ ⟨(blk_cell BK198.out 0).trans rfl, (blk_cell BK198.out 1).trans rfl, (blk_cell BK199.out 0).trans rfl, (blk_cell BK199.out 1).trans rfl⟩ (fun hHeld => ?_); clear hK K; refine norm_ (a' := ?_) ?_ ?_; rotate_left; (· show Act.put _ (some 20) _ = _; simp only [Act.put, List.setIfInBounds_toArray, List.set_cons_zero, List.set_cons_succ, i64_w, i32_w]; rfl); refine one_ (i := 11) (N := some 23) #[true, true, true, true, true, true, true, true, true, true, true, true, false, false, false, false, false, false, false, false, false, false, false] rfl rfl (one_of HT_.out (by kernel_rfl)) (by decide) (fun K hK => ?_); refine goes_ Try.func18 (by kernel_rfl) rfl #[.agg #[.slice A0_0 l0_0.length c0_0, .slice A0_1 l0_1.length c0_1], .agg #[.slice A1_0 l1_0.length c1_0, .slice A1_1 l1_1.length c1_1]] (by rfl) rfl rfl (by (try simp only [List.map_toArray, List.map_cons, List.map_nil]); first | done | rfl | (simp only [List.length_drop, List.length_take]; rfl)) ?_; (with_reducible refine (incunableref24_Same.calls _ _ l0_0 _ _ l0_1 _ _ l1_0 _ _ l1_1 t206 _ ?side1 ?side2 ?side3 ?side4 ?side5 ?side6 ?side7 ?side8 A24.out).mono ?_); (case side1 => repeat (first | exact (Kd.C_below HR0_0.out HB.out) | (with_reducible refine Kd.C_alloc ?_ _) | (with_reducible refine Kd.C_drewN ?_ _) | (with_reducible refine Kd.C_drew ?_))); (case side2 => exact HC0_0.out); (case side3 => repeat (first | exact (Kd.C_below HR0_1.out HB.out) | (with_reducible refine Kd.C_alloc ?_ _) | (with_reducible refine Kd.C_drewN ?_ _) | (with_reducible refine Kd.C_drew ?_))); (case side4 => exact HC0_1.out); (case side5 => repeat (first | exact (Kd.C_below HR1_0.out HB.out) | (with_reducible refine Kd.C_alloc ?_ _) | (with_reducible refine Kd.C_drewN ?_ _) | (with_reducible refine Kd.C_drew ?_))); (case side6 => exact HC1_0.out); (case side7 => repeat (first | exact (Kd.C_below HR1_1.out HB.out) | (with_reducible refine Kd.C_alloc ?_ _) | (with_reducible refine Kd.C_drewN ?_ _) | (with_reducible refine Kd.C_drew ?_))); (case side8 => exact HC1_1.out); rintro e w33 ⟨rfl, hb⟩; refine ⟨_, rfl, ?_⟩; have n0_ := Aside0.mk (blk_below (g := gb198) (o := .cells #[.slice A0_0 l0_0.length c0_0, .slice A0_1 l0_1.length c0_1] 25 (0, 0)) (by (with_reducible repeat (first | refine blk_drewN ?_ _ | refine blk_drew ?_ | refine blk_alloc ?_ _)); exact BK198.out) hb); have n1_ := Aside0.mk (blk_below (g := gb199) (o := .cells #[.slice A1_0 l1_0.length c1_0, .slice A1_1 l1_1.length c1_1] 25 (0, 0)) (by (with_reducible repeat (first | refine blk_drewN ?_ _ | refine blk_drew ?_ | refine blk_alloc ?_ _)); exact BK199.out) hb); have n2_ := Aside0.mk (below_step (by repeat (first | (with_reducible first | exact HB.out | apply below_alloc | apply pw_below_drewN | apply below_drew1 | refine below_set ?_ GE198.out | refine below_set ?_ GE199.out) | exact HB.out)) hb); clear BK198; clear BK199; clear HB; have BK198 := n0_; have BK199 := n1_; have HB := n2_; clear n0_ n1_ n2_; (try clear hb); (try clear hb2); (try clear hk); (try clear hi); refine hK.out _ _ ⟨(blk_cell BK198.out 0).trans rfl, (blk_cell BK198.out 1).trans rfl, (blk_cell BK199.out 0).trans rfl, (blk_cell BK199.out 1).trans rfl⟩ (fun hHeld => ?_); clear hK K; refine norm_ (a' := ?_) ?_ ?_; rotate_left; (· show Act.put _ (some 23) _ = _; simp only [Act.put, List.setIfInBounds_toArray, List.set_cons_zero, List.set_cons_succ, i64_w, i32_w]; rfl); refine pure_ (i := 12) (N := some 24) (v := ?_) (a' := ?_) #[true, true, true, true, true, true, true, true, true, true, true, true, true, false, false, false, false, false, false, false, false, false, false] rfl rfl (any_of HT_.out (by kernel_rfl)) (fun _ _ _ h => h) (Or.inl ⟨by rfl, ?_⟩) ?_ ?_; rotate_left; (· intro w'; go_simp; (with_reducible rfl)); rotate_left; (· simp only [Act.put, List.setIfInBounds_toArray, List.set_cons_zero, List.set_cons_succ, i64_w, i32_w]; rfl); refine pure_ (i := 13) (N := some 25) (v := ?_) (a' := ?_) #[true, true, true, true, true, true, true, true, true, true, true, true, true, true, false, false, false, false, false, false, false, false, false] rfl rfl (any_of HT_.out (by kernel_rfl)) (fun _ _ _ h => h) (Or.inl ⟨by rfl, ?_⟩) ?_ ?_; rotate_left; (· intro w'; go_simp; (with_reducible rfl)); rotate_left; (· simp only [Act.put, List.setIfInBounds_toArray, List.set_cons_zero, List.set_cons_succ, i64_w, i32_w]; rfl); refine pure_ (i := 14) (N := some 26) (v := ?_) (a' := ?_) #[true, true, true, true, true, true, true, true, true, true, true, true, true, true, true, false, false, false, false, false, false, false, false] rfl rfl (any_of HT_.out (by kernel_rfl)) (fun _ _ _ h => h) (Or.inl ⟨by rfl, ?_⟩) ?_ ?_; rotate_left; (· intro w'; go_simp; (with_reducible rfl)); rotate_left; (· simp only [Act.put, List.setIfInBounds_toArray, List.set_cons_zero, List.set_cons_succ, i64_w, i32_w]; rfl); refine take_ (i := 15) (N := some 27) (v := ?_) (a' := ?_) #[true, true, true, true, true, true, true, true, true, true, true, true, true, true, true, true, false, false, false, false, false, false, false] rfl rfl (take_ofW HT_.out HW_.out (by kernel_rfl)) (fun _ _ _ h => h) (Or.inl ⟨by rfl, ?_⟩) hHeld ?_ ?_; rotate_left; (· rintro w' ⟨s0, s1, s2, s3⟩; go_simp; (with_reducible rfl)); rotate_left; (· simp only [Act.put, List.setIfInBounds_toArray, List.set_cons_zero, List.set_cons_succ, i64_w, i32_w]; rfl); refine take_ (i := 16) (N := some 28) (v := ?_) (a' := ?_) #[true, true, true, true, true, true, true, true, true, true, true, true, true, true, true, true, true, false, false, false, false, false, false] rfl rfl (take_ofW HT_.out HW_.out (by kernel_rfl)) (fun _ _ _ h => h) (Or.inl ⟨by rfl, ?_⟩) hHeld ?_ ?_; rotate_left; (· rintro w' ⟨s0, s1, s2, s3⟩; go_simp; (with_reducible rfl)); rotate_left; (· simp only [Act.put, List.setIfInBounds_toArray, List.set_cons_zero, List.set_cons_succ, i64_w, i32_w]; rfl); refine one_ (i := 17) (N := some 29) #[true, true, true, true, true, true, true, true, true, true, true, true, true, true, true, true, true, true, false, false, false, false, false] rfl rfl (one_of HT_.out (by kernel_rfl)) (by decide) (fun K hK => ?_); refine goes_ Try.func17 (by kernel_rfl) rfl #[.agg #[.slice A0_0 l0_0.length c0_0, .slice A0_1 l0_1.length c0_1], .agg #[.slice A0_0 l0_0.length c0_0, .slice A0_1 l0_1.length c0_1]] (by rfl) rfl rfl (by (try simp only [List.map_toArray, List.map_cons, List.map_nil]); first | done | rfl | (simp only [List.length_drop, List.length_take]; rfl)) ?_; (with_reducible refine (zone_Same.calls _ _ l0_0 _ _ l0_1 _ _ l0_0 _ _ l0_1 true _ ?side1 ?side2 ?side3 ?side4 ?side5 ?side6 ?side7 ?side8 A26.out).mono ?_); (case side1 => repeat (first | exact (Kd.C_below HR0_0.out HB.out) | (with_reducible refine Kd.C_alloc ?_ _) | (with_reducible refine Kd.C_drewN ?_ _) | (with_reducible refine Kd.C_drew ?_))); (case side2 => exact HC0_0.out); (case side3 => repeat (first | exact (Kd.C_below HR0_1.out HB.out) | (with_reducible refine Kd.C_alloc ?_ _) | (with_reducible refine Kd.C_drewN ?_ _) | (with_reducible refine Kd.C_drew ?_))); (case side4 => exact HC0_1.out); (case side5 => repeat (first | exact (Kd.C_below HR0_0.out HB.out) | (with_reducible refine Kd.C_alloc ?_ _) | (with_reducible refine Kd.C_drewN ?_ _) | (with_reducible refine Kd.C_drew ?_))); (case side6 => exact HC0_0.out); (case side7 => repeat (first | exact (Kd.C_below HR0_1.out HB.out) | (with_reducible refine Kd.C_alloc ?_ _) | (with_reducible refine Kd.C_drewN ?_ _) | (with_reducible refine Kd.C_drew ?_))); (case side8 => exact HC0_1.out); rintro e w34 ⟨rfl, hb⟩; refine ⟨_, rfl, ?_⟩; have n0_ := Aside0.mk (blk_below (g := gb198) (o := .cells #[.slice A0_0 l0_0.length c0_0, .slice A0_1 l0_1.length c0_1] 25 (0, 0)) (by (with_reducible repeat (first | refine blk_drewN ?_ _ | refine blk_drew ?_ | refine blk_alloc ?_ _)); exact BK198.out) hb); have n1_ := Aside0.mk (blk_below (g := gb199) (o := .cells #[.slice A1_0 l1_0.length c1_0, .slice A1_1 l1_1.length c1_1] 25 (0, 0)) (by (with_reducible repeat (first | refine blk_drewN ?_ _ | refine blk_drew ?_ | refine blk_alloc ?_ _)); exact BK199.out) hb); have n2_ := Aside0.mk (below_step (by repeat (first | (with_reducible first | exact HB.out | apply below_alloc | apply pw_below_drewN | apply below_drew1 | refine below_set ?_ GE198.out | refine below_set ?_ GE199.out) | exact HB.out)) hb); clear BK198; clear BK199; clear HB; have BK198 := n0_; have BK199 := n1_; have HB := n2_; clear n0_ n1_ n2_; (try clear hb); (try clear hb2); (try clear hk); (try clear hi); refine hK.out _ _ ⟨(blk_cell BK198.out 0).trans rfl, (blk_cell BK198.out 1).trans rfl, (blk_cell BK199.out 0).trans rfl, (blk_cell BK199.out 1).trans rfl⟩ (fun hHeld => ?_); clear hK K; refine norm_ (a' := ?_) ?_ ?_; rotate_left; (· show Act.put _ (some 29) _ = _; simp only [Act.put, List.setIfInBounds_toArray, List.set_cons_zero, List.set_cons_succ, i64_w, i32_w]; rfl); refine pure_ (i := 18) (N := some 30) (v := ?_) (a' := ?_) #[true, true, true, true, true, true, true, true, true, true, true, true, true, true, true, true, true, true, true, false, false, false, false] rfl rfl (any_of HT_.out (by kernel_rfl)) (fun _ _ _ h => h) (Or.inl ⟨by rfl, ?_⟩) ?_ ?_; rotate_left; (· intro w'; go_simp; (with_reducible rfl)); rotate_left; (· simp only [Act.put, List.setIfInBounds_toArray, List.set_cons_zero, List.set_cons_succ, i64_w, i32_w]; rfl); refine pure_ (i := 19) (N := some 31) (v := ?_) (a' := ?_) #[true, true, true, true, true, true, true, true, true, true, true, true, true, true, true, true, true, true, true, true, false, false, false] rfl rfl (any_of HT_.out (by kernel_rfl)) (fun _ _ _ h => h) (Or.inl ⟨by rfl, ?_⟩) ?_ ?_; rotate_left; (· intro w'; go_simp; (with_reducible rfl)); rotate_left; (· simp only [Act.put, List.setIfInBounds_toArray, List.set_cons_zero, List.set_cons_succ, i64_w, i32_w]; rfl); refine one_ (i := 20) (N := some 32) #[true, true, true, true, true, true, true, true, true, true, true, true, true, true, true, true, true, true, true, true, true, false, false] rfl rfl (one_of HT_.out (by kernel_rfl)) (by decide) (fun K hK => ?_); refine goes_ Try.func11 (by kernel_rfl) rfl #[] (by rfl) rfl rfl (by (try simp only [List.map_toArray, List.map_cons, List.map_nil]); first | done | rfl | (simp only [List.length_drop, List.length_take]; rfl)) ?_; (with_reducible refine (incunablelaw24_Awake.calls  t208 _ ?sideG A28.out).mono ?_); (case sideG => exact Go.Proofs.Ytgcdhikmdbjfeaa.Zix.GG_below HGG.out (by repeat (first | (with_reducible first | exact HB.out | apply below_alloc | apply pw_below_drewN | apply below_drew1) | exact HB.out))); rintro e w35 ⟨rfl, hb⟩; refine ⟨_, rfl, ?_⟩; have n0_ := Aside0.mk (blk_below (g := gb198) (o := .cells #[.slice A0_0 l0_0.length c0_0, .slice A0_1 l0_1.length c0_1] 25 (0, 0)) (by (with_reducible repeat (first | refine blk_drewN ?_ _ | refine blk_drew ?_ | refine blk_alloc ?_ _)); exact BK198.out) hb); have n1_ := Aside0.mk (blk_below (g := gb199) (o := .cells #[.slice A1_0 l1_0.length c1_0, .slice A1_1 l1_1.length c1_1] 25 (0, 0)) (by (with_reducible repeat (first | refine blk_drewN ?_ _ | refine blk_drew ?_ | refine blk_alloc ?_ _)); exact BK199.out) hb); have n2_ := Aside0.mk (below_step (by repeat (first | (with_reducible first | exact HB.out | apply below_alloc | apply pw_below_drewN | apply below_drew1 | refine below_set ?_ GE198.out | refine below_set ?_ GE199.out) | exact HB.out)) hb); clear BK198; clear BK199; clear HB; have BK198 := n0_; have BK199 := n1_; have HB := n2_; clear n0_ n1_ n2_; (try clear hb); (try clear hb2); (try clear hk); (try clear hi); refine hK.out _ _ ⟨(blk_cell BK198.out 0).trans rfl, (blk_cell BK198.out 1).trans rfl, (blk_cell BK199.out 0).trans rfl, (blk_cell BK199.out 1).trans rfl⟩ (fun hHeld => ?_); clear hK K; refine norm_ (a' := ?_) ?_ ?_; rotate_left; (· show Act.put _ (some 32) _ = _; simp only [Act.put, List.setIfInBounds_toArray, List.set_cons_zero, List.set_cons_succ, i64_w, i32_w]; rfl); refine pure_ (i := 21) (N := some 33) (v := ?_) (a' := ?_) #[true, true, true, true, true, true, true, true, true, true, true, true, true, true, true, true, true, true, true, true, true, true, false] rfl rfl (any_of HT_.out (by kernel_rfl)) (fun _ _ _ h => h) (Or.inl ⟨by rfl, ?_⟩) ?_ ?_; rotate_left; (· intro w'; go_simp; (with_reducible rfl)); rotate_left; (· simp only [Act.put, List.setIfInBounds_toArray, List.set_cons_zero, List.set_cons_succ, i64_w, i32_w]; rfl); refine pure_ (i := 22) (N := some 4) (v := ?_) (a' := ?_) #[true, true, true, true, true, true, true, true, true, true, true, true, true, true, true, true, true, true, true, true, true, true, true] rfl rfl (any_of HT_.out (by kernel_rfl)) (fun _ _ _ h => h) (Or.inl ⟨by rfl, ?_⟩) ?_ ?_; rotate_left; (· intro w'; go_simp; (with_reducible rfl)); rotate_left; (· simp only [Act.put, List.setIfInBounds_toArray, List.set_cons_zero, List.set_cons_succ, i64_w, i32_w]; rfl); refine done_ (done_of HT_.out (by kernel_rfl)) ?_; (try go_wp2); go_ret; (exact ⟨by first | rfl | (simp [errW_none, errW_some] <;> rfl) | (simp [*, errW_none, errW_some] <;> rfl), by repeat (first | (with_reducible first | exact HB.out | apply below_alloc | apply pw_below_drewN | apply below_drew1 | refine below_set ?_ GE198.out | refine below_set ?_ GE199.out) | exact HB.out)⟩)); (· replace c27 := Bool.eq_false_iff.mpr c27; subst c27; (have H1 : (some false) = some r := by rw [if_neg (show ¬ (false = true) by decide)] at H; exact H); clear H; have H := H1; clear H1; obtain rfl := Option.some.inj H; (try go_wp2); have n0_ := Aside0.mk (blk_drew BK198.out); have n1_ := Aside0.mk (blk_drew BK199.out); have n2_ := Aside0.mk (below_drew1 HB.out); clear BK198; clear BK199; clear HB; have BK198 := n0_; have BK199 := n1_; have HB := n2_; clear n0_ n1_ n2_; refine start_ (n := 23) (S := fun w' => w'.cell? ⟨gb198, 0, none⟩ = some (.slice A0_0 l0_0.length c0_0) ∧ w'.cell? ⟨gb198, 1, none⟩ = some (.slice A0_1 l0_1.length c0_1) ∧ w'.cell? ⟨gb199, 0, none⟩ = some (.slice A1_0 l1_0.length c1_0) ∧ w'.cell? ⟨gb199, 1, none⟩ = some (.slice A1_1 l1_1.length c1_1)) (ds := []) #[false, false, false, false, false, false, false, false, false, false, false, false, false, false, false, false, false, false, false, false, false, false, false] (by kernel_rfl) rfl rfl ⟨(blk_cell BK198.out 0).trans rfl, (blk_cell BK198.out 1).trans rfl, (blk_cell BK199.out 0).trans rfl, (blk_cell BK199.out 1).trans rfl⟩ (fun hHeld => ?_); refine with_tabW incunablelaw24_ZoneRight.tab3 incunablelaw24_ZoneRight.bits3 (fun HT_ HW_ => ?_); generalize wc.drew = w36 at BK198 BK199 HB hHeld ⊢; refine take_ (i := 0) (N := some 12) (v := ?_) (a' := ?_) #[true, false, false, false, false, false, false, false, false, false, false, false, false, false, false, false, false, false, false, false, false, false, false] rfl rfl (take_ofW HT_.out HW_.out (by kernel_rfl)) (fun _ _ _ h => h) (Or.inl ⟨by rfl, ?_⟩) hHeld ?_ ?_; rotate_left; (· rintro w' ⟨s0, s1, s2, s3⟩; go_simp; (with_reducible rfl)); rotate_left; (· simp only [Act.put, List.setIfInBounds_toArray, List.set_cons_zero, List.set_cons_succ, i64_w, i32_w]; rfl); refine take_ (i := 2) (N := some 14) (v := ?_) (a' := ?_) #[true, false, true, false, false, false, false, false, false, false, false, false, false, false, false, false, false, false, false, false, false, false, false] rfl rfl (take_ofW HT_.out HW_.out (by kernel_rfl)) (fun _ _ _ h => h) (Or.inl ⟨by rfl, ?_⟩) hHeld ?_ ?_; rotate_left; (· rintro w' ⟨s0, s1, s2, s3⟩; go_simp; (with_reducible rfl)); rotate_left; (· simp only [Act.put, List.setIfInBounds_toArray, List.set_cons_zero, List.set_cons_succ, i64_w, i32_w]; rfl); refine one_ (i := 1) (N := some 13) #[true, true, true, false, false, false, false, false, false, false, false, false, false, false, false, false, false, false, false, false, false, false, false] rfl rfl (one_of HT_.out (by kernel_rfl)) (by decide) (fun K hK => ?_); refine goes_ Try.func15 (by kernel_rfl) rfl #[.agg #[.slice A0_0 l0_0.length c0_0, .slice A0_1 l0_1.length c0_1]] (by rfl) rfl rfl (by (try simp only [List.map_toArray, List.map_cons, List.map_nil]); first | done | rfl | (simp only [List.length_drop, List.length_take]; rfl)) ?_; (with_reducible refine (zone_Valid.calls _ _ l0_0 _ _ l0_1 t203 _ ?side1 ?side2 ?side3 ?side4 A20.out).mono ?_); (case side1 => repeat (first | exact (Kd.C_below HR0_0.out HB.out) | (with_reducible refine Kd.C_alloc ?_ _) | (with_reducible refine Kd.C_drewN ?_ _) | (with_reducible refine Kd.C_drew ?_))); (case side2 => exact HC0_0.out); (case side3 => repeat (first | exact (Kd.C_below HR0_1.out HB.out) | (with_reducible refine Kd.C_alloc ?_ _) | (with_reducible refine Kd.C_drewN ?_ _) | (with_reducible refine Kd.C_drew ?_))); (case side4 => exact HC0_1.out); rintro e w37 ⟨rfl, hb⟩; refine ⟨_, rfl, ?_⟩; have n0_ := Aside0.mk (blk_below (g := gb198) (o := .cells #[.slice A0_0 l0_0.length c0_0, .slice A0_1 l0_1.length c0_1] 25 (0, 0)) (by (with_reducible repeat (first | refine blk_drewN ?_ _ | refine blk_drew ?_ | refine blk_alloc ?_ _)); exact BK198.out) hb); have n1_ := Aside0.mk (blk_below (g := gb199) (o := .cells #[.slice A1_0 l1_0.length c1_0, .slice A1_1 l1_1.length c1_1] 25 (0, 0)) (by (with_reducible repeat (first | refine blk_drewN ?_ _ | refine blk_drew ?_ | refine blk_alloc ?_ _)); exact BK199.out) hb); have n2_ := Aside0.mk (below_step (by repeat (first | (with_reducible first | exact HB.out | apply below_alloc | apply pw_below_drewN | apply below_drew1 | refine below_set ?_ GE198.out | refine below_set ?_ GE199.out) | exact HB.out)) hb); clear BK198; clear BK199; clear HB; have BK198 := n0_; have BK199 := n1_; have HB := n2_; clear n0_ n1_ n2_; (try clear hb); (try clear hb2); (try clear hk); (try clear hi); refine hK.out _ _ ⟨(blk_cell BK198.out 0).trans rfl, (blk_cell BK198.out 1).trans rfl, (blk_cell BK199.out 0).trans rfl, (blk_cell BK199.out 1).trans rfl⟩ (fun hHeld => ?_); clear hK K; refine norm_ (a' := ?_) ?_ ?_; rotate_left; (· show Act.put _ (some 13) _ = _; simp only [Act.put, List.setIfInBounds_toArray, List.set_cons_zero, List.set_cons_succ, i64_w, i32_w]; rfl); refine one_ (i := 3) (N := some 15) #[true, true, true, true, false, false, false, false, false, false, false, false, false, false, false, false, false, false, false, false, false, false, false] rfl rfl (one_of HT_.out (by kernel_rfl)) (by decide) (fun K hK => ?_); refine goes_ Try.func16 (by kernel_rfl) rfl #[.agg #[.slice A0_0 l0_0.length c0_0, .slice A0_1 l0_1.length c0_1]] (by rfl) rfl rfl (by (try simp only [List.map_toArray, List.map_cons, List.map_nil]); first | done | rfl | (simp only [List.length_drop, List.length_take]; rfl)) ?_; (with_reducible refine (incunableref24_Valid.calls kj2 _ _ l0_0 _ _ l0_1 t204 _ ?side1 ?side2 ?side3 ?side4 A21.out).mono ?_); (case side1 => repeat (first | exact (Kd.C_below HR0_0.out HB.out) | (with_reducible refine Kd.C_alloc ?_ _) | (with_reducible refine Kd.C_drewN ?_ _) | (with_reducible refine Kd.C_drew ?_))); (case side2 => exact HC0_0.out); (case side3 => repeat (first | exact (Kd.C_below HR0_1.out HB.out) | (with_reducible refine Kd.C_alloc ?_ _) | (with_reducible refine Kd.C_drewN ?_ _) | (with_reducible refine Kd.C_drew ?_))); (case side4 => exact HC0_1.out); rintro e w38 ⟨rfl, hb⟩; refine ⟨_, rfl, ?_⟩; have n0_ := Aside0.mk (blk_below (g := gb198) (o := .cells #[.slice A0_0 l0_0.length c0_0, .slice A0_1 l0_1.length c0_1] 25 (0, 0)) (by (with_reducible repeat (first | refine blk_drewN ?_ _ | refine blk_drew ?_ | refine blk_alloc ?_ _)); exact BK198.out) hb); have n1_ := Aside0.mk (blk_below (g := gb199) (o := .cells #[.slice A1_0 l1_0.length c1_0, .slice A1_1 l1_1.length c1_1] 25 (0, 0)) (by (with_reducible repeat (first | refine blk_drewN ?_ _ | refine blk_drew ?_ | refine blk_alloc ?_ _)); exact BK199.out) hb); have n2_ := Aside0.mk (below_step (by repeat (first | (with_reducible first | exact HB.out | apply below_alloc | apply pw_below_drewN | apply below_drew1 | refine below_set ?_ GE198.out | refine below_set ?_ GE199.out) | exact HB.out)) hb); clear BK198; clear BK199; clear HB; have BK198 := n0_; have BK199 := n1_; have HB := n2_; clear n0_ n1_ n2_; (try clear hb); (try clear hb2); (try clear hk); (try clear hi); refine hK.out _ _ ⟨(blk_cell BK198.out 0).trans rfl, (blk_cell BK198.out 1).trans rfl, (blk_cell BK199.out 0).trans rfl, (blk_cell BK199.out 1).trans rfl⟩ (fun hHeld => ?_); clear hK K; refine norm_ (a' := ?_) ?_ ?_; rotate_left; (· show Act.put _ (some 15) _ = _; simp only [Act.put, List.setIfInBounds_toArray, List.set_cons_zero, List.set_cons_succ, i64_w, i32_w]; rfl); refine pure_ (i := 4) (N := some 16) (v := ?_) (a' := ?_) #[true, true, true, true, true, false, false, false, false, false, false, false, false, false, false, false, false, false, false, false, false, false, false] rfl rfl (any_of HT_.out (by kernel_rfl)) (fun _ _ _ h => h) (Or.inl ⟨by rfl, ?_⟩) ?_ ?_; rotate_left; (· intro w'; go_simp; (with_reducible rfl)); rotate_left; (· simp only [Act.put, List.setIfInBounds_toArray, List.set_cons_zero, List.set_cons_succ, i64_w, i32_w]; rfl); refine pure_ (i := 5) (N := some 17) (v := ?_) (a' := ?_) #[true, true, true, true, true, true, false, false, false, false, false, false, false, false, false, false, false, false, false, false, false, false, false] rfl rfl (any_of HT_.out (by kernel_rfl)) (fun _ _ _ h => h) (Or.inl ⟨by rfl, ?_⟩) ?_ ?_; rotate_left; (· intro w'; go_simp; (with_reducible rfl)); rotate_left; (· simp only [Act.put, List.setIfInBounds_toArray, List.set_cons_zero, List.set_cons_succ, i64_w, i32_w]; rfl); refine take_ (i := 6) (N := some 18) (v := ?_) (a' := ?_) #[true, true, true, true, true, true, true, false, false, false, false, false, false, false, false, false, false, false, false, false, false, false, false] rfl rfl (take_ofW HT_.out HW_.out (by kernel_rfl)) (fun _ _ _ h => h) (Or.inl ⟨by rfl, ?_⟩) hHeld ?_ ?_; rotate_left; (· rintro w' ⟨s0, s1, s2, s3⟩; go_simp; (with_reducible rfl)); rotate_left; (· simp only [Act.put, List.setIfInBounds_toArray, List.set_cons_zero, List.set_cons_succ, i64_w, i32_w]; rfl); refine take_ (i := 7) (N := some 19) (v := ?_) (a' := ?_) #[true, true, true, true, true, true, true, true, false, false, false, false, false, false, false, false, false, false, false, false, false, false, false] rfl rfl (take_ofW HT_.out HW_.out (by kernel_rfl)) (fun _ _ _ h => h) (Or.inl ⟨by rfl, ?_⟩) hHeld ?_ ?_; rotate_left; (· rintro w' ⟨s0, s1, s2, s3⟩; go_simp; (with_reducible rfl)); rotate_left; (· simp only [Act.put, List.setIfInBounds_toArray, List.set_cons_zero, List.set_cons_succ, i64_w, i32_w]; rfl); refine take_ (i := 9) (N := some 21) (v := ?_) (a' := ?_) #[true, true, true, true, true, true, true, true, false, true, false, false, false, false, false, false, false, false, false, false, false, false, false] rfl rfl (take_ofW HT_.out HW_.out (by kernel_rfl)) (fun _ _ _ h => h) (Or.inl ⟨by rfl, ?_⟩) hHeld ?_ ?_; rotate_left; (· rintro w' ⟨s0, s1, s2, s3⟩; go_simp; (with_reducible rfl)); rotate_left; (· simp only [Act.put, List.setIfInBounds_toArray, List.set_cons_zero, List.set_cons_succ, i64_w, i32_w]; rfl); refine take_ (i := 10) (N := some 22) (v := ?_) (a' := ?_) #[true, true, true, true, true, true, true, true, false, true, true, false, false, false, false, false, false, false, false, false, false, false, false] rfl rfl (take_ofW HT_.out HW_.out (by kernel_rfl)) (fun _ _ _ h => h) (Or.inl ⟨by rfl, ?_⟩) hHeld ?_ ?_; rotate_left; (· rintro w' ⟨s0, s1, s2, s3⟩; go_simp; (with_reducible rfl)); rotate_left; (· simp only [Act.put, List.setIfInBounds_toArray, List.set_cons_zero, List.set_cons_succ, i64_w, i32_w]; rfl); refine one_ (i := 8) (N := some 20) #[true, true, true, true, true, true, true, true, true, true, true, false, false, false, false, false, false, false, false, false, false, false, false] rfl rfl (one_of HT_.out (by kernel_rfl)) (by decide) (fun K hK => ?_); refine goes_ Try.func17 (by kernel_rfl) rfl #[.agg #[.slice A0_0 l0_0.length c0_0, .slice A0_1 l0_1.length c0_1], .agg #[.slice A1_0 l1_0.length c1_0, .slice A1_1 l1_1.length c1_1]] (by rfl) rfl rfl (by (try simp only [List.map_toArray, List.map_cons, List.map_nil]); first | done | rfl | (simp only [List.length_drop, List.length_take]; rfl)) ?_; (with_reducible refine (zone_Same.calls _ _ l0_0 _ _ l0_1 _ _ l1_0 _ _ l1_1 t205 _ ?side1 ?side2 ?side3 ?side4 ?side5 ?side6 ?side7 ?side8 A23.out).mono ?_); (case side1 => repeat (first | exact (Kd.C_below HR0_0.out HB.out) | (with_reducible refine Kd.C_alloc ?_ _) | (with_reducible refine Kd.C_drewN ?_ _) | (with_reducible refine Kd.C_drew ?_))); (case side2 => exact HC0_0.out); (case side3 => repeat (first | exact (Kd.C_below HR0_1.out HB.out) | (with_reducible refine Kd.C_alloc ?_ _) | (with_reducible refine Kd.C_drewN ?_ _) | (with_reducible refine Kd.C_drew ?_))); (case side4 => exact HC0_1.out); (case side5 => repeat (first | exact (Kd.C_below HR1_0.out HB.out) | (with_reducible refine Kd.C_alloc ?_ _) | (with_reducible refine Kd.C_drewN ?_ _) | (with_reducible refine Kd.C_drew ?_))); (case side6 => exact HC1_0.out); (case side7 => repeat (first | exact (Kd.C_below HR1_1.out HB.out) | (with_reducible refine Kd.C_alloc ?_ _) | (with_reducible refine Kd.C_drewN ?_ _) | (with_reducible refine Kd.C_drew ?_))); (case side8 => exact HC1_1.out); rintro e w39 ⟨rfl, hb⟩; refine ⟨_, rfl, ?_⟩; have n0_ := Aside0.mk (blk_below (g := gb198) (o := .cells #[.slice A0_0 l0_0.length c0_0, .slice A0_1 l0_1.length c0_1] 25 (0, 0)) (by (with_reducible repeat (first | refine blk_drewN ?_ _ | refine blk_drew ?_ | refine blk_alloc ?_ _)); exact BK198.out) hb); have n1_ := Aside0.mk (blk_below (g := gb199) (o := .cells #[.slice A1_0 l1_0.length c1_0, .slice A1_1 l1_1.length c1_1] 25 (0, 0)) (by (with_reducible repeat (first | refine blk_drewN ?_ _ | refine blk_drew ?_ | refine blk_alloc ?_ _)); exact BK199.out) hb); have n2_ := Aside0.mk (below_step (by repeat (first | (with_reducible first | exact HB.out | apply below_alloc | apply pw_below_drewN | apply below_drew1 | refine below_set ?_ GE198.out | refine below_set ?_ GE199.out) | exact HB.out)) hb); clear BK198; clear BK199; clear HB; have BK198 := n0_; have BK199 := n1_; have HB := n2_; clear n0_ n1_ n2_; (try clear hb); (try clear hb2); (try clear hk); (try clear hi); refine hK.out _ _ ⟨(blk_cell BK198.out 0).trans rfl, (blk_cell BK198.out 1).trans rfl, (blk_cell BK199.out 0).trans rfl, (blk_cell BK199.out 1).trans rfl⟩ (fun hHeld => ?_); clear hK K; refine norm_ (a' := ?_) ?_ ?_; rotate_left; (· show Act.put _ (some 20) _ = _; simp only [Act.put, List.setIfInBounds_toArray, List.set_cons_zero, List.set_cons_succ, i64_w, i32_w]; rfl); refine one_ (i := 11) (N := some 23) #[true, true, true, true, true, true, true, true, true, true, true, true, false, false, false, false, false, false, false, false, false, false, false] rfl rfl (one_of HT_.out (by kernel_rfl)) (by decide) (fun K hK => ?_); refine goes_ Try.func18 (by kernel_rfl) rfl #[.agg #[.slice A0_0 l0_0.length c0_0, .slice A0_1 l0_1.length c0_1], .agg #[.slice A1_0 l1_0.length c1_0, .slice A1_1 l1_1.length c1_1]] (by rfl) rfl rfl (by (try simp only [List.map_toArray, List.map_cons, List.map_nil]); first | done | rfl | (simp only [List.length_drop, List.length_take]; rfl)) ?_; (with_reducible refine (incunableref24_Same.calls _ _ l0_0 _ _ l0_1 _ _ l1_0 _ _ l1_1 t206 _ ?side1 ?side2 ?side3 ?side4 ?side5 ?side6 ?side7 ?side8 A24.out).mono ?_); (case side1 => repeat (first | exact (Kd.C_below HR0_0.out HB.out) | (with_reducible refine Kd.C_alloc ?_ _) | (with_reducible refine Kd.C_drewN ?_ _) | (with_reducible refine Kd.C_drew ?_))); (case side2 => exact HC0_0.out); (case side3 => repeat (first | exact (Kd.C_below HR0_1.out HB.out) | (with_reducible refine Kd.C_alloc ?_ _) | (with_reducible refine Kd.C_drewN ?_ _) | (with_reducible refine Kd.C_drew ?_))); (case side4 => exact HC0_1.out); (case side5 => repeat (first | exact (Kd.C_below HR1_0.out HB.out) | (with_reducible refine Kd.C_alloc ?_ _) | (with_reducible refine Kd.C_drewN ?_ _) | (with_reducible refine Kd.C_drew ?_))); (case side6 => exact HC1_0.out); (case side7 => repeat (first | exact (Kd.C_below HR1_1.out HB.out) | (with_reducible refine Kd.C_alloc ?_ _) | (with_reducible refine Kd.C_drewN ?_ _) | (with_reducible refine Kd.C_drew ?_))); (case side8 => exact HC1_1.out); rintro e w40 ⟨rfl, hb⟩; refine ⟨_, rfl, ?_⟩; have n0_ := Aside0.mk (blk_below (g := gb198) (o := .cells #[.slice A0_0 l0_0.length c0_0, .slice A0_1 l0_1.length c0_1] 25 (0, 0)) (by (with_reducible repeat (first | refine blk_drewN ?_ _ | refine blk_drew ?_ | refine blk_alloc ?_ _)); exact BK198.out) hb); have n1_ := Aside0.mk (blk_below (g := gb199) (o := .cells #[.slice A1_0 l1_0.length c1_0, .slice A1_1 l1_1.length c1_1] 25 (0, 0)) (by (with_reducible repeat (first | refine blk_drewN ?_ _ | refine blk_drew ?_ | refine blk_alloc ?_ _)); exact BK199.out) hb); have n2_ := Aside0.mk (below_step (by repeat (first | (with_reducible first | exact HB.out | apply below_alloc | apply pw_below_drewN | apply below_drew1 | refine below_set ?_ GE198.out | refine below_set ?_ GE199.out) | exact HB.out)) hb); clear BK198; clear BK199; clear HB; have BK198 := n0_; have BK199 := n1_; have HB := n2_; clear n0_ n1_ n2_; (try clear hb); (try clear hb2); (try clear hk); (try clear hi); refine hK.out _ _ ⟨(blk_cell BK198.out 0).trans rfl, (blk_cell BK198.out 1).trans rfl, (blk_cell BK199.out 0).trans rfl, (blk_cell BK199.out 1).trans rfl⟩ (fun hHeld => ?_); clear hK K; refine norm_ (a' := ?_) ?_ ?_; rotate_left; (· show Act.put _ (some 23) _ = _; simp only [Act.put, List.setIfInBounds_toArray, List.set_cons_zero, List.set_cons_succ, i64_w, i32_w]; rfl); refine pure_ (i := 12) (N := some 24) (v := ?_) (a' := ?_) #[true, true, true, true, true, true, true, true, true, true, true, true, true, false, false, false, false, false, false, false, false, false, false] rfl rfl (any_of HT_.out (by kernel_rfl)) (fun _ _ _ h => h) (Or.inl ⟨by rfl, ?_⟩) ?_ ?_; rotate_left; (· intro w'; go_simp; (with_reducible rfl)); rotate_left; (· simp only [Act.put, List.setIfInBounds_toArray, List.set_cons_zero, List.set_cons_succ, i64_w, i32_w]; rfl); refine pure_ (i := 13) (N := some 25) (v := ?_) (a' := ?_) #[true, true, true, true, true, true, true, true, true, true, true, true, true, true, false, false, false, false, false, false, false, false, false] rfl rfl (any_of HT_.out (by kernel_rfl)) (fun _ _ _ h => h) (Or.inl ⟨by rfl, ?_⟩) ?_ ?_; rotate_left; (· intro w'; go_simp; (with_reducible rfl)); rotate_left; (· simp only [Act.put, List.setIfInBounds_toArray, List.set_cons_zero, List.set_cons_succ, i64_w, i32_w]; rfl); refine pure_ (i := 14) (N := some 26) (v := ?_) (a' := ?_) #[true, true, true, true, true, true, true, true, true, true, true, true, true, true, true, false, false, false, false, false, false, false, false] rfl rfl (any_of HT_.out (by kernel_rfl)) (fun _ _ _ h => h) (Or.inl ⟨by rfl, ?_⟩) ?_ ?_; rotate_left; (· intro w'; go_simp; (with_reducible rfl)); rotate_left; (· simp only [Act.put, List.setIfInBounds_toArray, List.set_cons_zero, List.set_cons_succ, i64_w, i32_w]; rfl); refine take_ (i := 15) (N := some 27) (v := ?_) (a' := ?_) #[true, true, true, true, true, true, true, true, true, true, true, true, true, true, true, true, false, false, false, false, false, false, false] rfl rfl (take_ofW HT_.out HW_.out (by kernel_rfl)) (fun _ _ _ h => h) (Or.inl ⟨by rfl, ?_⟩) hHeld ?_ ?_; rotate_left; (· rintro w' ⟨s0, s1, s2, s3⟩; go_simp; (with_reducible rfl)); rotate_left; (· simp only [Act.put, List.setIfInBounds_toArray, List.set_cons_zero, List.set_cons_succ, i64_w, i32_w]; rfl); refine take_ (i := 16) (N := some 28) (v := ?_) (a' := ?_) #[true, true, true, true, true, true, true, true, true, true, true, true, true, true, true, true, true, false, false, false, false, false, false] rfl rfl (take_ofW HT_.out HW_.out (by kernel_rfl)) (fun _ _ _ h => h) (Or.inl ⟨by rfl, ?_⟩) hHeld ?_ ?_; rotate_left; (· rintro w' ⟨s0, s1, s2, s3⟩; go_simp; (with_reducible rfl)); rotate_left; (· simp only [Act.put, List.setIfInBounds_toArray, List.set_cons_zero, List.set_cons_succ, i64_w, i32_w]; rfl); refine one_ (i := 17) (N := some 29) #[true, true, true, true, true, true, true, true, true, true, true, true, true, true, true, true, true, true, false, false, false, false, false] rfl rfl (one_of HT_.out (by kernel_rfl)) (by decide) (fun K hK => ?_); refine goes_ Try.func17 (by kernel_rfl) rfl #[.agg #[.slice A0_0 l0_0.length c0_0, .slice A0_1 l0_1.length c0_1], .agg #[.slice A0_0 l0_0.length c0_0, .slice A0_1 l0_1.length c0_1]] (by rfl) rfl rfl (by (try simp only [List.map_toArray, List.map_cons, List.map_nil]); first | done | rfl | (simp only [List.length_drop, List.length_take]; rfl)) ?_; (with_reducible refine (zone_Same.calls _ _ l0_0 _ _ l0_1 _ _ l0_0 _ _ l0_1 false _ ?side1 ?side2 ?side3 ?side4 ?side5 ?side6 ?side7 ?side8 A26.out).mono ?_); (case side1 => repeat (first | exact (Kd.C_below HR0_0.out HB.out) | (with_reducible refine Kd.C_alloc ?_ _) | (with_reducible refine Kd.C_drewN ?_ _) | (with_reducible refine Kd.C_drew ?_))); (case side2 => exact HC0_0.out); (case side3 => repeat (first | exact (Kd.C_below HR0_1.out HB.out) | (with_reducible refine Kd.C_alloc ?_ _) | (with_reducible refine Kd.C_drewN ?_ _) | (with_reducible refine Kd.C_drew ?_))); (case side4 => exact HC0_1.out); (case side5 => repeat (first | exact (Kd.C_below HR0_0.out HB.out) | (with_reducible refine Kd.C_alloc ?_ _) | (with_reducible refine Kd.C_drewN ?_ _) | (with_reducible refine Kd.C_drew ?_))); (case side6 => exact HC0_0.out); (case side7 => repeat (first | exact (Kd.C_below HR0_1.out HB.out) | (with_reducible refine Kd.C_alloc ?_ _) | (with_reducible refine Kd.C_drewN ?_ _) | (with_reducible refine Kd.C_drew ?_))); (case side8 => exact HC0_1.out); rintro e w41 ⟨rfl, hb⟩; refine ⟨_, rfl, ?_⟩; have n0_ := Aside0.mk (blk_below (g := gb198) (o := .cells #[.slice A0_0 l0_0.length c0_0, .slice A0_1 l0_1.length c0_1] 25 (0, 0)) (by (with_reducible repeat (first | refine blk_drewN ?_ _ | refine blk_drew ?_ | refine blk_alloc ?_ _)); exact BK198.out) hb); have n1_ := Aside0.mk (blk_below (g := gb199) (o := .cells #[.slice A1_0 l1_0.length c1_0, .slice A1_1 l1_1.length c1_1] 25 (0, 0)) (by (with_reducible repeat (first | refine blk_drewN ?_ _ | refine blk_drew ?_ | refine blk_alloc ?_ _)); exact BK199.out) hb); have n2_ := Aside0.mk (below_step (by repeat (first | (with_reducible first | exact HB.out | apply below_alloc | apply pw_below_drewN | apply below_drew1 | refine below_set ?_ GE198.out | refine below_set ?_ GE199.out) | exact HB.out)) hb); clear BK198; clear BK199; clear HB; have BK198 := n0_; have BK199 := n1_; have HB := n2_; clear n0_ n1_ n2_; (try clear hb); (try clear hb2); (try clear hk); (try clear hi); refine hK.out _ _ ⟨(blk_cell BK198.out 0).trans rfl, (blk_cell BK198.out 1).trans rfl, (blk_cell BK199.out 0).trans rfl, (blk_cell BK199.out 1).trans rfl⟩ (fun hHeld => ?_); clear hK K; refine norm_ (a' := ?_) ?_ ?_; rotate_left; (· show Act.put _ (some 29) _ = _; simp only [Act.put, List.setIfInBounds_toArray, List.set_cons_zero, List.set_cons_succ, i64_w, i32_w]; rfl); refine pure_ (i := 18) (N := some 30) (v := ?_) (a' := ?_) #[true, true, true, true, true, true, true, true, true, true, true, true, true, true, true, true, true, true, true, false, false, false, false] rfl rfl (any_of HT_.out (by kernel_rfl)) (fun _ _ _ h => h) (Or.inl ⟨by rfl, ?_⟩) ?_ ?_; rotate_left; (· intro w'; go_simp; (with_reducible rfl)); rotate_left; (· simp only [Act.put, List.setIfInBounds_toArray, List.set_cons_zero, List.set_cons_succ, i64_w, i32_w]; rfl); refine pure_ (i := 19) (N := some 31) (v := ?_) (a' := ?_) #[true, true, true, true, true, true, true, true, true, true, true, true, true, true, true, true, true, true, true, true, false, false, false] rfl rfl (any_of HT_.out (by kernel_rfl)) (fun _ _ _ h => h) (Or.inl ⟨by rfl, ?_⟩) ?_ ?_; rotate_left; (· intro w'; go_simp; (with_reducible rfl)); rotate_left; (· simp only [Act.put, List.setIfInBounds_toArray, List.set_cons_zero, List.set_cons_succ, i64_w, i32_w]; rfl); refine pure_ (i := 20) (N := some 32) (v := undef) (a' := ?_) #[true, true, true, true, true, true, true, true, true, true, true, true, true, true, true, true, true, true, true, true, true, false, false] rfl rfl (any_of HT_.out (by kernel_rfl)) (fun _ _ _ h => h) (Or.inr ⟨by rfl, rfl⟩) ?_ ?_; rotate_left; (· simp only [Act.put, List.setIfInBounds_toArray, List.set_cons_zero, List.set_cons_succ, i64_w, i32_w]; rfl); refine pure_ (i := 21) (N := some 33) (v := ?_) (a' := ?_) #[true, true, true, true, true, true, true, true, true, true, true, true, true, true, true, true, true, true, true, true, true, true, false] rfl rfl (any_of HT_.out (by kernel_rfl)) (fun _ _ _ h => h) (Or.inl ⟨by rfl, ?_⟩) ?_ ?_; rotate_left; (· intro w'; go_simp; (with_reducible rfl)); rotate_left; (· simp only [Act.put, List.setIfInBounds_toArray, List.set_cons_zero, List.set_cons_succ, i64_w, i32_w]; rfl); refine pure_ (i := 22) (N := some 4) (v := ?_) (a' := ?_) #[true, true, true, true, true, true, true, true, true, true, true, true, true, true, true, true, true, true, true, true, true, true, true] rfl rfl (any_of HT_.out (by kernel_rfl)) (fun _ _ _ h => h) (Or.inl ⟨by rfl, ?_⟩) ?_ ?_; rotate_left; (· intro w'; go_simp; (with_reducible rfl)); rotate_left; (· simp only [Act.put, List.setIfInBounds_toArray, List.set_cons_zero, List.set_cons_succ, i64_w, i32_w]; rfl); refine done_ (done_of HT_.out (by kernel_rfl)) ?_; (try go_wp2); go_ret; (exact ⟨by first | rfl | (simp [errW_none, errW_some] <;> rfl) | (simp [*, errW_none, errW_some] <;> rfl), by repeat (first | (with_reducible first | exact HB.out | apply below_alloc | apply pw_below_drewN | apply below_drew1 | refine below_set ?_ GE198.out | refine below_set ?_ GE199.out) | exact HB.out)⟩))); (· rw [if_neg c25] at H; (have c25b0 : (t205 == t206) = false := by simpa using c25); (try (have c25b1 : decide (t205 = t206) = false := by simpa using c25)); (try (have c25b2 : (t205 == t206) = false := by simpa using c25)); (try (have c25b3 : ¬ (t205 = t206) := by simpa using c25)); clear c25; obtain rfl := Option.some.inj H; (try go_wp2); have n0_ := Aside0.mk (blk_drew BK198.out); have n1_ := Aside0.mk (blk_drew BK199.out); have n2_ := Aside0.mk (below_drew1 HB.out); clear BK198; clear BK199; clear HB; have BK198 := n0_; have BK199 := n1_; have HB := n2_; clear n0_ n1_ n2_; refine start_ (n := 23) (S := fun w' => w'.cell? ⟨gb198, 0, none⟩ = some (.slice A0_0 l0_0.length c0_0) ∧ w'.cell? ⟨gb198, 1, none⟩ = some (.slice A0_1 l0_1.length c0_1) ∧ w'.cell? ⟨gb199, 0, none⟩ = some (.slice A1_0 l1_0.length c1_0) ∧ w'.cell? ⟨gb199, 1, none⟩ = some (.slice A1_1 l1_1.length c1_1)) (ds := []) #[false, false, false, false, false, false, false, false, false, false, false, false, false, false, false, false, false, false, false, false, false, false, false] (by kernel_rfl) rfl rfl ⟨(blk_cell BK198.out 0).trans rfl, (blk_cell BK198.out 1).trans rfl, (blk_cell BK199.out 0).trans rfl, (blk_cell BK199.out 1).trans rfl⟩ (fun hHeld => ?_); refine with_tabW incunablelaw24_ZoneRight.tab3 incunablelaw24_ZoneRight.bits3 (fun HT_ HW_ => ?_); generalize wc.drew = w42 at BK198 BK199 HB hHeld ⊢; refine take_ (i := 0) (N := some 12) (v := ?_) (a' := ?_) #[true, false, false, false, false, false, false, false, false, false, false, false, false, false, false, false, false, false, false, false, false, false, false] rfl rfl (take_ofW HT_.out HW_.out (by kernel_rfl)) (fun _ _ _ h => h) (Or.inl ⟨by rfl, ?_⟩) hHeld ?_ ?_; rotate_left; (· rintro w' ⟨s0, s1, s2, s3⟩; go_simp; (with_reducible rfl)); rotate_left; (· simp only [Act.put, List.setIfInBounds_toArray, List.set_cons_zero, List.set_cons_succ, i64_w, i32_w]; rfl); refine take_ (i := 2) (N := some 14) (v := ?_) (a' := ?_) #[true, false, true, false, false, false, false, false, false, false, false, false, false, false, false, false, false, false, false, false, false, false, false] rfl rfl (take_ofW HT_.out HW_.out (by kernel_rfl)) (fun _ _ _ h => h) (Or.inl ⟨by rfl, ?_⟩) hHeld ?_ ?_; rotate_left; (· rintro w' ⟨s0, s1, s2, s3⟩; go_simp; (with_reducible rfl)); rotate_left; (· simp only [Act.put, List.setIfInBounds_toArray, List.set_cons_zero, List.set_cons_succ, i64_w, i32_w]; rfl); refine one_ (i := 1) (N := some 13) #[true, true, true, false, false, false, false, false, false, false, false, false, false, false, false, false, false, false, false, false, false, false, false] rfl rfl (one_of HT_.out (by kernel_rfl)) (by decide) (fun K hK => ?_); refine goes_ Try.func15 (by kernel_rfl) rfl #[.agg #[.slice A0_0 l0_0.length c0_0, .slice A0_1 l0_1.length c0_1]] (by rfl) rfl rfl (by (try simp only [List.map_toArray, List.map_cons, List.map_nil]); first | done | rfl | (simp only [List.length_drop, List.length_take]; rfl)) ?_; (with_reducible refine (zone_Valid.calls _ _ l0_0 _ _ l0_1 t203 _ ?side1 ?side2 ?side3 ?side4 A20.out).mono ?_); (case side1 => repeat (first | exact (Kd.C_below HR0_0.out HB.out) | (with_reducible refine Kd.C_alloc ?_ _) | (with_reducible refine Kd.C_drewN ?_ _) | (with_reducible refine Kd.C_drew ?_))); (case side2 => exact HC0_0.out); (case side3 => repeat (first | exact (Kd.C_below HR0_1.out HB.out) | (with_reducible refine Kd.C_alloc ?_ _) | (with_reducible refine Kd.C_drewN ?_ _) | (with_reducible refine Kd.C_drew ?_))); (case side4 => exact HC0_1.out); rintro e w43 ⟨rfl, hb⟩; refine ⟨_, rfl, ?_⟩; have n0_ := Aside0.mk (blk_below (g := gb198) (o := .cells #[.slice A0_0 l0_0.length c0_0, .slice A0_1 l0_1.length c0_1] 25 (0, 0)) (by (with_reducible repeat (first | refine blk_drewN ?_ _ | refine blk_drew ?_ | refine blk_alloc ?_ _)); exact BK198.out) hb); have n1_ := Aside0.mk (blk_below (g := gb199) (o := .cells #[.slice A1_0 l1_0.length c1_0, .slice A1_1 l1_1.length c1_1] 25 (0, 0)) (by (with_reducible repeat (first | refine blk_drewN ?_ _ | refine blk_drew ?_ | refine blk_alloc ?_ _)); exact BK199.out) hb); have n2_ := Aside0.mk (below_step (by repeat (first | (with_reducible first | exact HB.out | apply below_alloc | apply pw_below_drewN | apply below_drew1 | refine below_set ?_ GE198.out | refine below_set ?_ GE199.out) | exact HB.out)) hb); clear BK198; clear BK199; clear HB; have BK198 := n0_; have BK199 := n1_; have HB := n2_; clear n0_ n1_ n2_; (try clear hb); (try clear hb2); (try clear hk); (try clear hi); refine hK.out _ _ ⟨(blk_cell BK198.out 0).trans rfl, (blk_cell BK198.out 1).trans rfl, (blk_cell BK199.out 0).trans rfl, (blk_cell BK199.out 1).trans rfl⟩ (fun hHeld => ?_); clear hK K; refine norm_ (a' := ?_) ?_ ?_; rotate_left; (· show Act.put _ (some 13) _ = _; simp only [Act.put, List.setIfInBounds_toArray, List.set_cons_zero, List.set_cons_succ, i64_w, i32_w]; rfl); refine one_ (i := 3) (N := some 15) #[true, true, true, true, false, false, false, false, false, false, false, false, false, false, false, false, false, false, false, false, false, false, false] rfl rfl (one_of HT_.out (by kernel_rfl)) (by decide) (fun K hK => ?_); refine goes_ Try.func16 (by kernel_rfl) rfl #[.agg #[.slice A0_0 l0_0.length c0_0, .slice A0_1 l0_1.length c0_1]] (by rfl) rfl rfl (by (try simp only [List.map_toArray, List.map_cons, List.map_nil]); first | done | rfl | (simp only [List.length_drop, List.length_take]; rfl)) ?_; (with_reducible refine (incunableref24_Valid.calls kj2 _ _ l0_0 _ _ l0_1 t204 _ ?side1 ?side2 ?side3 ?side4 A21.out).mono ?_); (case side1 => repeat (first | exact (Kd.C_below HR0_0.out HB.out) | (with_reducible refine Kd.C_alloc ?_ _) | (with_reducible refine Kd.C_drewN ?_ _) | (with_reducible refine Kd.C_drew ?_))); (case side2 => exact HC0_0.out); (case side3 => repeat (first | exact (Kd.C_below HR0_1.out HB.out) | (with_reducible refine Kd.C_alloc ?_ _) | (with_reducible refine Kd.C_drewN ?_ _) | (with_reducible refine Kd.C_drew ?_))); (case side4 => exact HC0_1.out); rintro e w44 ⟨rfl, hb⟩; refine ⟨_, rfl, ?_⟩; have n0_ := Aside0.mk (blk_below (g := gb198) (o := .cells #[.slice A0_0 l0_0.length c0_0, .slice A0_1 l0_1.length c0_1] 25 (0, 0)) (by (with_reducible repeat (first | refine blk_drewN ?_ _ | refine blk_drew ?_ | refine blk_alloc ?_ _)); exact BK198.out) hb); have n1_ := Aside0.mk (blk_below (g := gb199) (o := .cells #[.slice A1_0 l1_0.length c1_0, .slice A1_1 l1_1.length c1_1] 25 (0, 0)) (by (with_reducible repeat (first | refine blk_drewN ?_ _ | refine blk_drew ?_ | refine blk_alloc ?_ _)); exact BK199.out) hb); have n2_ := Aside0.mk (below_step (by repeat (first | (with_reducible first | exact HB.out | apply below_alloc | apply pw_below_drewN | apply below_drew1 | refine below_set ?_ GE198.out | refine below_set ?_ GE199.out) | exact HB.out)) hb); clear BK198; clear BK199; clear HB; have BK198 := n0_; have BK199 := n1_; have HB := n2_; clear n0_ n1_ n2_; (try clear hb); (try clear hb2); (try clear hk); (try clear hi); refine hK.out _ _ ⟨(blk_cell BK198.out 0).trans rfl, (blk_cell BK198.out 1).trans rfl, (blk_cell BK199.out 0).trans rfl, (blk_cell BK199.out 1).trans rfl⟩ (fun hHeld => ?_); clear hK K; refine norm_ (a' := ?_) ?_ ?_; rotate_left; (· show Act.put _ (some 15) _ = _; simp only [Act.put, List.setIfInBounds_toArray, List.set_cons_zero, List.set_cons_succ, i64_w, i32_w]; rfl); refine pure_ (i := 4) (N := some 16) (v := ?_) (a' := ?_) #[true, true, true, true, true, false, false, false, false, false, false, false, false, false, false, false, false, false, false, false, false, false, false] rfl rfl (any_of HT_.out (by kernel_rfl)) (fun _ _ _ h => h) (Or.inl ⟨by rfl, ?_⟩) ?_ ?_; rotate_left; (· intro w'; go_simp; (with_reducible rfl)); rotate_left; (· simp only [Act.put, List.setIfInBounds_toArray, List.set_cons_zero, List.set_cons_succ, i64_w, i32_w]; rfl); refine pure_ (i := 5) (N := some 17) (v := ?_) (a' := ?_) #[true, true, true, true, true, true, false, false, false, false, false, false, false, false, false, false, false, false, false, false, false, false, false] rfl rfl (any_of HT_.out (by kernel_rfl)) (fun _ _ _ h => h) (Or.inl ⟨by rfl, ?_⟩) ?_ ?_; rotate_left; (· intro w'; go_simp; (with_reducible rfl)); rotate_left; (· simp only [Act.put, List.setIfInBounds_toArray, List.set_cons_zero, List.set_cons_succ, i64_w, i32_w]; rfl); refine take_ (i := 6) (N := some 18) (v := ?_) (a' := ?_) #[true, true, true, true, true, true, true, false, false, false, false, false, false, false, false, false, false, false, false, false, false, false, false] rfl rfl (take_ofW HT_.out HW_.out (by kernel_rfl)) (fun _ _ _ h => h) (Or.inl ⟨by rfl, ?_⟩) hHeld ?_ ?_; rotate_left; (· rintro w' ⟨s0, s1, s2, s3⟩; go_simp; (with_reducible rfl)); rotate_left; (· simp only [Act.put, List.setIfInBounds_toArray, List.set_cons_zero, List.set_cons_succ, i64_w, i32_w]; rfl); refine take_ (i := 7) (N := some 19) (v := ?_) (a' := ?_) #[true, true, true, true, true, true, true, true, false, false, false, false, false, false, false, false, false, false, false, false, false, false, false] rfl rfl (take_ofW HT_.out HW_.out (by kernel_rfl)) (fun _ _ _ h => h) (Or.inl ⟨by rfl, ?_⟩) hHeld ?_ ?_; rotate_left; (· rintro w' ⟨s0, s1, s2, s3⟩; go_simp; (with_reducible rfl)); rotate_left; (· simp only [Act.put, List.setIfInBounds_toArray, List.set_cons_zero, List.set_cons_succ, i64_w, i32_w]; rfl); refine take_ (i := 9) (N := some 21) (v := ?_) (a' := ?_) #[true, true, true, true, true, true, true, true, false, true, false, false, false, false, false, false, false, false, false, false, false, false, false] rfl rfl (take_ofW HT_.out HW_.out (by kernel_rfl)) (fun _ _ _ h => h) (Or.inl ⟨by rfl, ?_⟩) hHeld ?_ ?_; rotate_left; (· rintro w' ⟨s0, s1, s2, s3⟩; go_simp; (with_reducible rfl)); rotate_left; (· simp only [Act.put, List.setIfInBounds_toArray, List.set_cons_zero, List.set_cons_succ, i64_w, i32_w]; rfl); refine take_ (i := 10) (N := some 22) (v := ?_) (a' := ?_) #[true, true, true, true, true, true, true, true, false, true, true, false, false, false, false, false, false, false, false, false, false, false, false] rfl rfl (take_ofW HT_.out HW_.out (by kernel_rfl)) (fun _ _ _ h => h) (Or.inl ⟨by rfl, ?_⟩) hHeld ?_ ?_; rotate_left; (· rintro w' ⟨s0, s1, s2, s3⟩; go_simp; (with_reducible rfl)); rotate_left; (· simp only [Act.put, List.setIfInBounds_toArray, List.set_cons_zero, List.set_cons_succ, i64_w, i32_w]; rfl); refine one_ (i := 8) (N := some 20) #[true, true, true, true, true, true, true, true, true, true, true, false, false, false, false, false, false, false, false, false, false, false, false] rfl rfl (one_of HT_.out (by kernel_rfl)) (by decide) (fun K hK => ?_); refine goes_ Try.func17 (by kernel_rfl) rfl #[.agg #[.slice A0_0 l0_0.length c0_0, .slice A0_1 l0_1.length c0_1], .agg #[.slice A1_0 l1_0.length c1_0, .slice A1_1 l1_1.length c1_1]] (by rfl) rfl rfl (by (try simp only [List.map_toArray, List.map_cons, List.map_nil]); first | done | rfl | (simp only [List.length_drop, List.length_take]; rfl)) ?_; (with_reducible refine (zone_Same.calls _ _ l0_0 _ _ l0_1 _ _ l1_0 _ _ l1_1 t205 _ ?side1 ?side2 ?side3 ?side4 ?side5 ?side6 ?side7 ?side8 A23.out).mono ?_); (case side1 => repeat (first | exact (Kd.C_below HR0_0.out HB.out) | (with_reducible refine Kd.C_alloc ?_ _) | (with_reducible refine Kd.C_drewN ?_ _) | (with_reducible refine Kd.C_drew ?_))); (case side2 => exact HC0_0.out); (case side3 => repeat (first | exact (Kd.C_below HR0_1.out HB.out) | (with_reducible refine Kd.C_alloc ?_ _) | (with_reducible refine Kd.C_drewN ?_ _) | (with_reducible refine Kd.C_drew ?_))); (case side4 => exact HC0_1.out); (case side5 => repeat (first | exact (Kd.C_below HR1_0.out HB.out) | (with_reducible refine Kd.C_alloc ?_ _) | (with_reducible refine Kd.C_drewN ?_ _) | (with_reducible refine Kd.C_drew ?_))); (case side6 => exact HC1_0.out); (case side7 => repeat (first | exact (Kd.C_below HR1_1.out HB.out) | (with_reducible refine Kd.C_alloc ?_ _) | (with_reducible refine Kd.C_drewN ?_ _) | (with_reducible refine Kd.C_drew ?_))); (case side8 => exact HC1_1.out); rintro e w45 ⟨rfl, hb⟩; refine ⟨_, rfl, ?_⟩; have n0_ := Aside0.mk (blk_below (g := gb198) (o := .cells #[.slice A0_0 l0_0.length c0_0, .slice A0_1 l0_1.length c0_1] 25 (0, 0)) (by (with_reducible repeat (first | refine blk_drewN ?_ _ | refine blk_drew ?_ | refine blk_alloc ?_ _)); exact BK198.out) hb); have n1_ := Aside0.mk (blk_below (g := gb199) (o := .cells #[.slice A1_0 l1_0.length c1_0, .slice A1_1 l1_1.length c1_1] 25 (0, 0)) (by (with_reducible repeat (first | refine blk_drewN ?_ _ | refine blk_drew ?_ | refine blk_alloc ?_ _)); exact BK199.out) hb); have n2_ := Aside0.mk (below_step (by repeat (first | (with_reducible first | exact HB.out | apply below_alloc | apply pw_below_drewN | apply below_drew1 | refine below_set ?_ GE198.out | refine below_set ?_ GE199.out) | exact HB.out)) hb); clear BK198; clear BK199; clear HB; have BK198 := n0_; have BK199 := n1_; have HB := n2_; clear n0_ n1_ n2_; (try clear hb); (try clear hb2); (try clear hk); (try clear hi); refine hK.out _ _ ⟨(blk_cell BK198.out 0).trans rfl, (blk_cell BK198.out 1).trans rfl, (blk_cell BK199.out 0).trans rfl, (blk_cell BK199.out 1).trans rfl⟩ (fun hHeld => ?_); clear hK K; refine norm_ (a' := ?_) ?_ ?_; rotate_left; (· show Act.put _ (some 20) _ = _; simp only [Act.put, List.setIfInBounds_toArray, List.set_cons_zero, List.set_cons_succ, i64_w, i32_w]; rfl); refine one_ (i := 11) (N := some 23) #[true, true, true, true, true, true, true, true, true, true, true, true, false, false, false, false, false, false, false, false, false, false, false] rfl rfl (one_of HT_.out (by kernel_rfl)) (by decide) (fun K hK => ?_); refine goes_ Try.func18 (by kernel_rfl) rfl #[.agg #[.slice A0_0 l0_0.length c0_0, .slice A0_1 l0_1.length c0_1], .agg #[.slice A1_0 l1_0.length c1_0, .slice A1_1 l1_1.length c1_1]] (by rfl) rfl rfl (by (try simp only [List.map_toArray, List.map_cons, List.map_nil]); first | done | rfl | (simp only [List.length_drop, List.length_take]; rfl)) ?_; (with_reducible refine (incunableref24_Same.calls _ _ l0_0 _ _ l0_1 _ _ l1_0 _ _ l1_1 t206 _ ?side1 ?side2 ?side3 ?side4 ?side5 ?side6 ?side7 ?side8 A24.out).mono ?_); (case side1 => repeat (first | exact (Kd.C_below HR0_0.out HB.out) | (with_reducible refine Kd.C_alloc ?_ _) | (with_reducible refine Kd.C_drewN ?_ _) | (with_reducible refine Kd.C_drew ?_))); (case side2 => exact HC0_0.out); (case side3 => repeat (first | exact (Kd.C_below HR0_1.out HB.out) | (with_reducible refine Kd.C_alloc ?_ _) | (with_reducible refine Kd.C_drewN ?_ _) | (with_reducible refine Kd.C_drew ?_))); (case side4 => exact HC0_1.out); (case side5 => repeat (first | exact (Kd.C_below HR1_0.out HB.out) | (with_reducible refine Kd.C_alloc ?_ _) | (with_reducible refine Kd.C_drewN ?_ _) | (with_reducible refine Kd.C_drew ?_))); (case side6 => exact HC1_0.out); (case side7 => repeat (first | exact (Kd.C_below HR1_1.out HB.out) | (with_reducible refine Kd.C_alloc ?_ _) | (with_reducible refine Kd.C_drewN ?_ _) | (with_reducible refine Kd.C_drew ?_))); (case side8 => exact HC1_1.out); rintro e w46 ⟨rfl, hb⟩; refine ⟨_, rfl, ?_⟩; have n0_ := Aside0.mk (blk_below (g := gb198) (o := .cells #[.slice A0_0 l0_0.length c0_0, .slice A0_1 l0_1.length c0_1] 25 (0, 0)) (by (with_reducible repeat (first | refine blk_drewN ?_ _ | refine blk_drew ?_ | refine blk_alloc ?_ _)); exact BK198.out) hb); have n1_ := Aside0.mk (blk_below (g := gb199) (o := .cells #[.slice A1_0 l1_0.length c1_0, .slice A1_1 l1_1.length c1_1] 25 (0, 0)) (by (with_reducible repeat (first | refine blk_drewN ?_ _ | refine blk_drew ?_ | refine blk_alloc ?_ _)); exact BK199.out) hb); have n2_ := Aside0.mk (below_step (by repeat (first | (with_reducible first | exact HB.out | apply below_alloc | apply pw_below_drewN | apply below_drew1 | refine below_set ?_ GE198.out | refine below_set ?_ GE199.out) | exact HB.out)) hb); clear BK198; clear BK199; clear HB; have BK198 := n0_; have BK199 := n1_; have HB := n2_; clear n0_ n1_ n2_; (try clear hb); (try clear hb2); (try clear hk); (try clear hi); refine hK.out _ _ ⟨(blk_cell BK198.out 0).trans rfl, (blk_cell BK198.out 1).trans rfl, (blk_cell BK199.out 0).trans rfl, (blk_cell BK199.out 1).trans rfl⟩ (fun hHeld => ?_); clear hK K; refine norm_ (a' := ?_) ?_ ?_; rotate_left; (· show Act.put _ (some 23) _ = _; simp only [Act.put, List.setIfInBounds_toArray, List.set_cons_zero, List.set_cons_succ, i64_w, i32_w]; rfl); refine pure_ (i := 12) (N := some 24) (v := ?_) (a' := ?_) #[true, true, true, true, true, true, true, true, true, true, true, true, true, false, false, false, false, false, false, false, false, false, false] rfl rfl (any_of HT_.out (by kernel_rfl)) (fun _ _ _ h => h) (Or.inl ⟨by rfl, ?_⟩) ?_ ?_; rotate_left; (· intro w'; go_simp; (with_reducible rfl)); rotate_left; (· simp only [Act.put, List.setIfInBounds_toArray, List.set_cons_zero, List.set_cons_succ, i64_w, i32_w]; rfl); refine pure_ (i := 13) (N := some 25) (v := ?_) (a' := ?_) #[true, true, true, true, true, true, true, true, true, true, true, true, true, true, false, false, false, false, false, false, false, false, false] rfl rfl (any_of HT_.out (by kernel_rfl)) (fun _ _ _ h => h) (Or.inl ⟨by rfl, ?_⟩) ?_ ?_; rotate_left; (· intro w'; go_simp; (with_reducible rfl)); rotate_left; (· simp only [Act.put, List.setIfInBounds_toArray, List.set_cons_zero, List.set_cons_succ, i64_w, i32_w]; rfl); refine pure_ (i := 14) (N := some 26) (v := ?_) (a' := ?_) #[true, true, true, true, true, true, true, true, true, true, true, true, true, true, true, false, false, false, false, false, false, false, false] rfl rfl (any_of HT_.out (by kernel_rfl)) (fun _ _ _ h => h) (Or.inl ⟨by rfl, ?_⟩) ?_ ?_; rotate_left; (· intro w'; go_simp; (with_reducible rfl)); rotate_left; (· simp only [Act.put, List.setIfInBounds_toArray, List.set_cons_zero, List.set_cons_succ, i64_w, i32_w]; rfl); refine pure_ (i := 15) (N := some 27) (v := undef) (a' := ?_) #[true, true, true, true, true, true, true, true, true, true, true, true, true, true, true, true, false, false, false, false, false, false, false] rfl rfl (any_of HT_.out (by kernel_rfl)) (fun _ _ _ h => h) (Or.inr ⟨by rfl, rfl⟩) ?_ ?_; rotate_left; (· simp only [Act.put, List.setIfInBounds_toArray, List.set_cons_zero, List.set_cons_succ, i64_w, i32_w]; rfl); refine pure_ (i := 16) (N := some 28) (v := undef) (a' := ?_) #[true, true, true, true, true, true, true, true, true, true, true, true, true, true, true, true, true, false, false, false, false, false, false] rfl rfl (any_of HT_.out (by kernel_rfl)) (fun _ _ _ h => h) (Or.inr ⟨by rfl, rfl⟩) ?_ ?_; rotate_left; (· simp only [Act.put, List.setIfInBounds_toArray, List.set_cons_zero, List.set_cons_succ, i64_w, i32_w]; rfl); refine pure_ (i := 17) (N := some 29) (v := undef) (a' := ?_) #[true, true, true, true, true, true, true, true, true, true, true, true, true, true, true, true, true, true, false, false, false, false, false] rfl rfl (any_of HT_.out (by kernel_rfl)) (fun _ _ _ h => h) (Or.inr ⟨by rfl, rfl⟩) ?_ ?_; rotate_left; (· simp only [Act.put, List.setIfInBounds_toArray, List.set_cons_zero, List.set_cons_succ, i64_w, i32_w]; rfl); refine pure_ (i := 18) (N := some 30) (v := ?_) (a' := ?_) #[true, true, true, true, true, true, true, true, true, true, true, true, true, true, true, true, true, true, true, false, false, false, false] rfl rfl (any_of HT_.out (by kernel_rfl)) (fun _ _ _ h => h) (Or.inl ⟨by rfl, ?_⟩) ?_ ?_; rotate_left; (· intro w'; go_simp; (with_reducible rfl)); rotate_left; (· simp only [Act.put, List.setIfInBounds_toArray, List.set_cons_zero, List.set_cons_succ, i64_w, i32_w]; rfl); refine pure_ (i := 19) (N := some 31) (v := ?_) (a' := ?_) #[true, true, true, true, true, true, true, true, true, true, true, true, true, true, true, true, true, true, true, true, false, false, false] rfl rfl (any_of HT_.out (by kernel_rfl)) (fun _ _ _ h => h) (Or.inl ⟨by rfl, ?_⟩) ?_ ?_; rotate_left; (· intro w'; go_simp; (with_reducible rfl)); rotate_left; (· simp only [Act.put, List.setIfInBounds_toArray, List.set_cons_zero, List.set_cons_succ, i64_w, i32_w]; rfl); refine pure_ (i := 20) (N := some 32) (v := undef) (a' := ?_) #[true, true, true, true, true, true, true, true, true, true, true, true, true, true, true, true, true, true, true, true, true, false, false] rfl rfl (any_of HT_.out (by kernel_rfl)) (fun _ _ _ h => h) (Or.inr ⟨by rfl, rfl⟩) ?_ ?_; rotate_left; (· simp only [Act.put, List.setIfInBounds_toArray, List.set_cons_zero, List.set_cons_succ, i64_w, i32_w]; rfl); refine pure_ (i := 21) (N := some 33) (v := ?_) (a' := ?_) #[true, true, true, true, true, true, true, true, true, true, true, true, true, true, true, true, true, true, true, true, true, true, false] rfl rfl (any_of HT_.out (by kernel_rfl)) (fun _ _ _ h => h) (Or.inl ⟨by rfl, ?_⟩) ?_ ?_; rotate_left; (· intro w'; go_simp; (with_reducible rfl)); rotate_left; (· simp only [Act.put, List.setIfInBounds_toArray, List.set_cons_zero, List.set_cons_succ, i64_w, i32_w]; rfl); refine pure_ (i := 22) (N := some 4) (v := ?_) (a' := ?_) #[true, true, true, true, true, true, true, true, true, true, true, true, true, true, true, true, true, true, true, true, true, true, true] rfl rfl (any_of HT_.out (by kernel_rfl)) (fun _ _ _ h => h) (Or.inl ⟨by rfl, ?_⟩) ?_ ?_; rotate_left; (· intro w'; go_simp; (with_reducible rfl)); rotate_left; (· simp only [Act.put, List.setIfInBounds_toArray, List.set_cons_zero, List.set_cons_succ, i64_w, i32_w]; rfl); refine done_ (done_of HT_.out (by kernel_rfl)) ?_; (try go_wp2); go_ret; (exact ⟨by first | rfl | (simp [errW_none, errW_some] <;> rfl) | (simp [*, errW_none, errW_some] <;> rfl), by repeat (first | (with_reducible first | exact HB.out | apply below_alloc | apply pw_below_drewN | apply below_drew1 | refine below_set ?_ GE198.out | refine below_set ?_ GE199.out) | exact HB.out)⟩))); (· rw [if_neg c22] at H; (have c22b0 : (t203 == t204) = false := by simpa using c22); (try (have c22b1 : decide (t203 = t204) = false := by simpa using c22)); (try (have c22b2 : (t203 == t204) = false := by simpa using c22)); (try (have c22b3 : ¬ (t203 = t204) := by simpa using c22)); clear c22; obtain rfl := Option.some.inj H; (try go_wp2); have n0_ := Aside0.mk (blk_drew BK198.out); have n1_ := Aside0.mk (blk_drew BK199.out); have n2_ := Aside0.mk (below_drew1 HB.out); clear BK198; clear BK199; clear HB; have BK198 := n0_; have BK199 := n1_; have HB := n2_; clear n0_ n1_ n2_; refine start_ (n := 23) (S := fun w' => w'.cell? ⟨gb198, 0, none⟩ = some (.slice A0_0 l0_0.length c0_0) ∧ w'.cell? ⟨gb198, 1, none⟩ = some (.slice A0_1 l0_1.length c0_1)) (ds := []) #[false, false, false, false, false, false, false, false, false, false, false, false, false, false, false, false, false, false, false, false, false, false, false] (by kernel_rfl) rfl rfl ⟨(blk_cell BK198.out 0).trans rfl, (blk_cell BK198.out 1).trans rfl⟩ (fun hHeld => ?_); refine with_tabW incunablelaw24_ZoneRight.tab3 incunablelaw24_ZoneRight.bits3 (fun HT_ HW_ => ?_); generalize wc.drew = w47 at BK198 BK199 HB hHeld ⊢; refine take_ (i := 0) (N := some 12) (v := ?_) (a' := ?_) #[true, false, false, false, false, false, false, false, false, false, false, false, false, false, false, false, false, false, false, false, false, false, false] rfl rfl (take_ofW HT_.out HW_.out (by kernel_rfl)) (fun _ _ _ h => h) (Or.inl ⟨by rfl, ?_⟩) hHeld ?_ ?_; rotate_left; (· rintro w' ⟨s0, s1⟩; go_simp; (with_reducible rfl)); rotate_left; (· simp only [Act.put, List.setIfInBounds_toArray, List.set_cons_zero, List.set_cons_succ, i64_w, i32_w]; rfl); refine take_ (i := 2) (N := some 14) (v := ?_) (a' := ?_) #[true, false, true, false, false, false, false, false, false, false, false, false, false, false, false, false, false, false, false, false, false, false, false] rfl rfl (take_ofW HT_.out HW_.out (by kernel_rfl)) (fun _ _ _ h => h) (Or.inl ⟨by rfl, ?_⟩) hHeld ?_ ?_; rotate_left; (· rintro w' ⟨s0, s1⟩; go_simp; (with_reducible rfl)); rotate_left; (· simp only [Act.put, List.setIfInBounds_toArray, List.set_cons_zero, List.set_cons_succ, i64_w, i32_w]; rfl); refine one_ (i := 1) (N := some 13) #[true, true, true, false, false, false, false, false, false, false, false, false, false, false, false, false, false, false, false, false, false, false, false] rfl rfl (one_of HT_.out (by kernel_rfl)) (by decide) (fun K hK => ?_); refine goes_ Try.func15 (by kernel_rfl) rfl #[.agg #[.slice A0_0 l0_0.length c0_0, .slice A0_1 l0_1.length c0_1]] (by rfl) rfl rfl (by (try simp only [List.map_toArray, List.map_cons, List.map_nil]); first | done | rfl | (simp only [List.length_drop, List.length_take]; rfl)) ?_; (with_reducible refine (zone_Valid.calls _ _ l0_0 _ _ l0_1 t203 _ ?side1 ?side2 ?side3 ?side4 A20.out).mono ?_); (case side1 => repeat (first | exact (Kd.C_below HR0_0.out HB.out) | (with_reducible refine Kd.C_alloc ?_ _) | (with_reducible refine Kd.C_drewN ?_ _) | (with_reducible refine Kd.C_drew ?_))); (case side2 => exact HC0_0.out); (case side3 => repeat (first | exact (Kd.C_below HR0_1.out HB.out) | (with_reducible refine Kd.C_alloc ?_ _) | (with_reducible refine Kd.C_drewN ?_ _) | (with_reducible refine Kd.C_drew ?_))); (case side4 => exact HC0_1.out); rintro e w48 ⟨rfl, hb⟩; refine ⟨_, rfl, ?_⟩; have n0_ := Aside0.mk (blk_below (g := gb198) (o := .cells #[.slice A0_0 l0_0.length c0_0, .slice A0_1 l0_1.length c0_1] 25 (0, 0)) (by (with_reducible repeat (first | refine blk_drewN ?_ _ | refine blk_drew ?_ | refine blk_alloc ?_ _)); exact BK198.out) hb); have n1_ := Aside0.mk (blk_below (g := gb199) (o := .cells #[.slice A1_0 l1_0.length c1_0, .slice A1_1 l1_1.length c1_1] 25 (0, 0)) (by (with_reducible repeat (first | refine blk_drewN ?_ _ | refine blk_drew ?_ | refine blk_alloc ?_ _)); exact BK199.out) hb); have n2_ := Aside0.mk (below_step (by repeat (first | (with_reducible first | exact HB.out | apply below_alloc | apply pw_below_drewN | apply below_drew1 | refine below_set ?_ GE198.out | refine below_set ?_ GE199.out) | exact HB.out)) hb); clear BK198; clear BK199; clear HB; have BK198 := n0_; have BK199 := n1_; have HB := n2_; clear n0_ n1_ n2_; (try clear hb); (try clear hb2); (try clear hk); (try clear hi); refine hK.out _ _ ⟨(blk_cell BK198.out 0).trans rfl, (blk_cell BK198.out 1).trans rfl⟩ (fun hHeld => ?_); clear hK K; refine norm_ (a' := ?_) ?_ ?_; rotate_left; (· show Act.put _ (some 13) _ = _; simp only [Act.put, List.setIfInBounds_toArray, List.set_cons_zero, List.set_cons_succ, i64_w, i32_w]; rfl); refine one_ (i := 3) (N := some 15) #[true, true, true, true, false, false, false, false, false, false, false, false, false, false, false, false, false, false, false, false, false, false, false] rfl rfl (one_of HT_.out (by kernel_rfl)) (by decide) (fun K hK => ?_); refine goes_ Try.func16 (by kernel_rfl) rfl #[.agg #[.slice A0_0 l0_0.length c0_0, .slice A0_1 l0_1.length c0_1]] (by rfl) rfl rfl (by (try simp only [List.map_toArray, List.map_cons, List.map_nil]); first | done | rfl | (simp only [List.length_drop, List.length_take]; rfl)) ?_; (with_reducible refine (incunableref24_Valid.calls kj2 _ _ l0_0 _ _ l0_1 t204 _ ?side1 ?side2 ?side3 ?side4 A21.out).mono ?_); (case side1 => repeat (first | exact (Kd.C_below HR0_0.out HB.out) | (with_reducible refine Kd.C_alloc ?_ _) | (with_reducible refine Kd.C_drewN ?_ _) | (with_reducible refine Kd.C_drew ?_))); (case side2 => exact HC0_0.out); (case side3 => repeat (first | exact (Kd.C_below HR0_1.out HB.out) | (with_reducible refine Kd.C_alloc ?_ _) | (with_reducible refine Kd.C_drewN ?_ _) | (with_reducible refine Kd.C_drew ?_))); (case side4 => exact HC0_1.out); rintro e w49 ⟨rfl, hb⟩; refine ⟨_, rfl, ?_⟩; have n0_ := Aside0.mk (blk_below (g := gb198) (o := .cells #[.slice A0_0 l0_0.length c0_0, .slice A0_1 l0_1.length c0_1] 25 (0, 0)) (by (with_reducible repeat (first | refine blk_drewN ?_ _ | refine blk_drew ?_ | refine blk_alloc ?_ _)); exact BK198.out) hb); have n1_ := Aside0.mk (blk_below (g := gb199) (o := .cells #[.slice A1_0 l1_0.length c1_0, .slice A1_1 l1_1.length c1_1] 25 (0, 0)) (by (with_reducible repeat (first | refine blk_drewN ?_ _ | refine blk_drew ?_ | refine blk_alloc ?_ _)); exact BK199.out) hb); have n2_ := Aside0.mk (below_step (by repeat (first | (with_reducible first | exact HB.out | apply below_alloc | apply pw_below_drewN | apply below_drew1 | refine below_set ?_ GE198.out | refine below_set ?_ GE199.out) | exact HB.out)) hb); clear BK198; clear BK199; clear HB; have BK198 := n0_; have BK199 := n1_; have HB := n2_; clear n0_ n1_ n2_; (try clear hb); (try clear hb2); (try clear hk); (try clear hi); refine hK.out _ _ ⟨(blk_cell BK198.out 0).trans rfl, (blk_cell BK198.out 1).trans rfl⟩ (fun hHeld => ?_); clear hK K; refine norm_ (a' := ?_) ?_ ?_; rotate_left; (· show Act.put _ (some 15) _ = _; simp only [Act.put, List.setIfInBounds_toArray, List.set_cons_zero, List.set_cons_succ, i64_w, i32_w]; rfl); refine pure_ (i := 4) (N := some 16) (v := ?_) (a' := ?_) #[true, true, true, true, true, false, false, false, false, false, false, false, false, false, false, false, false, false, false, false, false, false, false] rfl rfl (any_of HT_.out (by kernel_rfl)) (fun _ _ _ h => h) (Or.inl ⟨by rfl, ?_⟩) ?_ ?_; rotate_left; (· intro w'; go_simp; (with_reducible rfl)); rotate_left; (· simp only [Act.put, List.setIfInBounds_toArray, List.set_cons_zero, List.set_cons_succ, i64_w, i32_w]; rfl); refine pure_ (i := 5) (N := some 17) (v := ?_) (a' := ?_) #[true, true, true, true, true, true, false, false, false, false, false, false, false, false, false, false, false, false, false, false, false, false, false] rfl rfl (any_of HT_.out (by kernel_rfl)) (fun _ _ _ h => h) (Or.inl ⟨by rfl, ?_⟩) ?_ ?_; rotate_left; (· intro w'; go_simp; (with_reducible rfl)); rotate_left; (· simp only [Act.put, List.setIfInBounds_toArray, List.set_cons_zero, List.set_cons_succ, i64_w, i32_w]; rfl); refine pure_ (i := 6) (N := some 18) (v := undef) (a' := ?_) #[true, true, true, true, true, true, true, false, false, false, false, false, false, false, false, false, false, false, false, false, false, false, false] rfl rfl (any_of HT_.out (by kernel_rfl)) (fun _ _ _ h => h) (Or.inr ⟨by rfl, rfl⟩) ?_ ?_; rotate_left; (· simp only [Act.put, List.setIfInBounds_toArray, List.set_cons_zero, List.set_cons_succ, i64_w, i32_w]; rfl); refine pure_ (i := 7) (N := some 19) (v := undef) (a' := ?_) #[true, true, true, true, true, true, true, true, false, false, false, false, false, false, false, false, false, false, false, false, false, false, false] rfl rfl (any_of HT_.out (by kernel_rfl)) (fun _ _ _ h => h) (Or.inr ⟨by rfl, rfl⟩) ?_ ?_; rotate_left; (· simp only [Act.put, List.setIfInBounds_toArray, List.set_cons_zero, List.set_cons_succ, i64_w, i32_w]; rfl); refine pure_ (i := 8) (N := some 20) (v := undef) (a' := ?_) #[true, true, true, true, true, true, true, true, true, false, false, false, false, false, false, false, false, false, false, false, false, false, false] rfl rfl (any_of HT_.out (by kernel_rfl)) (fun _ _ _ h => h) (Or.inr ⟨by rfl, rfl⟩) ?_ ?_; rotate_left; (· simp only [Act.put, List.setIfInBounds_toArray, List.set_cons_zero, List.set_cons_succ, i64_w, i32_w]; rfl); refine pure_ (i := 9) (N := some 21) (v := undef) (a' := ?_) #[true, true, true, true, true, true, true, true, true, true, false, false, false, false, false, false, false, false, false, false, false, false, false] rfl rfl (any_of HT_.out (by kernel_rfl)) (fun _ _ _ h => h) (Or.inr ⟨by rfl, rfl⟩) ?_ ?_; rotate_left; (· simp only [Act.put, List.setIfInBounds_toArray, List.set_cons_zero, List.set_cons_succ, i64_w, i32_w]; rfl); refine pure_ (i := 10) (N := some 22) (v := undef) (a' := ?_) #[true, true, true, true, true, true, true, true, true, true, true, false, false, false, false, false, false, false, false, false, false, false, false] rfl rfl (any_of HT_.out (by kernel_rfl)) (fun _ _ _ h => h) (Or.inr ⟨by rfl, rfl⟩) ?_ ?_; rotate_left; (· simp only [Act.put, List.setIfInBounds_toArray, List.set_cons_zero, List.set_cons_succ, i64_w, i32_w]; rfl); refine pure_ (i := 11) (N := some 23) (v := undef) (a' := ?_) #[true, true, true, true, true, true, true, true, true, true, true, true, false, false, false, false, false, false, false, false, false, false, false] rfl rfl (any_of HT_.out (by kernel_rfl)) (fun _ _ _ h => h) (Or.inr ⟨by rfl, rfl⟩) ?_ ?_; rotate_left; (· simp only [Act.put, List.setIfInBounds_toArray, List.set_cons_zero, List.set_cons_succ, i64_w, i32_w]; rfl); refine pure_ (i := 12) (N := some 24) (v := undef) (a' := ?_) #[true, true, true, true, true, true, true, true, true, true, true, true, true, false, false, false, false, false, false, false, false, false, false] rfl rfl (any_of HT_.out (by kernel_rfl)) (fun _ _ _ h => h) (Or.inr ⟨by rfl, rfl⟩) ?_ ?_; rotate_left; (· simp only [Act.put, List.setIfInBounds_toArray, List.set_cons_zero, List.set_cons_succ, i64_w, i32_w]; rfl); refine pure_ (i := 13) (N := some 25) (v := ?_) (a' := ?_) #[true, true, true, true, true, true, true, true, true, true, true, true, true, true, false, false, false, false, false, false, false, false, false] rfl rfl (any_of HT_.out (by kernel_rfl)) (fun _ _ _ h => h) (Or.inl ⟨by rfl, ?_⟩) ?_ ?_; rotate_left; (· intro w'; go_simp; (with_reducible rfl)); rotate_left; (· simp only [Act.put, List.setIfInBounds_toArray, List.set_cons_zero, List.set_cons_succ, i64_w, i32_w]; rfl); refine pure_ (i := 14) (N := some 26) (v := ?_) (a' := ?_) #[true, true, true, true, true, true, true, true, true, true, true, true, true, true, true, false, false, false, false, false, false, false, false] rfl rfl (any_of HT_.out (by kernel_rfl)) (fun _ _ _ h => h) (Or.inl ⟨by rfl, ?_⟩) ?_ ?_; rotate_left; (· intro w'; go_simp; (with_reducible rfl)); rotate_left; (· simp only [Act.put, List.setIfInBounds_toArray, List.set_cons_zero, List.set_cons_succ, i64_w, i32_w]; rfl); refine pure_ (i := 15) (N := some 27) (v := undef) (a' := ?_) #[true, true, true, true, true, true, true, true, true, true, true, true, true, true, true, true, false, false, false, false, false, false, false] rfl rfl (any_of HT_.out (by kernel_rfl)) (fun _ _ _ h => h) (Or.inr ⟨by rfl, rfl⟩) ?_ ?_; rotate_left; (· simp only [Act.put, List.setIfInBounds_toArray, List.set_cons_zero, List.set_cons_succ, i64_w, i32_w]; rfl); refine pure_ (i := 16) (N := some 28) (v := undef) (a' := ?_) #[true, true, true, true, true, true, true, true, true, true, true, true, true, true, true, true, true, false, false, false, false, false, false] rfl rfl (any_of HT_.out (by kernel_rfl)) (fun _ _ _ h => h) (Or.inr ⟨by rfl, rfl⟩) ?_ ?_; rotate_left; (· simp only [Act.put, List.setIfInBounds_toArray, List.set_cons_zero, List.set_cons_succ, i64_w, i32_w]; rfl); refine pure_ (i := 17) (N := some 29) (v := undef) (a' := ?_) #[true, true, true, true, true, true, true, true, true, true, true, true, true, true, true, true, true, true, false, false, false, false, false] rfl rfl (any_of HT_.out (by kernel_rfl)) (fun _ _ _ h => h) (Or.inr ⟨by rfl, rfl⟩) ?_ ?_; rotate_left; (· simp only [Act.put, List.setIfInBounds_toArray, List.set_cons_zero, List.set_cons_succ, i64_w, i32_w]; rfl); refine pure_ (i := 18) (N := some 30) (v := ?_) (a' := ?_) #[true, true, true, true, true, true, true, true, true, true, true, true, true, true, true, true, true, true, true, false, false, false, false] rfl rfl (any_of HT_.out (by kernel_rfl)) (fun _ _ _ h => h) (Or.inl ⟨by rfl, ?_⟩) ?_ ?_; rotate_left; (· intro w'; go_simp; (with_reducible rfl)); rotate_left; (· simp only [Act.put, List.setIfInBounds_toArray, List.set_cons_zero, List.set_cons_succ, i64_w, i32_w]; rfl); refine pure_ (i := 19) (N := some 31) (v := ?_) (a' := ?_) #[true, true, true, true, true, true, true, true, true, true, true, true, true, true, true, true, true, true, true, true, false, false, false] rfl rfl (any_of HT_.out (by kernel_rfl)) (fun _ _ _ h => h) (Or.inl ⟨by rfl, ?_⟩) ?_ ?_; rotate_left; (· intro w'; go_simp; (with_reducible rfl)); rotate_left; (· simp only [Act.put, List.setIfInBounds_toArray, List.set_cons_zero, List.set_cons_succ, i64_w, i32_w]; rfl); refine pure_ (i := 20) (N := some 32) (v := undef) (a' := ?_) #[true, true, true, true, true, true, true, true, true, true, true, true, true, true, true, true, true, true, true, true, true, false, false] rfl rfl (any_of HT_.out (by kernel_rfl)) (fun _ _ _ h => h) (Or.inr ⟨by rfl, rfl⟩) ?_ ?_; rotate_left; (· simp only [Act.put, List.setIfInBounds_toArray, List.set_cons_zero, List.set_cons_succ, i64_w, i32_w]; rfl); refine pure_ (i := 21) (N := some 33) (v := ?_) (a' := ?_) #[true, true, true, true, true, true, true, true, true, true, true, true, true, true, true, true, true, true, true, true, true, true, false] rfl rfl (any_of HT_.out (by kernel_rfl)) (fun _ _ _ h => h) (Or.inl ⟨by rfl, ?_⟩) ?_ ?_; rotate_left; (· intro w'; go_simp; (with_reducible rfl)); rotate_left; (· simp only [Act.put, List.setIfInBounds_toArray, List.set_cons_zero, List.set_cons_succ, i64_w, i32_w]; rfl); refine pure_ (i := 22) (N := some 4) (v := ?_) (a' := ?_) #[true, true, true, true, true, true, true, true, true, true, true, true, true, true, true, true, true, true, true, true, true, true, true] rfl rfl (any_of HT_.out (by kernel_rfl)) (fun _ _ _ h => h) (Or.inl ⟨by rfl, ?_⟩) ?_ ?_; rotate_left; (· intro w'; go_simp; (with_reducible rfl)); rotate_left; (· simp only [Act.put, List.setIfInBounds_toArray, List.set_cons_zero, List.set_cons_succ, i64_w, i32_w]; rfl); refine done_ (done_of HT_.out (by kernel_rfl)) ?_; (try go_wp2); go_ret; (exact ⟨by first | rfl | (simp [errW_none, errW_some] <;> rfl) | (simp [*, errW_none, errW_some] <;> rfl), by repeat (first | (with_reducible first | exact HB.out | apply below_alloc | apply pw_below_drewN | apply below_drew1 | refine below_set ?_ GE198.out | refine below_set ?_ GE199.out) | exact HB.out)⟩)))
end Go.Proofs.Ytgcdhikmdbjfeaa.U
namespace Go.Proofs.Ytgcdhikmdbjfeaa.Opn
open Go Go.RowKit Go.Proofs.YtgcdhikmdbjfeaaW.PrintWords Go.Proofs.YtgcdhikmdbjfeaaW.PrintLast Go.Proofs.YtgcdhikmdbjfeaaW.PrintMore Go.ChangeShapes Go.WideShapes
/-- The cells that the form reads at type t (with fuel N at the most) tell an element of the kind d, of which Wf holds. -/
structure OpensTo (P : Program) (N : Nat) {α : Type} (t : TypeId) (d : Kd α) (Wf : α → Prop) : Prop where
  sz : P.cellsOf t = d.sz
  op : ∀ {H : Type} {enc : TypeId × Value → H} {w : World} {fuel : Nat} {cs : List Value} {x : DataW H × List MemPlace}, fuel ≤ N → DataW.trod enc P w 0 (fun _ => true) true fuel t cs = some x → (∀ n ∈ x.1.weights P t, n ≤ reachBytes) → ∃ a : α, d.K w a cs ∧ Wf a
section
variable {P : Program} {N : Nat} {α β : Type} {t e : TypeId} {d : Kd α} {d' : Kd β} {Wf Wf2 : α → Prop} {Wf' : β → Prop}
theorem o_int {k : IntKind} (ht : P.underlying t = some (.int k)) (hc : P.cellsOf t = 1) : OpensTo P N t (Kd.int k) (fun n => (Lit.int k n).wf = true) := ⟨hc, fun _ hx _ => by
  obtain ⟨n, rfl, rfl, hw⟩ := DataW.trod_int ht hx
  exact ⟨n, rfl, hw⟩⟩
theorem pick_list {Q : Nat → α → Prop} : ∀ n : Nat, (∀ i, i < n → ∃ p, Q i p) → ∃ xs : List α, xs.length = n ∧ ∀ i p, xs[i]? = some p → Q i p
  | 0, _ => ⟨[], rfl, fun i p h => by simp at h⟩
  | n + 1, h => by
    obtain ⟨xs, hl, hq⟩ := pick_list n (fun i hi => h i (by omega))
    obtain ⟨p, hp⟩ := h n (by omega)
    refine ⟨xs ++ [p], by simp [hl], fun i q hi => ?_⟩
    rcases Nat.lt_or_ge i n with c | c
    · rw [List.getElem?_append_left (by omega)] at hi
      exact hq i q hi
    · rw [List.getElem?_append_right (by omega)] at hi
      obtain rfl : i = n := by
        have := (List.getElem?_eq_some_iff.1 hi).1
        simp at this
        omega
      simp [hl] at hi
      subst hi
      exact hp
theorem add_add' (a : Addr) (i j : Nat) : (a.add i).add j = a.add (i + j) := by
  unfold Addr.add
  by_cases h1 : i = 0 <;> by_cases h2 : j = 0 <;> simp [h1, h2, Nat.add_assoc]
theorem weights_all {H : Type} {e : TypeId} : ∀ {l : List (DataW H)} {y : DataW H}, y ∈ l → ∀ n ∈ y.weights P e, n ∈ DataW.weightsAll P e l
  | x :: l, y, hy, n, hn => by
    unfold DataW.weightsAll
    rcases List.mem_cons.1 hy with rfl | hy
    · exact List.mem_append.2 (.inl hn)
    · exact List.mem_append.2 (.inr (weights_all hy n hn))
end
end Go.Proofs.Ytgcdhikmdbjfeaa.Opn
namespace Go.Proofs.Ytgcdhikmdbjfeaa.Opz
open Go Go.RowKit Go.Proofs.YtgcdhikmdbjfeaaW.PrintWords Go.Proofs.YtgcdhikmdbjfeaaW.PrintLast Go.Proofs.YtgcdhikmdbjfeaaW.PrintMore Go.ChangeShapes Go.WideShapes Go.Proofs.Ytgcdhikmdbjfeaa.U Go.Proofs.Ytgcdhikmdbjfeaa.Opn Go.Proofs.Ytgcdhikmdbjfeaa.Zpl
/-- As OpensTo; and how much of the datum's bulk an element takes. -/
structure OpensB (P : Program) (N : Nat) {α : Type} (t : TypeId) (d : Kd α) (Wf : α → Prop) (M : α → Nat) : Prop where
  sz : P.cellsOf t = d.sz
  op : ∀ {H : Type} {enc : TypeId × Value → H} {w : World} {fuel : Nat} {cs : List Value} {x : DataW H × List MemPlace}, fuel ≤ N → DataW.trod enc P w 0 (fun _ => true) true fuel t cs = some x → (∀ n ∈ x.1.weights P t, n ≤ reachBytes) → ∃ a : α, d.K w a cs ∧ Wf a ∧ M a ≤ Rows.uptoBulk x.1
section
variable {P : Program} {N : Nat} {α β : Type} {t e : TypeId} {d : Kd α} {d' : Kd β} {Wf Wf2 : α → Prop} {Wf' : β → Prop} {M : α → Nat} {M' : β → Nat}
theorem bulk_pos {H : Type} (d : DataW H) : 1 ≤ Rows.uptoBulk d := by
  cases d with
  | lit x => cases x <;> simp [Rows.uptoBulk]
  | _ => simp [Rows.uptoBulk]
theorem b_one (h : OpensTo P N t d Wf) : OpensB P N t d Wf (fun _ => 1) := ⟨h.sz, fun hf hx hw => by
  obtain ⟨a, hk, hwf⟩ := h.op hf hx hw
  exact ⟨a, hk, hwf, bulk_pos _⟩⟩
theorem bulk_all {H : Type} : ∀ (l : List (DataW H)) (i : Nat) (xs : List Nat), xs.length ≤ l.length → (∀ (i n : Nat), xs[i]? = some n → ∃ y : DataW H, l[i]? = some y ∧ n ≤ Rows.uptoBulk y) → xs.sum ≤ Rows.uptoBulkAll l
  | l, i, [], _, _ => by simp
  | [], i, x :: xs, h, _ => by simp at h
  | y :: l, i, x :: xs, h, hx => by
    obtain ⟨y', h1, h2⟩ := hx 0 x rfl
    obtain rfl : y = y' := by simpa using h1
    have := bulk_all l i xs (by simpa using h) (fun j n hj => hx (j + 1) n (by simpa using hj))
    simp only [List.sum_cons, Rows.uptoBulkAll]
    omega
theorem b_slice (hu : P.underlying t = some (.slice e)) (hc : P.cellsOf t = 1) (he : OpensB P N e d Wf M) {B : Nat} (hB : P.bytesOf e = B) :
    OpensB P (N + 1) t (Kd.slice e d) (fun l => l.length * B ≤ 140737488351232 ∧ ∀ x ∈ l, Wf x) (fun l => (l.map M).sum) := ⟨hc, fun {H enc w fuel cs x} hf hx hw => by
  rcases DataW.trod_slice hu hx with ⟨rfl, rfl⟩ | ⟨a, len, cap, elems, rest, n, hfn, rfl, rfl, _, hl, hm, hlen, hel, _, _⟩
  · exact ⟨[], ⟨none, 0, rfl, Nat.le_refl _, Kd.C_nil d w⟩, ⟨by simp, fun x hx => by simp at hx⟩, by simp⟩
  · have hq : ∀ i, i < len → ∃ p : α, (∃ cs', w.cells? 0 (a.add (i * P.cellsOf e)) (P.cellsOf e) = some cs' ∧ d.K w p cs') ∧ Wf p ∧ ∃ y, elems[i]? = some y ∧ M p ≤ Rows.uptoBulk y.1 := by
      intro i hi
      have h1 := hel i hi
      obtain ⟨y, hy⟩ : ∃ y, elems[i]? = some y := ⟨_, List.getElem?_eq_getElem (by omega)⟩
      rw [hy, Option.bind_eq_some_iff] at h1
      obtain ⟨cs', hcs, h2⟩ := h1
      obtain ⟨p, hk, hwf, hM⟩ := he.op (by omega) h2 (fun m hm' => hw m (by
        unfold DataW.weights
        rw [hu]
        refine List.mem_cons.2 (.inr (List.mem_append.2 (.inl (weights_all (y := y.1) ?_ m hm'))))
        exact List.mem_map.2 ⟨y, List.mem_of_getElem? hy, rfl⟩))
      exact ⟨p, ⟨cs', hcs, hk⟩, hwf, y, hy, hM⟩
    obtain ⟨xs, hxl, hxs⟩ := pick_list len hq
    have hcap : cap ≤ 9223372036854775807 := by simpa [maxLen] using hm
    refine ⟨xs, ⟨some a, cap, by rw [hxl], by omega, rfl, by omega, fun _ => ⟨a, rfl, fun j p hj => ?_⟩⟩, ⟨?_, fun x hx => ?_⟩, ?_⟩
    · obtain ⟨⟨cs', hcs, hk⟩, _⟩ := hxs j p hj
      obtain ⟨_, hl2, hcell⟩ := World.cells?_some hcs
      refine ⟨cs', d.K_len hk, hk, fun i u hi => ?_⟩
      have h3 := hcell i (by rw [← hl2]; exact (List.getElem?_eq_some_iff.1 hi).1)
      rw [Opn.add_add', he.sz, hi] at h3
      exact h3
    · have h4 := hw ((elems.length + rest.length) * P.bytesOf e) (by
        unfold DataW.weights
        rw [hu]
        simp)
      have h5 : len * B ≤ (elems.length + rest.length) * B := Nat.mul_le_mul_right _ (by omega)
      rw [hB] at h4
      rw [hxl]
      exact Nat.le_trans h5 h4
    · obtain ⟨i, hi⟩ := List.getElem?_of_mem hx
      exact (hxs i x hi).2.1
    · have hs := bulk_all (elems.map (·.1)) 0 (xs.map M) (by simp; omega) (fun i n hi => by
        rw [List.getElem?_map, Option.map_eq_some_iff] at hi
        obtain ⟨p, hp, rfl⟩ := hi
        obtain ⟨_, _, y, hy, hM⟩ := hxs i p hp
        exact ⟨y.1, by rw [List.getElem?_map, hy]; rfl, hM⟩)
      simp only [Rows.uptoBulk]
      omega⟩
/-- The same for a struct's fields from offset o on. -/
structure FieldsB (P : Program) (N : Nat) {α : Type} (fs : List Field) (o : Nat) (d : Kd α) (Wf : α → Prop) (M : α → Nat) : Prop where
  op : ∀ {H : Type} {enc : TypeId × Value → H} {w : World} {fuel : Nat} {cs : List Value} {xs : List (DataW H × List MemPlace)}, fuel ≤ N → cs.length = o + d.sz → xs.length = fs.length →
    (∀ (i : Nat) (f : Field), fs[i]? = some f → DataW.trod enc P w 0 (fun _ => true) true fuel f.type ((cs.drop f.offset).take (P.cellsOf f.type)) = xs[i]?) →
    (∀ n ∈ DataW.weightsEach P (fs.map (·.type)) (xs.map (·.1)), n ≤ reachBytes) → ∃ a : α, d.K w a (cs.drop o) ∧ Wf a ∧ M a ≤ Rows.uptoBulkAll (xs.map (·.1))
theorem fb_one {f : Field} {o : Nat} (ho : f.offset = o) (h : OpensB P N f.type d Wf M) : FieldsB P N [f] o d Wf M := ⟨by
  intro H enc w fuel cs xs hf hl hxl hx hw
  match xs, hxl with
  | [x], _ =>
    have h1 := hx 0 f rfl
    rw [ho, h.sz, List.take_of_length_le (by rw [List.length_drop]; omega)] at h1
    obtain ⟨a, hk, hwf, hM⟩ := h.op hf h1 (fun n hn => hw n (by simp [DataW.weightsEach, hn]))
    exact ⟨a, hk, hwf, by simp only [List.map_cons, List.map_nil, Rows.uptoBulkAll]; omega⟩⟩
theorem fb_cons {f : Field} {fs : List Field} {o : Nat} (ho : f.offset = o) (h : OpensB P N f.type d Wf M) (hs : FieldsB P N fs (o + d.sz) d' Wf' M') : FieldsB P N (f :: fs) o (Kd.pair d d') (fun x => Wf x.1 ∧ Wf' x.2) (fun x => M x.1 + M' x.2) := ⟨by
  intro H enc w fuel cs xs hf hl hxl hx hw
  match xs, hxl with
  | x :: xs, hxl =>
    have hl' : cs.length = o + (d.sz + d'.sz) := hl
    have h1 := hx 0 f rfl
    rw [ho, h.sz] at h1
    obtain ⟨a, hk, hwf, hM⟩ := h.op hf h1 (fun n hn => hw n (by simp [DataW.weightsEach, hn]))
    obtain ⟨b, hk', hwf', hM'⟩ := hs.op (xs := xs) hf (by rw [hl']; omega) (by simpa using hxl) (fun i g hg => by simpa using hx (i + 1) g (by simpa using hg)) (fun n hn => hw n (by
      simp only [List.map_cons, DataW.weightsEach]
      exact List.mem_append.2 (.inr hn)))
    refine ⟨(a, b), ⟨_, _, ?_, hk, hk'⟩, ⟨hwf, hwf'⟩, ?_⟩
    · rw [← List.drop_drop, List.take_append_drop]
    · simp only [List.map_cons, Rows.uptoBulkAll]
      omega⟩
theorem b_struct {fs : Array Field} (hu : P.underlying t = some (.struct fs)) (hc : P.cellsOf t = d.sz) (h : FieldsB P N fs.toList 0 d Wf M) : OpensB P (N + 1) t d Wf (fun x => M x + 1) := ⟨hc, fun {H enc w fuel cs x} hf hx hw => by
  obtain ⟨xs, n, hfn, rfl, hl, hxl, hel⟩ := DataW.trod_struct hu hx
  obtain ⟨a, hk, hwf, hM⟩ := h.op (xs := xs) (cs := cs) (w := w) (enc := enc) (fuel := n) (by omega) (by rw [hl, hc, Nat.zero_add]) (by simpa using hxl) (fun i f hf' => hel i f (by simpa using hf')) (fun m hm => hw m (by
    unfold DataW.weights
    rw [hu]
    exact hm))
  refine ⟨a, by simpa using hk, hwf, ?_⟩
  simp only [Rows.uptoBulk]
  omega⟩
/-- A row's argument that is read whole: at whatever fuel. -/
theorem open_argB {H : Type} {enc : TypeId × Value → H} {W : World} {v : Value} {x : DataW H} {p : List MemPlace} {ts : List TypeId} {ds : List (DataW H)} {j : Nat} (ho : ∀ n, OpensB P (n + N) t d Wf M)
    (h : DataW.Trod enc P W 0 (fun _ => true) true t v x p) (hsz : (DataW.weightsEach P ts ds).all (· ≤ reachBytes) = true) (ht : ts[j]? = some t) (hd : ds[j]? = some x) : ∃ a : α, d.K W a v.cells.toList ∧ Wf a ∧ M a ≤ Rows.uptoBulk x := by
  obtain ⟨fuel, hf⟩ := h
  refine (ho fuel).op (by omega) hf (fun n hn => ?_)
  have := List.all_eq_true.1 hsz n (DataW.weights_mem_each ht hd n hn)
  simpa using this
end
/-- How many zones there are, as a Nat. -/
theorem cnt_sum (l : List Zn) : cnt l = (l.map fun z => (cnt [z]).toNat).sum := by
  induction l with
  | nil => simp [cnt]
  | cons z l ih =>
    have c1 := cnt_nonneg [z]
    rw [List.map_cons, List.sum_cons, cnt, ih]
    have : cnt [z] = cnt z.f7 + 1 := by
      rw [cnt]
      simp [cnt]
    omega
theorem zone_opens : ∀ N, OpensB Try.prog N 62 k62 (fun _ => True) (fun z => (cnt [z]).toNat)
  | 0 => ⟨by kernel_rfl, fun {H enc w fuel cs x} hf hx _ => by
    obtain rfl : fuel = 0 := by omega
    simp [DataW.trod] at hx⟩
  | N + 1 => ⟨by kernel_rfl, fun {H enc w fuel cs x} hf hx hw => by
    have hi : OpensB Try.prog N 3 (Kd.int .i64) (fun n => (Lit.int .i64 n).wf = true) (fun _ => 1) := b_one (o_int Try.underlying3 (by kernel_rfl))
    have hk : OpensB Try.prog N 23 (Kd.slice 62 k62) (fun _ => True) (fun l => (l.map fun z => (cnt [z]).toNat).sum) := by
      cases N with
      | zero => exact ⟨by kernel_rfl, fun {H enc w fuel cs x} hf hx _ => by
          obtain rfl : fuel = 0 := by omega
          simp [DataW.trod] at hx⟩
      | succ N =>
        have h := b_slice (B := 80) Try.underlying23 (by kernel_rfl) (zone_opens N) (by kernel_rfl)
        exact ⟨h.sz, fun hf hx hw => by
          obtain ⟨a, h1, _, h3⟩ := h.op hf hx hw
          exact ⟨a, h1, trivial, h3⟩⟩
    have hs := b_struct (t := 62) (d := Kd.pair (Kd.int .i64) (Kd.pair (Kd.int .i64) (Kd.pair (Kd.int .i64) (Kd.pair (Kd.int .i64) (Kd.pair (Kd.int .i64) (Kd.pair (Kd.int .i64) (Kd.pair (Kd.int .i64) (Kd.slice 62 k62)))))))) Try.underlying62 (by kernel_rfl) (fb_cons rfl hi (fb_cons rfl hi (fb_cons rfl hi (fb_cons rfl hi (fb_cons rfl hi (fb_cons rfl hi (fb_cons rfl hi (fb_one rfl hk))))))))
    obtain ⟨⟨x0, x1, x2, x3, x4, x5, x6, l⟩, ⟨_, _, hcs, rfl, ⟨_, _, rfl, rfl, ⟨_, _, rfl, rfl, ⟨_, _, rfl, rfl, ⟨_, _, rfl, rfl, ⟨_, _, rfl, rfl, ⟨_, _, rfl, rfl, ⟨A, c, rfl, hl, hC⟩⟩⟩⟩⟩⟩⟩⟩, hwf, hM⟩ := hs.op hf hx hw
    refine ⟨⟨x0, x1, x2, x3, x4, x5, x6, l⟩, ?_, trivial, ?_⟩
    · rw [hcs]
      exact k62_mk w ⟨x0, x1, x2, x3, x4, x5, x6, l⟩ hl hC
    · have : cnt [(⟨x0, x1, x2, x3, x4, x5, x6, l⟩ : Zn)] = cnt l + 1 := by
        rw [cnt]
        simp [cnt]
      rw [this]
      have h2 := cnt_sum l
      simp only at hM
      omega⟩
theorem zones_opens (N : Nat) : OpensB Try.prog (N + 1) 23 (Kd.slice 62 k62) (fun l => l.length * 80 ≤ 140737488351232) (fun l => (l.map fun z => (cnt [z]).toNat).sum) := by
  have h := b_slice (B := 80) Try.underlying23 (by kernel_rfl) (zone_opens N) (by kernel_rfl)
  exact ⟨h.sz, fun hf hx hw => by
    obtain ⟨a, h1, h2, h3⟩ := h.op hf hx hw
    exact ⟨a, h1, h2.1, h3⟩⟩
theorem hidden_opens (N : Nat) : OpensB Try.prog (N + 3) 25 (Kd.pair (Kd.slice 5 (Kd.int .u8)) (Kd.slice 62 k62)) (fun x => (x.1.length * 1 ≤ 140737488351232 ∧ ∀ y ∈ x.1, (Lit.int .u8 y).wf = true) ∧ x.2.length * 80 ≤ 140737488351232) (fun x => (x.1.map fun _ => 1).sum + (x.2.map fun z => (cnt [z]).toNat).sum + 1) := by
  have h1 := b_slice (B := 1) (N := N + 1) Try.underlying22 (by kernel_rfl) (b_one (o_int Try.underlying5 (by kernel_rfl))) (by kernel_rfl)
  have h := b_struct (P := Try.prog) (N := N + 2) (t := 25) (d := Kd.pair (Kd.slice 5 (Kd.int .u8)) (Kd.slice 62 k62)) Try.underlying25 (by kernel_rfl) (fb_cons rfl h1 (fb_one rfl (zones_opens (N + 1))))
  exact h
end Go.Proofs.Ytgcdhikmdbjfeaa.Opz
namespace Go.Proofs.Ytgcdhikmdbjfeaa.Csh
open Go
variable {H : Type} {enc : TypeId × Value → H}
/-- A row with a condition of the specification's own; the contract is handed the reach and the world's shape. -/
theorem handed_cond_shaped {a : Assume} {C : Checked} {os : Os} {f : FuncId} {fn : Func} {s : OpenSpec} {k : (H : Type) → List (DataW H) → Bool} (hk : s.cond = some k) {F : Stop.Interp} {conds : List PathCond} {apart fresh handsOn again : Bool}
    (own : ownKnob C.prog.godebug = none) (started : os.Started) (noInit : C.prog.inits.idxOf? f = none) (hfn : C.prog.funcs[f]? = some fn)
    (witness : ∃ (w : World) (tape : Tape) (i : Input), w.os = os ∧ (w.forCall tape i).Shaped C.prog ∧ i.vars = [] ∧ Input.okWide C.prog (w.forCall tape i) .any w.heap.size f i ∧
      s.pre6 enc C.prog fn conds apart (w.forCall tape i).memory i.args ∧ a.holds C.prog (lone (Frame.enter C.prog f i.args .normal) [] (w.forCall tape i)))
    (contract : ∀ (W : World) (base : Nat) (args : Array Value) (ds gs : List (DataW H)) (before : List MemPlace),
      (∀ (j : Nat) t v, fn.params[j]? = some t → args[j]? = some v → Value.okWide C.prog W .any base t v) →
      DataW.Whole enc C.prog fn.params.toList s.vars apart W args.toList ds gs before →
      conds.all (PathCond.test C.prog ⟨fn.params.toList, ds, s.bare.plain.varTypes C.prog, gs⟩) = true → k H (ds ++ gs) = true →
      (DataW.weightsEach C.prog (fn.params.toList ++ s.bare.plain.varTypes C.prog) (ds ++ gs)).all (· ≤ reachBytes) = true → W.ShapedOpen C.prog →
      a.holds C.prog (lone (Frame.enter C.prog f args .normal) [] W) →
      Calls C.prog f args W fun e W' => ∃ v, e = .returned v ∧ (s.at F).post enc C.prog fn apart fresh handsOn again W args v W') :
    ReturnsInHanded a C os f .any (s.pre6 enc C.prog fn conds apart) ((s.at F).post enc C.prog fn apart fresh handsOn again) := by
  refine returnsInHanded_of_calls own started noInit witness ?_
  intro w tape i _ hsh _ hok hpre hholds
  obtain ⟨_, _, _, fn', hfn', _, _, _, _, hval⟩ := hok
  have e : fn' = fn := Option.some.inj (hfn'.symm.trans hfn)
  subst e
  obtain ⟨ds, gs, before, hw, hc, hkk⟩ := (OpenSpec.pre_some hk conds apart _ _).1 hpre.1
  have hw' := DataW.Whole.of_heap (w' := w.forCall tape i) (by rfl) hw
  refine (contract (w.forCall tape i) w.heap.size i.args ds gs before hval hw' hc hkk (hpre.2.weights hw) hsh hholds).mono fun e W' ⟨v, he, hp⟩ => ?_
  subst he
  exact ChangeSpec.post_blind hp
end Go.Proofs.Ytgcdhikmdbjfeaa.Csh
