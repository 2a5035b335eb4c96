import Derived.Test.YtgcdhikmdbjfeaaMZoneAts1
import Derived.Test.YtgcdhikmdbjfeaaMZoneAts3
import Derived.Test.YtgcdhikmdbjfeaaMZoneAts2
import Derived.Lib.IndexLaws
import Derived.Lib.SlBytesConst
import Derived.Test.YtgcdhikmdbjfeaaMZoneAts0
import Derived.SizedLaws
import Derived.ChangeSlices
import Derived.ChangeArms
import Derived.Test.YtgcdhikmdbjfeaaRows
import Derived.HandedShaped
import Derived.Deep.CondSized
set_option linter.unusedVariables false
set_option linter.unusedSimpArgs false
namespace Go.Proofs.Ytgcdhikmdbjfeaa.U
open Go.RowKit Go.Proofs.YtgcdhikmdbjfeaaW.PrintWords Go.Proofs.YtgcdhikmdbjfeaaW.PrintLast Go.Proofs.YtgcdhikmdbjfeaaW.PrintMore
attribute [local go_sem] max2_int min2_int max_two min_two max_three min_three max_four min_four   -- for this text's walks alone
attribute [local go_sem high] eqA34
def incunableref24_SamePairs.l0 : Nat → List (S34) → List (S34) → Int → Int → Option (Bool)
  | 0, _, _, _, _ => none
  | k + 1, x0, x1, x12, x13 => if x13 < x12 then (if 0 ≤ x13 then (if x13 < (x0.length : Int) then (if x13 < (x1.length : Int) then (if (!(((rd_T34 x0 x13).f0) == ((rd_T34 x1 x13).f0)) || (!(((rd_T34 x0 x13).f1) == ((rd_T34 x1 x13).f1)))) = true then (some false) else (incunableref24_SamePairs.l0 k x0 x1 x12 (wrap64 (x13 + 1)))) else (none)) else (none)) else (none)) else (some true)
def incunableref24_SamePairs.f (k : Nat) (l0 : List (S34)) (l1 : List (S34)) : Option (Bool) := if (l0.length : Int) = (l1.length : Int) then (incunableref24_SamePairs.l0 k l0 l1 (l0.length : Int) 0) else (some false)
theorem incunableref24_SamePairs.mono_l : ∀ k, (∀ y0 y1 y2 y3, LeO (incunableref24_SamePairs.l0 k y0 y1 y2 y3) (incunableref24_SamePairs.l0 (k + 1) y0 y1 y2 y3))
  | 0 => fun _ _ _ _ r h => by simp [incunableref24_SamePairs.l0] at h
  | k + 1 => by
    have ih0 := incunableref24_SamePairs.mono_l k
    · intro y0 y1 y2 y3
      unfold incunableref24_SamePairs.l0
      repeat' first
      | (with_reducible exact ih0 _ _ _ _)
      | (with_reducible exact LeO.refl _)
      | (with_reducible exact LeO.none _)
      | (with_reducible refine LeO.ite ?_ ?_)
      | (with_reducible refine LeO.bind ?_ (fun _ => ?_))
      | exact ih0 _ _ _ _
      | exact LeO.none _
      | refine LeO.ite ?_ ?_
      | refine LeO.bind ?_ (fun _ => ?_)
theorem incunableref24_SamePairs.mono : ∀ a0 a1 k, LeO (incunableref24_SamePairs.f k a0 a1) (incunableref24_SamePairs.f (k + 1) a0 a1) := by
 intro a0 a1 k; have ih0 := incunableref24_SamePairs.mono_l k; unfold incunableref24_SamePairs.f
 repeat' first
  | (with_reducible exact ih0 _ _ _ _)
  | (with_reducible exact LeO.refl _)
  | (with_reducible exact LeO.none _)
  | (with_reducible refine LeO.ite ?_ ?_)
  | (with_reducible refine LeO.bind ?_ (fun _ => ?_))
  | exact ih0 _ _ _ _
  | exact LeO.none _
  | refine LeO.ite ?_ ?_
  | refine LeO.bind ?_ (fun _ => ?_)
set_option maxHeartbeats 8000000 in
set_option maxRecDepth 100000 in
theorem incunableref24_SamePairs.calls (k : Nat) (A0 : Option Addr) (c0 : Nat) (l0 : List (S34)) (A1 : Option Addr) (c1 : Nat) (l1 : List (S34)) (r : Bool) (w : World) (hr0 : Kd.C k34 w A0 l0.length l0) (hc0 : l0.length ≤ c0) (hr1 : Kd.C k34 w A1 l1.length l1) (hc1 : l1.length ≤ c1) (h : incunableref24_SamePairs.f k l0 l1 = some r) :
    Calls Try.prog 14 #[.slice A0 l0.length c0, .slice A1 l1.length c1] w fun e w' => e = .returned (.bool r) ∧ Drawn0 w w' := by
 have hu34 := Try.underlying34; have HR0 := Aside0.mk hr0; have HC0 := Aside0.mk hc0; clear hr0 hc0; have HR1 := Aside0.mk hr1; have HC1 := Aside0.mk hc1; clear hr1 hc1; have H : (if (l0.length : Int) = (l1.length : Int) then (incunableref24_SamePairs.l0 k l0 l1 (l0.length : Int) 0) else (some false)) = some r := h; clear h; by_cases c3 : (l0.length : Int) = (l1.length : Int)
 · rw [if_pos c3] at H
   have c3b0 : ((l0.length : Int) == (l1.length : Int)) = true := beq_iff_eq.mpr c3; have c3b1 : ((l0.length : Int) != (l1.length : Int)) = false := bne_eq_false_iff_eq.mpr c3; (have c3b2 : (l0.length == l1.length) = true := by first | simpa using c3 | (simp at c3 ⊢; omega)); clear c3; have H' := Aside0.mk H; clear H; go_enter Try.func14, Try.ntmps14; go_wp2; (repeat (go_quiet (fail); try go_wp2)); go_loopg [13] k (fun kq v13 w' => ∃ (x13_1 : Int), v13 = .int .i64 x13_1 ∧ Aside0 (incunableref24_SamePairs.l0 kq l0 l1 (l0.length : Int) x13_1 = some r) ∧ Aside0 (kq ≤ k) ∧ Drawn0 w w'); (case atStart => exact ⟨(0), (by first | rfl | (simp; done) | (simp [*]; done)), H', ⟨Nat.le_refl _⟩, by repeat (first | exact Drawn0.refl _ | apply Drawn0.step)⟩)
   case round =>
    clear H'; (try clear c1); (try clear p2); (try clear c3); (try clear c3b0); (try clear c3b1); (try clear c3b2); obtain ⟨x13_1, rfl, HA, HK1, ⟨m1, rfl⟩⟩ := hrel
    cases gk with
    | zero => exact absurd HA.out (by simp [incunableref24_SamePairs.l0])
    | succ k1 =>
     have H := HA.out; clear HA; simp only [incunableref24_SamePairs.l0] at H; by_cases c4 : x13_1 < (l0.length : Int)
     (· rw [if_pos c4] at H; have c4b0 : decide (x13_1 < (l0.length : Int)) = true := decide_eq_true c4; clear c4; by_cases c5 : 0 ≤ x13_1; (· rw [if_pos c5] at H; have c5b0 : decide (0 ≤ x13_1) = true := decide_eq_true c5; clear c5; by_cases c6 : x13_1 < (l0.length : Int); (· rw [if_pos c6] at H; have c6b0 : decide (x13_1 < (l0.length : Int)) = true := decide_eq_true c6; clear c6; by_cases c7 : x13_1 < (l1.length : Int); (· rw [if_pos c7] at H; have c7b0 : decide (x13_1 < (l1.length : Int)) = true := decide_eq_true c7; clear c7; by_cases c8 : (!(((rd_T34 l0 x13_1).f0) == ((rd_T34 l1 x13_1).f0)) || (!(((rd_T34 l0 x13_1).f1) == ((rd_T34 l1 x13_1).f1)))) = true; (· rw [if_pos c8] at H; have c8b0 : (!(((rd_T34 l0 x13_1).f0) == ((rd_T34 l1 x13_1).f0)) || (!(((rd_T34 l0 x13_1).f1) == ((rd_T34 l1 x13_1).f1)))) = true := c8; clear c8; obtain rfl := Option.some.inj H; have p116 : 0 ≤ (x13_1 : Int) := of_decide_eq_true (by first | (with_reducible assumption) | assumption); have q116 : x13_1 < (l0.length : Int) := of_decide_eq_true (by first | (with_reducible assumption) | assumption); obtain ⟨ad116, e116, hx116_0, hx116_1⟩ := at_T34 HR0.out x13_1 p116 q116; cases e116; replace p116 := eq_true p116; replace q116 := eq_true q116; have p117 : 0 ≤ (x13_1 : Int) := of_decide_eq_true (by first | (with_reducible assumption) | assumption); have q117 : x13_1 < (l1.length : Int) := of_decide_eq_true (by first | (with_reducible assumption) | assumption); obtain ⟨ad117, e117, hx117_0, hx117_1⟩ := at_T34 HR1.out x13_1 p117 q117; cases e117; replace p117 := eq_true p117; replace q117 := eq_true q117; go_wp2; (repeat (go_quiet (fail); try go_wp2)); go_ret; exact ⟨by first | rfl | (simp; done) | (simp [*]; done), by repeat (first | exact Drawn0.refl _ | apply Drawn0.step)⟩); (· rw [if_neg c8] at H; (have c8b0 : (!(((rd_T34 l0 x13_1).f0) == ((rd_T34 l1 x13_1).f0)) || (!(((rd_T34 l0 x13_1).f1) == ((rd_T34 l1 x13_1).f1)))) = false := by simpa using c8); clear c8; have H' := Aside0.mk H; clear H; have p116 : 0 ≤ (x13_1 : Int) := of_decide_eq_true (by first | (with_reducible assumption) | assumption); have q116 : x13_1 < (l0.length : Int) := of_decide_eq_true (by first | (with_reducible assumption) | assumption); obtain ⟨ad116, e116, hx116_0, hx116_1⟩ := at_T34 HR0.out x13_1 p116 q116; cases e116; replace p116 := eq_true p116; replace q116 := eq_true q116; have p117 : 0 ≤ (x13_1 : Int) := of_decide_eq_true (by first | (with_reducible assumption) | assumption); have q117 : x13_1 < (l1.length : Int) := of_decide_eq_true (by first | (with_reducible assumption) | assumption); obtain ⟨ad117, e117, hx117_0, hx117_1⟩ := at_T34 HR1.out x13_1 p117 q117; cases e117; replace p117 := eq_true p117; replace q117 := eq_true q117; go_wp2; (repeat (go_quiet (fail); try go_wp2)); go_roundg k1; (case measure => have := HK1.out; omega); (case rel => exact ⟨(wrap64 (x13_1 + 1)), (by first | rfl | (simp; done) | (simp [*]; done)), H', ⟨by have := HK1.out; omega⟩, by repeat (first | exact Drawn0.refl _ | apply Drawn0.step)⟩))); (· rw [if_neg c7] at H; exact absurd H (by simp))); (· rw [if_neg c6] at H; exact absurd H (by simp))); (· rw [if_neg c5] at H; exact absurd H (by simp)))
     (· rw [if_neg c4] at H; have c4b0 : decide (x13_1 < (l0.length : Int)) = false := decide_eq_false c4; clear c4; obtain rfl := Option.some.inj H; go_wp2; (repeat (go_quiet (fail); try go_wp2)); go_ret; exact ⟨by first | rfl | (simp; done) | (simp [*]; done), by repeat (first | exact Drawn0.refl _ | apply Drawn0.step)⟩)
 (· rw [if_neg c3] at H; have c3b0 : ((l0.length : Int) == (l1.length : Int)) = false := beq_eq_false_iff_ne.mpr c3; have c3b1 : ((l0.length : Int) != (l1.length : Int)) = true := bne_iff_ne.mpr c3; (have c3b2 : (l0.length == l1.length) = false := by first | simpa using c3 | (simp at c3 ⊢; omega)); obtain rfl := Option.some.inj H; go_enter Try.func14, Try.ntmps14; go_wp2; (repeat (go_quiet (fail); try go_wp2)); go_ret; exact ⟨by first | rfl | (simp; done) | (simp [*]; done), by repeat (first | exact Drawn0.refl _ | apply Drawn0.step)⟩)
end Go.Proofs.Ytgcdhikmdbjfeaa.U
namespace Go.Proofs.Ytgcdhikmdbjfeaa.Zfi
open Go Go.RowKit Go.Proofs.YtgcdhikmdbjfeaaW.PrintWords Go.Proofs.YtgcdhikmdbjfeaaW.PrintLast Go.Proofs.YtgcdhikmdbjfeaaW.PrintMore Go.Proofs.Ytgcdhikmdbjfeaa.U Go.Proofs.Ytgcdhikmdbjfeaa.Aid Go.Proofs.Ytgcdhikmdbjfeaa.HandAid Go.Proofs.Ytgcdhikmdbjfeaa.Zpl Go.Proofs.Ytgcdhikmdbjfeaa.Zrt Go.Proofs.Ytgcdhikmdbjfeaa.Zev
/-- A word stands at a place. -/
def occ (t w : List Int) (a : Nat) : Bool := decide (a + w.length ≤ t.length) && ((t.take (a + w.length)).drop a == w)
/-- The places of a word, from one on. -/
def fnd (t w : List Int) (a : Nat) : List (Nat × Nat) :=
  if h : a < t.length ∧ 0 < w.length then if occ t w a = true then (a, a + w.length) :: fnd t w (a + w.length) else fnd t w (a + 1) else []
  termination_by t.length - a
def prs (l : List (Nat × Nat)) : List (S34) := l.map fun x => ⟨(x.1 : Int), (x.2 : Int)⟩
theorem bytesOf_inj {a b : List Int} (ha : Bytes a) (hb : Bytes b) (h : Lib.bytesOf a = Lib.bytesOf b) : a = b := by
  have h2 := congrArg (List.map fun b : UInt8 => (b.toNat : Int)) h
  have e : ∀ l : List Int, Bytes l → (Lib.bytesOf l).map (fun b : UInt8 => (b.toNat : Int)) = l := by
    intro l hl
    unfold Lib.bytesOf
    rw [List.map_map]
    conv => rhs; rw [← List.map_id l]
    exact List.map_congr_left fun x hx => toByte (hl x hx)
  rwa [e a ha, e b hb] at h2
theorem bytes_cut {t : List Int} (h : Bytes t) (a b : Nat) : Bytes ((t.take b).drop a) := fun x hx => h x (List.mem_of_mem_take (List.mem_of_mem_drop hx))
theorem occ_eq {t w : List Int} (ht : Bytes t) (hw : Bytes w) (a : Nat) (ha : a ≤ t.length) : Lib.occAt (Lib.bytesOf t) (Lib.bytesOf w) a = occ t w a := by
  rw [Bool.eq_iff_iff]
  unfold Lib.occAt occ
  rw [List.isPrefixOf_iff_prefix, Bool.and_eq_true, decide_eq_true_iff, beq_iff_eq]
  constructor
  · rintro ⟨s, hs⟩
    have hl := congrArg List.length hs
    simp [Lib.bytesOf] at hl
    refine ⟨by omega, bytesOf_inj (bytes_cut ht _ _) hw ?_⟩
    have h1 : ((Lib.bytesOf t).drop a).take (Lib.bytesOf w).length = Lib.bytesOf w := by rw [← hs]; simp
    rw [← h1]
    simp [Lib.bytesOf, List.map_drop, List.map_take, List.drop_take]
  · rintro ⟨hl, he⟩
    rw [List.drop_take, Nat.add_sub_cancel_left] at he
    have h2 := congrArg Lib.bytesOf he
    refine ⟨(Lib.bytesOf t).drop (a + w.length), ?_⟩
    simp only [Lib.bytesOf, List.map_take, List.map_drop] at h2 ⊢
    conv => rhs; rw [← List.take_append_drop w.length ((List.map (fun n => UInt8.ofNat n.toNat) t).drop a)]
    rw [h2, List.drop_drop]
theorem fnd_next {t w : List Int} (hw : 0 < w.length) : ∀ m a : Nat, t.length - a = m → ((∀ j, a ≤ j → j < t.length → occ t w j = false) ∧ fnd t w a = []) ∨ ∃ i, a ≤ i ∧ i < t.length ∧ occ t w i = true ∧ (∀ j, a ≤ j → j < i → occ t w j = false) ∧ fnd t w a = (i, i + w.length) :: fnd t w (i + w.length) := by
  intro m
  induction m with
  | zero =>
    intro a hm
    refine .inl ⟨fun j h1 h2 => by omega, ?_⟩
    rw [fnd, dif_neg (by omega)]
  | succ m ih =>
    intro a hm
    rw [fnd, dif_pos (by omega)]
    cases ho : occ t w a
    · rw [if_neg (by simp)]
      rcases ih (a + 1) (by omega) with ⟨h1, h2⟩ | ⟨i, h1, h2, h3, h4, h5⟩
      · refine .inl ⟨fun j hj hj2 => ?_, h2⟩
        by_cases e : j = a
        · rw [e]; exact ho
        · exact h1 j (by omega) hj2
      · refine .inr ⟨i, by omega, h2, h3, fun j hj hj2 => ?_, h5⟩
        by_cases e : j = a
        · rw [e]; exact ho
        · exact h4 j (by omega) hj2
    · rw [if_pos rfl]
      exact .inr ⟨a, Nat.le_refl _, by omega, ho, fun j h1 h2 => by omega, rfl⟩
theorem occ_fit {t w : List Int} {a : Nat} (h : occ t w a = true) : a + w.length ≤ t.length := by
  unfold occ at h
  rw [Bool.and_eq_true, decide_eq_true_iff] at h
  exact h.1
theorem index_at {t w : List Int} (ht : Bytes t) (hb : Bytes w) (hw : 0 < w.length) (a : Nat) (ha : a ≤ t.length) : (fnd t w a = [] ∧ Lib.index (Lib.bytesOf (t.drop a)) (Lib.bytesOf w) = -1) ∨ ∃ i, a ≤ i ∧ i + w.length ≤ t.length ∧ Lib.index (Lib.bytesOf (t.drop a)) (Lib.bytesOf w) = ((i - a : Nat) : Int) ∧ fnd t w a = (i, i + w.length) :: fnd t w (i + w.length) := by
  have hd : Bytes (t.drop a) := fun x hx => ht x (List.mem_of_mem_drop hx)
  have ho : ∀ j, a + j ≤ t.length → Lib.occAt (Lib.bytesOf (t.drop a)) (Lib.bytesOf w) j = occ t w (a + j) := by
    intro j hj
    rw [occ_eq hd hb j (by simp; omega)]
    unfold occ
    congr 1
    · rw [decide_eq_decide, List.length_drop]; omega
    · congr 1
      rw [List.take_drop, List.drop_drop]
      congr 2
      omega
  have hlen : (Lib.bytesOf (t.drop a)).length = t.length - a := by simp [Lib.bytesOf]
  have hwl : (Lib.bytesOf w).length = w.length := by simp [Lib.bytesOf]
  rcases fnd_next hw _ a rfl with ⟨h1, h2⟩ | ⟨i, h1, h2, h3, h4, h5⟩
  · refine .inl ⟨h2, ?_⟩
    refine Lib.index_past (i := t.length - a) (by intro e; rw [e] at hwl; simp at hwl; omega) (fun j hj => ?_) (by rw [hlen, hwl]; omega)
    rw [ho j (by omega)]
    exact h1 _ (by omega) (by omega)
  · refine .inr ⟨i, h1, occ_fit h3, ?_, h5⟩
    refine Lib.index_hit (fun j hj => ?_) (by rw [hlen]; omega) ?_
    · rw [ho j (by omega)]
      exact h4 _ (by omega) (by omega)
    · rw [ho _ (by omega), show a + (i - a) = i by omega]
      exact h3
theorem prs_cons (x : Nat × Nat) (l : List (Nat × Nat)) : prs (x :: l) = (⟨(x.1 : Int), (x.2 : Int)⟩ : S34) :: prs l := rfl
theorem bytes_all {l : List Int} (h : Bytes l) : (l.all fun x => decide (0 ≤ x ∧ x ≤ 255)) = true := List.all_eq_true.2 fun x hx => decide_eq_true (h x hx)
/-- The program's search, from a place on. -/
theorem find_loop {t w : List Int} (ht : Bytes t) (hb : Bytes w) (hw : 0 < w.length) (hwl : w.length ≤ 140737488351232) (htl : t.length ≤ 4000) (l : List Zn) : ∀ m a : Nat, t.length - a = m → a ≤ t.length → ∀ acc : List (S34), acc.length + (t.length - a) ≤ 4000 → Ev (fun k => zone_Find.l0 k w acc (a : Int) t l) (acc ++ prs (fnd t w a), 0) := by
  intro m
  induction m using Nat.strongRecOn with
  | ind m ih =>
    intro a hm ha acc hac
    have hf : bytes_Index.f (t.drop a) w = some (Lib.index (Lib.bytesOf (t.drop a)) (Lib.bytesOf w)) := by
      unfold bytes_Index.f
      exact if_pos ⟨bytes_all fun x hx => ht x (List.mem_of_mem_drop hx), bytes_all hb, by rw [List.length_drop]; omega, List.length_pos_iff.1 hw⟩
    refine ev_succ ?_
    simp only [zone_Find.l0]
    refine ev_pos (by omega) (ev_pos (by omega) (ev_pure (by rw [Int.toNat_natCast]; exact hf) ?_))
    rcases index_at ht hb hw a ha with ⟨h1, h2⟩ | ⟨i, h1, h2, h3, h4⟩
    · rw [h1, h2]
      refine ev_pos (by omega) (ev_const (by simp [prs]))
    · rw [h3, h4]
      refine ev_neg (by omega) (ev_pos (by omega) ?_)
      rw [wrap_id (n := (a : Int) + ((i - a : Nat) : Int)) (by omega) (by omega), wrap_id (n := ((i - a : Nat) : Int) + (w.length : Int)) (by omega) (by omega), wrap_id (n := (a : Int) + (((i - a : Nat) : Int) + (w.length : Int))) (by omega) (by omega), wrap_id (n := (a : Int) + ((i - a : Nat) : Int) + (w.length : Int)) (by omega) (by omega)]
      rw [show (a : Int) + ((i - a : Nat) : Int) = (i : Int) by omega, show (a : Int) + (((i - a : Nat) : Int) + (w.length : Int)) = ((i + w.length : Nat) : Int) by omega]
      refine ev_eq (ih (t.length - (i + w.length)) (by omega) (i + w.length) rfl h2 _ (by simp; omega)) ?_
      rw [prs_cons]
      simp
theorem find_ev {t w : List Int} (ht : Bytes t) (hb : Bytes w) (hwl : w.length ≤ 140737488351232) (l : List Zn) : Ev (fun k => zone_Find.f k t l w) (if vldZ t l = true then (if w.length = 0 then ([], 2) else (prs (fnd t w 0), 0)) else ([], 90)) := by
  unfold zone_Find.f
  refine ev_pure (show zone_Valid.f t l = some (vldZ t l) from rfl) ?_
  cases hv : vldZ t l
  · exact ev_neg (by simp) (ev_const (by simp))
  · refine ev_pos rfl ?_
    rw [if_pos rfl]
    by_cases hw : w.length = 0
    · rw [if_pos hw]
      exact ev_pos (by omega) (ev_const rfl)
    · rw [if_neg hw]
      refine ev_neg (by omega) ?_
      have := (vldZ_iff.1 hv).1
      exact ev_eq (find_loop ht hb (by omega) hwl this l _ 0 rfl (by omega) [] (by simp; omega)) (by simp)
theorem pairs_loop (l : List (S34)) (hl : l.length ≤ 9223372036854775807) : ∀ m i : Nat, l.length - i = m → i ≤ l.length → Ev (fun k => incunableref24_SamePairs.l0 k l l (l.length : Int) (i : Int)) true := by
  intro m
  induction m with
  | zero =>
    intro i hm hi
    obtain rfl : i = l.length := by omega
    refine ev_succ ?_
    simp only [incunableref24_SamePairs.l0]
    exact ev_neg (by omega) (ev_const rfl)
  | succ m ih =>
    intro i hm hi
    refine ev_succ ?_
    simp only [incunableref24_SamePairs.l0]
    rw [wrap_id (n := (i : Int) + 1) (by omega) (by omega), show (i : Int) + 1 = ((i + 1 : Nat) : Int) from rfl]
    exact ev_pos (by omega) (ev_pos (by omega) (ev_pos (by omega) (ev_pos (by omega) (ev_neg (by simp) (ih (i + 1) (by omega) (by omega))))))
theorem pairs_self (l : List (S34)) (hl : l.length ≤ 9223372036854775807) : Ev (fun k => incunableref24_SamePairs.f k l l) true := by
  unfold incunableref24_SamePairs.f
  exact ev_pos rfl (pairs_loop l hl _ 0 rfl (by omega))
end Go.Proofs.Ytgcdhikmdbjfeaa.Zfi
namespace Go.Proofs.Ytgcdhikmdbjfeaa.Zaw
open Go Go.RowKit Go.Proofs.YtgcdhikmdbjfeaaW.PrintWords Go.Proofs.YtgcdhikmdbjfeaaW.PrintLast Go.Proofs.YtgcdhikmdbjfeaaW.PrintMore Go.Proofs.Ytgcdhikmdbjfeaa.U Go.Proofs.Ytgcdhikmdbjfeaa.Aid Go.Proofs.Ytgcdhikmdbjfeaa.HandAid Go.Proofs.Ytgcdhikmdbjfeaa.Zpl Go.Proofs.Ytgcdhikmdbjfeaa.Zix Go.Proofs.Ytgcdhikmdbjfeaa.Zfi
theorem vld_nil (t : List Int) (h : t.length ≤ 4000) : vldZ t [] = true := by
  rw [vldZ_iff]
  exact ⟨h, by rw [okT]; trivial, by rw [cnt]; decide, by rw [dep]; decide⟩
theorem C_cells {W : World} {g : Nat} {t : TypeId} {fr : Nat × Nat} {l : List Int} (h : W.heap[g]? = some (.cells (l.map (Value.int .u8)).toArray t fr)) (hl : l.length ≤ 9223372036854775807) : Kd.C (Kd.int .u8) W (some ⟨g, 0, none⟩) l.length l := by
  refine Kd.C_of_reads (enc := Value.int .u8) (d := (0 : Int)) (h1 := fun _ => rfl) ⟨rfl, hl, fun _ => ⟨_, rfl, fun j hj => ?_⟩⟩
  rw [Addr.add_lit]
  simp only [World.cell?, h]
  simp [List.getElem?_eq_getElem hj, List.getD_eq_getElem?_getD]
theorem C_pairs {W : World} {g : Nat} {t : TypeId} {fr : Nat × Nat} {l : List (S34)} (h : W.heap[g]? = some (.cells (l.flatMap fun x => [.int .i64 x.f0, .int .i64 x.f1]).toArray t fr)) (hl : l.length ≤ 9223372036854775807) : Kd.C k34 W (some ⟨g, 0, none⟩) l.length l := by
  refine ⟨rfl, hl, fun _ => ⟨_, rfl, fun j p hj => ⟨[.int .i64 p.f0, .int .i64 p.f1], rfl, k34_mk W p, fun i u hi => ?_⟩⟩⟩
  rw [Addr.add_lit]
  simp only [World.cell?, h]
  have key : ∀ (l : List (S34)) (j : Nat) (p : S34), l[j]? = some p → ∀ i u, [Value.int .i64 p.f0, Value.int .i64 p.f1][i]? = some u → (l.flatMap fun x => [Value.int .i64 x.f0, Value.int .i64 x.f1])[j * 2 + i]? = some u := by
    intro l
    induction l with
    | nil => intro j p hj; simp at hj
    | cons x l ih =>
      intro j p hj i u hi
      cases j with
      | zero =>
        simp at hj
        subst hj
        match i, hi with
        | 0, hi => simpa using hi
        | 1, hi => simpa using hi
      | succ j =>
        have := ih j p (by simpa using hj) i u hi
        rw [List.flatMap_cons, show (j + 1) * 2 + i = j * 2 + i + 2 by omega]
        simpa using this
  have hk := key l j p hj i u hi
  rw [← List.getElem?_toArray] at hk
  simpa [show k34.sz = 2 from rfl] using hk
theorem heap_top (w : World) (o : Obj) : (w.alloc o).heap[w.heap.size]? = some o := blk_new w o
theorem awake1 : fnd [97, 98, 32, 97, 98] [97, 98] 0 = [(0, 2), (3, 5)] := by
  rw [fnd, dif_pos (by decide), if_pos (by decide), fnd, dif_pos (by decide), if_neg (by decide), fnd, dif_pos (by decide), if_pos (by decide), fnd, dif_neg (by decide)]
  rfl
theorem awake2 : fnd [97, 97, 97] [97, 97] 0 = [(0, 2)] := by
  rw [fnd, dif_pos (by decide), if_pos (by decide), fnd, dif_pos (by decide), if_neg (by decide), fnd, dif_neg (by decide)]
  rfl
theorem bytes_lit {l : List Int} (h : (l.all fun x => decide (0 ≤ x ∧ x ≤ 255)) = true) : Bytes l := fun x hx => of_decide_eq_true (List.all_eq_true.1 h x hx)
set_option maxHeartbeats 4000000 in
set_option maxRecDepth 100000 in
theorem awake_calls (w : World) (hG : GG w) : Calls Try.prog 11 #[] w fun e w' => e = .returned (.bool true) ∧ Below w.heap.size w w' := by
  obtain ⟨k1, f1⟩ := find_ev (t := [97, 98, 32, 97, 98]) (w := [97, 98]) (bytes_lit (by decide)) (bytes_lit (by decide)) (by decide) []
  obtain ⟨k2, f2⟩ := find_ev (t := [97, 97, 97]) (w := [97, 97]) (bytes_lit (by decide)) (bytes_lit (by decide)) (by decide) []
  obtain ⟨k3, f3⟩ := pairs_self [⟨0, 2⟩, ⟨3, 5⟩] (by decide)
  obtain ⟨k4, f4⟩ := pairs_self [⟨0, 2⟩] (by decide)
  have F1 := f1 k1 (Nat.le_refl _)
  have F2 := f2 k2 (Nat.le_refl _)
  have F3 := f3 k3 (Nat.le_refl _)
  have F4 := f4 k4 (Nat.le_refl _)
  rw [if_pos (vld_nil _ (by decide)), if_neg (by decide), awake1, show prs [(0, 2), (3, 5)] = [⟨0, 2⟩, ⟨3, 5⟩] from rfl] at F1
  rw [if_pos (vld_nil _ (by decide)), if_neg (by decide), awake2, show prs [(0, 2)] = [⟨0, 2⟩] from rfl] at F2
  clear f1 f2 f3 f4
  have HF1 := Aside0.mk F1
  have HF2 := Aside0.mk F2
  have HF3 := Aside0.mk F3
  have HF4 := Aside0.mk F4
  clear F1 F2 F3 F4
  have HG := Aside0.mk hG
  clear hG
  have hu25 := Try.underlying25
  have hu34 := Try.underlying34
  go_enter Try.func11, Try.ntmps11
  have c1 := Go.Lib.run_convert_bytes_const (P := Try.prog) w 22 5 #[.int .u8 97, .int .u8 98, .int .u8 32, .int .u8 97, .int .u8 98] 5 5 Try.underlying22 Try.underlying5
  have h1 := heap_top w (.cells #[.int .u8 97, .int .u8 98, .int .u8 32, .int .u8 97, .int .u8 98] 5 (5, 6))
  have b1 := below_alloc (Below.refl w.heap.size w) (.cells #[.int .u8 97, .int .u8 98, .int .u8 32, .int .u8 97, .int .u8 98] 5 (5, 6))
  simp only [List.size_toArray, List.length_cons, List.length_nil, Nat.zero_add, Nat.reduceAdd] at c1
  obtain ⟨W1, hW1⟩ : ∃ x, w.alloc (.cells #[.int .u8 97, .int .u8 98, .int .u8 32, .int .u8 97, .int .u8 98] 5 (5, 6)) = x := ⟨_, rfl⟩
  rw [hW1] at c1 h1 b1
  have c2 := Go.Lib.run_convert_bytes_const (P := Try.prog) W1 22 5 #[.int .u8 97, .int .u8 98] 2 2 Try.underlying22 Try.underlying5
  have h2 := heap_top W1 (.cells #[.int .u8 97, .int .u8 98] 5 (2, 3))
  have b2 := below_alloc (Below.refl W1.heap.size W1) (.cells #[.int .u8 97, .int .u8 98] 5 (2, 3))
  simp only [List.size_toArray, List.length_cons, List.length_nil, Nat.zero_add, Nat.reduceAdd] at c2
  obtain ⟨W2, hW2⟩ : ∃ x, W1.alloc (.cells #[.int .u8 97, .int .u8 98] 5 (2, 3)) = x := ⟨_, rfl⟩
  rw [hW2] at c2 h2 b2
  have HC1 := Aside0.mk (C_cells (l := [97, 98, 32, 97, 98]) (blk_below h1 b2) (by decide))
  have HC2 := Aside0.mk (C_cells (l := [97, 98]) h2 (by decide))
  have HB := Aside0.mk (below_then b1 b1.size b2)
  clear h1 h2 b1 b2 hW1 hW2
  go_wp2_with (fail)
  refine (zone_Find.calls k1 _ 5 [97, 98, 32, 97, 98] none 0 [] _ 2 [97, 98] _ 0 W2 (GG_below HG.out HB.out) HC1.out (by decide) (Kd.C_nil _ _) (Nat.le_refl _) HC2.out (by decide) HF1.out).mono ?_
  rintro e w3 ⟨v1, rfl, ho, hb⟩
  obtain ⟨A1, z1, rfl⟩ := Kd.R_slice ho
  have HS1 := Aside0.mk (Kd.R_reads' ho).2.2
  have HZ1 := Aside0.mk (Kd.R_reads' ho).2.1
  have HB := Aside0.mk (below_then HB.out HB.out.size hb)
  clear ho hb HC1 HC2 c1 c2
  have c1 := Go.Lib.run_convert_bytes_const (P := Try.prog) w3 22 5 #[.int .u8 97, .int .u8 97, .int .u8 97] 3 3 Try.underlying22 Try.underlying5
  have h1 := heap_top w3 (.cells #[.int .u8 97, .int .u8 97, .int .u8 97] 5 (3, 4))
  have b1 := below_alloc (Below.refl w3.heap.size w3) (.cells #[.int .u8 97, .int .u8 97, .int .u8 97] 5 (3, 4))
  simp only [List.size_toArray, List.length_cons, List.length_nil, Nat.zero_add, Nat.reduceAdd] at c1
  obtain ⟨W4, hW1⟩ : ∃ x, w3.alloc (.cells #[.int .u8 97, .int .u8 97, .int .u8 97] 5 (3, 4)) = x := ⟨_, rfl⟩
  rw [hW1] at c1 h1 b1
  have c2 := Go.Lib.run_convert_bytes_const (P := Try.prog) W4 22 5 #[.int .u8 97, .int .u8 97] 2 2 Try.underlying22 Try.underlying5
  have h2 := heap_top W4 (.cells #[.int .u8 97, .int .u8 97] 5 (2, 3))
  have b2 := below_alloc (Below.refl W4.heap.size W4) (.cells #[.int .u8 97, .int .u8 97] 5 (2, 3))
  simp only [List.size_toArray, List.length_cons, List.length_nil, Nat.zero_add, Nat.reduceAdd] at c2
  obtain ⟨W5, hW2⟩ : ∃ x, W4.alloc (.cells #[.int .u8 97, .int .u8 97] 5 (2, 3)) = x := ⟨_, rfl⟩
  rw [hW2] at c2 h2 b2
  have HC1 := Aside0.mk (C_cells (l := [97, 97, 97]) (blk_below h1 b2) (by decide))
  have HC2 := Aside0.mk (C_cells (l := [97, 97]) h2 (by decide))
  have HS1 := Aside0.mk (Kd.C_below HS1.out (below_then b1 b1.size b2))
  have HB := Aside0.mk (below_then HB.out HB.out.size (below_then b1 b1.size b2))
  clear h1 h2 b1 b2 hW1 hW2
  go_wp2_with (fail)
  refine (zone_Find.calls k2 _ 3 [97, 97, 97] none 0 [] _ 2 [97, 97] _ 0 W5 (GG_below HG.out HB.out) HC1.out (by decide) (Kd.C_nil _ _) (Nat.le_refl _) HC2.out (by decide) HF2.out).mono ?_
  rintro e w6 ⟨v2, rfl, ho, hb⟩
  obtain ⟨A2, z2, rfl⟩ := Kd.R_slice ho
  have HS1 := Aside0.mk (Kd.C_below HS1.out hb)
  have HS2 := Aside0.mk (Kd.R_reads' ho).2.2
  have HZ2 := Aside0.mk (Kd.R_reads' ho).2.1
  have HB := Aside0.mk (below_then HB.out HB.out.size hb)
  clear ho hb HC1 HC2 c1 c2
  have hL1 := C_pairs (l := [⟨0, 2⟩, ⟨3, 5⟩]) (heap_top w6 (.cells #[.int .i64 0, .int .i64 2, .int .i64 3, .int .i64 5] 34)) (by decide)
  have hbL := below_alloc (Below.refl w6.heap.size w6) (.cells #[.int .i64 0, .int .i64 2, .int .i64 3, .int .i64 5] 34)
  have HL1 := Aside0.mk hL1
  have HS1 := Aside0.mk (Kd.C_below HS1.out hbL)
  have HS2 := Aside0.mk (Kd.C_below HS2.out hbL)
  have HB := Aside0.mk (below_then HB.out HB.out.size hbL)
  clear hL1 hbL
  go_wp2_with (fail)
  refine (incunableref24_SamePairs.calls k3 _ _ [⟨0, 2⟩, ⟨3, 5⟩] _ 2 [⟨0, 2⟩, ⟨3, 5⟩] true _ HS1.out HZ1.out HL1.out (by decide) HF3.out).mono ?_
  rintro e w7 ⟨rfl, hd⟩
  have HB := Aside0.mk (below_then HB.out HB.out.size hd.below)
  have HS2 := Aside0.mk (Kd.C_below HS2.out hd.below)
  have hL1 := C_pairs (l := [⟨0, 2⟩]) (heap_top w7 (.cells #[.int .i64 0, .int .i64 2] 34)) (by decide)
  have hbL := below_alloc (Below.refl w7.heap.size w7) (.cells #[.int .i64 0, .int .i64 2] 34)
  have HL2 := Aside0.mk hL1
  have HS2 := Aside0.mk (Kd.C_below HS2.out hbL)
  have HB := Aside0.mk (below_then HB.out HB.out.size hbL)
  clear hL1 hbL hd
  go_wp2_with (fail)
  refine (incunableref24_SamePairs.calls k4 _ _ [⟨0, 2⟩] _ 1 [⟨0, 2⟩] true _ HS2.out HZ2.out HL2.out (by decide) HF4.out).mono ?_
  rintro e w8 ⟨rfl, hd⟩
  have HB := Aside0.mk (below_then HB.out HB.out.size hd.below)
  clear hd
  go_wp2_with (fail)
  go_ret
  exact ⟨rfl, HB.out⟩
end Go.Proofs.Ytgcdhikmdbjfeaa.Zaw
namespace Go.Proofs.Ytgcdhikmdbjfeaa.U
open Go Go.RowKit Go.Proofs.YtgcdhikmdbjfeaaW.PrintWords Go.Proofs.YtgcdhikmdbjfeaaW.PrintLast Go.Proofs.YtgcdhikmdbjfeaaW.PrintMore Go.Proofs.Ytgcdhikmdbjfeaa.Aid Go.Proofs.Ytgcdhikmdbjfeaa.HandAid
def incunablelaw24_Awake.f : Option Bool := some true
theorem incunablelaw24_Awake.calls (r : Bool) (w : World) (hGG : Go.Proofs.Ytgcdhikmdbjfeaa.Zix.GG w) (h : incunablelaw24_Awake.f = some r) :
    Calls Try.prog 11 #[] w fun e w' => e = .returned (.bool r) ∧ Below w.heap.size w w' := by
  obtain rfl := Option.some.inj h
  exact Go.Proofs.Ytgcdhikmdbjfeaa.Zaw.awake_calls w hGG
end Go.Proofs.Ytgcdhikmdbjfeaa.U
namespace Go.Proofs.Ytgcdhikmdbjfeaa.Zat
open Go Go.RowKit Go.Proofs.YtgcdhikmdbjfeaaW.PrintWords Go.Proofs.YtgcdhikmdbjfeaaW.PrintLast Go.Proofs.YtgcdhikmdbjfeaaW.PrintMore Go.Proofs.Ytgcdhikmdbjfeaa.U Go.Proofs.Ytgcdhikmdbjfeaa.Aid Go.Proofs.Ytgcdhikmdbjfeaa.HandAid Go.Proofs.Ytgcdhikmdbjfeaa.Zpl Go.Proofs.Ytgcdhikmdbjfeaa.Zrt
/-- The first zone that has a pixel. -/
def idxF (x y : Int) : List Zn → Int → Int
  | [], _ => -1
  | z :: l, i => if has x y z = true then i else idxF x y l (i + 1)
theorem idx_way (x y : Int) : ∀ (l : List Zn) (i : Int), 0 ≤ i → (idxF x y l i = -1 ∧ way l i x y = []) ∨ ∃ k : Nat, k < l.length ∧ idxF x y l i = i + k ∧ way l i x y = (i + k) :: way (rd_T62 l k).f7 0 x y := by
  intro l
  induction l with
  | nil => intro i _; exact .inl ⟨rfl, by rw [way]⟩
  | cons z l ih =>
    intro i hi
    unfold idxF
    rw [way]
    cases hh : has x y z
    · rw [if_neg (by simp), if_neg (by simp)]
      rcases ih (i + 1) (by omega) with h | ⟨k, h1, h2, h3⟩
      · exact .inl h
      · refine .inr ⟨k + 1, by simpa using h1, by rw [h2]; omega, ?_⟩
        rw [h3]
        congr 1
        omega
    · rw [if_pos rfl, if_pos rfl]
      exact .inr ⟨0, by simp, by simp, by simp [rd_T62]⟩
theorem okT_at {l : List Zn} : ∀ {p : Zn} {e : Int}, okT l p e → ∀ k : Nat, k < l.length → isz (rd_T62 l k) = true ∧ okT (rd_T62 l k).f7 (rd_T62 l k) 0 := by
  induction l with
  | nil => intro p e _ k hk; simp at hk
  | cons z l ih =>
    intro p e h k hk
    rw [okT] at h
    cases k with
    | zero => exact ⟨h.1, h.2.2.2.1⟩
    | succ k => exact ih h.2.2.2.2 k (by simpa using hk)
theorem dep_rd {l : List Zn} {k : Nat} (h : k < l.length) : dep (rd_T62 l k).f7 + 1 ≤ dep l := by
  induction l generalizing k with
  | nil => simp at h
  | cons z l ih =>
    rw [dep]
    cases k with
    | zero => exact Int.le_max_left _ _
    | succ k =>
      have := ih (k := k) (by simpa using h)
      exact Int.le_trans this (Int.le_max_right _ _)
set_option maxHeartbeats 4000000 in
set_option maxRecDepth 100000 in
theorem closure_calls (x y : Int) (gx gy : Nat) (z : Zn) (A : Option Addr) (c : Nat) (w : World) (hz : isz z = true) (hx : w.heap[gx]? = some (.cells #[.int .i64 x] 3 (0, 0))) (hy : w.heap[gy]? = some (.cells #[.int .i64 y] 3 (0, 0))) :
    Calls Try.prog 42 #[.agg #[.int .i64 z.f0, .int .i64 z.f1, .int .i64 z.f2, .int .i64 z.f3, .int .i64 z.f4, .int .i64 z.f5, .int .i64 z.f6, .slice A z.f7.length c], .pointer (some ⟨gx, 0, none⟩), .pointer (some ⟨gy, 0, none⟩)] w fun e w' => e = .returned (.bool (has x y z)) ∧ Below w.heap.size w w' := by
  have hu62 := Try.underlying62
  have hq := isz_iff.1 hz
  have b1 : z.f1 ≤ 100000 := by omega
  have b1' : -100000 ≤ z.f1 := by omega
  have b2 : z.f2 ≤ 100000 := by omega
  have b2' : -100000 ≤ z.f2 := by omega
  have b3 : z.f3 ≤ 200 := by omega
  have b3' : 0 ≤ z.f3 := by omega
  have b4 : z.f4 ≤ 200 := by omega
  have b4' : 0 ≤ z.f4 := by omega
  clear hq hz
  have hbA := below_alloc (Below.refl w.heap.size w) (.cells #[.int .i64 z.f0, .int .i64 z.f1, .int .i64 z.f2, .int .i64 z.f3, .int .i64 z.f4, .int .i64 z.f5, .int .i64 z.f6, .slice A z.f7.length c] 62)
  have HX := Aside0.mk (blk_below hx hbA)
  have HY := Aside0.mk (blk_below hy hbA)
  have HBA := Aside0.mk hbA
  have HZ := Aside0.mk (heap_new w (.cells #[.int .i64 z.f0, .int .i64 z.f1, .int .i64 z.f2, .int .i64 z.f3, .int .i64 z.f4, .int .i64 z.f5, .int .i64 z.f6, .slice A z.f7.length c] 62))
  obtain ⟨gz, hgz⟩ : ∃ q, w.heap.size = q := ⟨_, rfl⟩
  obtain ⟨W1, hW1⟩ : ∃ q, w.alloc (.cells #[.int .i64 z.f0, .int .i64 z.f1, .int .i64 z.f2, .int .i64 z.f3, .int .i64 z.f4, .int .i64 z.f5, .int .i64 z.f6, .slice A z.f7.length c] 62) = q := ⟨_, rfl⟩
  rw [hW1] at HX HY HBA HZ
  rw [hgz] at HZ
  have kx : W1.cell? ⟨gx, 0, none⟩ = some (.int .i64 x) := (blk_cell HX.out 0).trans rfl
  have ky : W1.cell? ⟨gy, 0, none⟩ = some (.int .i64 y) := (blk_cell HY.out 0).trans rfl
  have kz0 : W1.cell? ⟨gz, 0, none⟩ = some (.int .i64 z.f0) := (blk_cell HZ.out 0).trans rfl
  have kz1 : W1.cell? ⟨gz, 1, none⟩ = some (.int .i64 z.f1) := (blk_cell HZ.out 1).trans rfl
  have kz2 : W1.cell? ⟨gz, 2, none⟩ = some (.int .i64 z.f2) := (blk_cell HZ.out 2).trans rfl
  have kz3 : W1.cell? ⟨gz, 3, none⟩ = some (.int .i64 z.f3) := (blk_cell HZ.out 3).trans rfl
  have kz4 : W1.cell? ⟨gz, 4, none⟩ = some (.int .i64 z.f4) := (blk_cell HZ.out 4).trans rfl
  have kz5 : W1.cell? ⟨gz, 5, none⟩ = some (.int .i64 z.f5) := (blk_cell HZ.out 5).trans rfl
  have kz6 : W1.cell? ⟨gz, 6, none⟩ = some (.int .i64 z.f6) := (blk_cell HZ.out 6).trans rfl
  have kz7 : W1.cell? ⟨gz, 7, none⟩ = some (.slice A z.f7.length c) := (blk_cell HZ.out 7).trans rfl
  obtain ⟨r, hr⟩ : ∃ r, has x y z = r := ⟨_, rfl⟩
  have HR := Aside0.mk hr
  rw [hr]
  clear hr hx hy hbA
  have HBW := Aside0.mk (show Below w.heap.size w W1 from HBA.out)
  by_cases h0 : z.f1 ≤ x
  · have t0 : decide (z.f1 ≤ x) = true := decide_eq_true h0
    by_cases h1 : z.f2 ≤ y
    · have t1 : decide (z.f2 ≤ y) = true := decide_eq_true h1
      by_cases h2 : x < z.f1 + z.f3
      · have t2 : decide (x < z.f1 + z.f3) = true := decide_eq_true h2
        by_cases h3 : y < z.f2 + z.f4
        · have t3 : decide (y < z.f2 + z.f4) = true := decide_eq_true h3
          have HR := Aside0.mk (show true = r from by rw [← HR.out]; unfold has; symm; exact decide_eq_true ⟨h0, h1, h2, h3⟩)
          clear h0 h1 h2 h3
          go_enter Try.func42, Try.ntmps42
          go_wp2_with (fail)
          go_ret
          exact ⟨congrArg (fun b => Ending.returned (.bool b)) HR.out, HBW.out⟩
        · have t3 : decide (y < z.f2 + z.f4) = false := decide_eq_false h3
          have HR := Aside0.mk (show false = r from by rw [← HR.out]; unfold has; symm; exact decide_eq_false (fun hh => h3 (by omega)))
          clear h0 h1 h2 h3
          go_enter Try.func42, Try.ntmps42
          go_wp2_with (fail)
          go_ret
          exact ⟨congrArg (fun b => Ending.returned (.bool b)) HR.out, HBW.out⟩
      · have t2 : decide (x < z.f1 + z.f3) = false := decide_eq_false h2
        have HR := Aside0.mk (show false = r from by rw [← HR.out]; unfold has; symm; exact decide_eq_false (fun hh => h2 (by omega)))
        clear h0 h1 h2
        go_enter Try.func42, Try.ntmps42
        go_wp2_with (fail)
        go_ret
        exact ⟨congrArg (fun b => Ending.returned (.bool b)) HR.out, HBW.out⟩
    · have t1 : decide (z.f2 ≤ y) = false := decide_eq_false h1
      have HR := Aside0.mk (show false = r from by rw [← HR.out]; unfold has; symm; exact decide_eq_false (fun hh => h1 (by omega)))
      clear h0 h1
      go_enter Try.func42, Try.ntmps42
      go_wp2_with (fail)
      go_ret
      exact ⟨congrArg (fun b => Ending.returned (.bool b)) HR.out, HBW.out⟩
  · have t0 : decide (z.f1 ≤ x) = false := decide_eq_false h0
    have HR := Aside0.mk (show false = r from by rw [← HR.out]; unfold has; symm; exact decide_eq_false (fun hh => h0 (by omega)))
    clear h0
    go_enter Try.func42, Try.ntmps42
    go_wp2_with (fail)
    go_ret
    exact ⟨congrArg (fun b => Ending.returned (.bool b)) HR.out, HBW.out⟩
set_option maxHeartbeats 4000000 in
set_option maxRecDepth 100000 in
theorem index_calls (x y : Int) (gx gy : Nat) (l : List Zn) (A : Option Addr) (c : Nat) (w0 w : World) (hA : Kd.C k62 w0 A l.length l) (hB0 : Below w0.heap.size w0 w) (hz : ∀ k : Nat, k < l.length → isz (rd_T62 l k) = true) (hx : w.heap[gx]? = some (.cells #[.int .i64 x] 3 (0, 0))) (hy : w.heap[gy]? = some (.cells #[.int .i64 y] 3 (0, 0))) :
    Calls Try.prog 41 #[.slice A l.length c, .func (.func 42) #[] #[.pointer (some ⟨gx, 0, none⟩), .pointer (some ⟨gy, 0, none⟩)]] w fun e w' => e = .returned (.int .i64 (idxF x y l 0)) ∧ Below w.heap.size w w' := by
  have hu62 := Try.underlying62
  have hla : l.length ≤ 9223372036854775807 := Kd.C_max hA
  have HA := Aside0.mk hA
  have HZS := Aside0.mk hz
  have HX := Aside0.mk hx
  have HY := Aside0.mk hy
  have HB0 := Aside0.mk hB0
  obtain ⟨r, hr⟩ : ∃ r, idxF x y l 0 = r := ⟨_, rfl⟩
  have HR := Aside0.mk hr
  rw [hr]
  clear hA hz hx hy hB0 hr
  go_enter Try.func41, Try.ntmps41
  go_wp2_with (fail)
  go_loopw [4, 8] (fun e_ i wr => ∃ k : Nat, k ≤ l.length ∧ e_ = .int .i64 0 ∧ i = .int .i64 k ∧ Aside0 (r = idxF x y (l.drop k) k) ∧ Aside0 (Below w.heap.size w wr)) (fun _ i _ => l.length - (intOf i).toNat)
  case atStart => exact ⟨0, by omega, rfl, rfl, ⟨HR.out.symm⟩, ⟨Below.refl _ _⟩⟩
  case round =>
    clear HR
    obtain ⟨k, hk, rfl, rfl, HR, HW⟩ := hrel
    by_cases hlt : k < l.length
    · have hltk : (k : Int) < (l.length : Int) := by omega
      obtain ⟨ad, A7, c7, eA, hx0, hx1, hx2, hx3, hx4, hx5, hx6, hx7, hl7, hi7⟩ := at_T62 HA.out k (by omega) (by omega)
      cases eA
      clear hi7 hl7
      have HS := Aside0.mk (HZS.out k hlt)
      have HD := Aside0.mk (drop_at hlt)
      obtain ⟨z, hz⟩ : ∃ z, rd_T62 l k = z := ⟨_, rfl⟩
      rw [hz] at hx0 hx1 hx2 hx3 hx4 hx5 hx6 hx7 HS HD
      clear hz
      simp only [Int.toNat_natCast] at hx0 hx1 hx2 hx3 hx4 hx5 hx6 hx7
      replace hx0 := ((below_then HB0.out HB0.out.size HW.out).cell (World.block_lt_of_cell? w0 _ hx0)).trans hx0
      replace hx1 := ((below_then HB0.out HB0.out.size HW.out).cell (World.block_lt_of_cell? w0 _ hx1)).trans hx1
      replace hx2 := ((below_then HB0.out HB0.out.size HW.out).cell (World.block_lt_of_cell? w0 _ hx2)).trans hx2
      replace hx3 := ((below_then HB0.out HB0.out.size HW.out).cell (World.block_lt_of_cell? w0 _ hx3)).trans hx3
      replace hx4 := ((below_then HB0.out HB0.out.size HW.out).cell (World.block_lt_of_cell? w0 _ hx4)).trans hx4
      replace hx5 := ((below_then HB0.out HB0.out.size HW.out).cell (World.block_lt_of_cell? w0 _ hx5)).trans hx5
      replace hx6 := ((below_then HB0.out HB0.out.size HW.out).cell (World.block_lt_of_cell? w0 _ hx6)).trans hx6
      replace hx7 := ((below_then HB0.out HB0.out.size HW.out).cell (World.block_lt_of_cell? w0 _ hx7)).trans hx7
      have HCL := Aside0.mk (closure_calls x y gx gy z A7 c7 wr HS.out (blk_below HX.out HW.out) (blk_below HY.out HW.out))
      obtain ⟨q, hq⟩ : ∃ q, has x y z = q := ⟨_, rfl⟩
      have HR := Aside0.mk (show r = (if q = true then (k : Int) else idxF x y (l.drop (k + 1)) ((k : Int) + 1)) by rw [HR.out, HD.out, ← hq]; rfl)
      rw [hq] at HCL
      clear hq
      cases q
      · have HR := Aside0.mk (show r = idxF x y (l.drop (k + 1)) (((k + 1 : Nat) : Int)) from HR.out.trans (if_neg (by simp)))
        have hk1 : k + 1 ≤ l.length := hlt
        go_wp2_with (go_at_call 42; refine HCL.out.mono ?_; rintro e w5 ⟨rfl, hb⟩; have HB5 := Aside0.mk hb; clear hb)
        go_roundw
        case rel => exact ⟨k + 1, hk1, rfl, by go_num, HR, ⟨below_then HW.out HW.out.size HB5.out⟩⟩
        case measure => simp [intOf]; omega
      · have HR := Aside0.mk (show r = (k : Int) from HR.out.trans (if_pos rfl))
        go_wp2_with (go_at_call 42; refine HCL.out.mono ?_; rintro e w5 ⟨rfl, hb⟩; have HB5 := Aside0.mk hb; clear hb)
        go_ret
        exact ⟨congrArg (fun b => Ending.returned (.int .i64 b)) HR.out.symm, below_then HW.out HW.out.size HB5.out⟩
    · obtain rfl : k = l.length := by omega
      have HR := Aside0.mk (show r = -1 by rw [HR.out, List.drop_length]; rfl)
      go_wp2_with (fail)
      go_ret
      exact ⟨congrArg (fun b => Ending.returned (.int .i64 b)) HR.out.symm, HW.out⟩
/-- What At answers. -/
def atP (t : List Int) (l : List Zn) (x y : Int) : List Int × Int := if vldZ t l = true then (if (way l 0 x y).length = 0 then ([], 5) else (way l 0 x y, 0)) else ([], 90)
def AtPost (w : World) (r : List Int × Int) (e : Ending) (w' : World) : Prop := ∃ v0_ : Value, e = .returned (.tuple #[v0_, .int .i64 r.2]) ∧ Kd.R (Kd.int .i64) 3 w' w.heap.size (fun _ => True) v0_ r.1 ∧ Below w.heap.size w w'
set_option maxHeartbeats 4000000 in
set_option maxRecDepth 100000 in
theorem at_calls (A0 : Option Addr) (c0 : Nat) (t : List Int) (A1 : Option Addr) (c1 : Nat) (l : List Zn) (x y : Int) (w : World) (hr0 : Kd.C (Kd.int .u8) w A0 t.length t) (hc0 : t.length ≤ c0) (hr1 : Kd.C k62 w A1 l.length l) (hc1 : l.length ≤ c1) :
    Calls Try.prog 19 #[.agg #[.slice A0 t.length c0, .slice A1 l.length c1], .int .i64 x, .int .i64 y] w (AtPost w (atP t l x y)) := by
  have hu62 := Try.underlying62
  have hu25 := Try.underlying25
  have HL := Zvd.three (w := w) (.cells #[.slice A0 t.length c0, .slice A1 l.length c1] 25) (.cells #[.int .i64 x] 3) (.cells #[.int .i64 y] 3)
  obtain ⟨W3, hW3⟩ : ∃ q, ((w.alloc (.cells #[.slice A0 t.length c0, .slice A1 l.length c1] 25)).alloc (.cells #[.int .i64 x] 3)).alloc (.cells #[.int .i64 y] 3) = q := ⟨_, rfl⟩
  rw [hW3] at HL
  obtain ⟨⟨n1, n2, n3⟩, hb3⟩ := HL
  have HH := Aside0.mk n1
  have HX := Aside0.mk n2
  have HY := Aside0.mk n3
  have HB3 := Aside0.mk hb3
  have HV := Aside0.mk (Zvd.valid_calls A0 c0 t A1 c1 l W3 (Kd.C_below hr0 hb3) hc0 (Kd.C_below hr1 hb3) hc1)
  have HR1 := Aside0.mk hr1
  have HC1 := Aside0.mk hc1
  have g1 : W3.cell? ⟨w.heap.size, 0, none⟩ = some (.slice A0 t.length c0) := (blk_cell HH.out 0).trans rfl
  have g2 : W3.cell? ⟨w.heap.size, 1, none⟩ = some (.slice A1 l.length c1) := (blk_cell HH.out 1).trans rfl
  obtain ⟨rr, hrr⟩ : ∃ q, atP t l x y = q := ⟨_, rfl⟩
  have HRR := Aside0.mk hrr
  rw [hrr]
  cases hv : vldZ t l
  · rw [hv] at HV
    have HRR := Aside0.mk (show rr = ([], 90) from HRR.out.symm.trans (if_neg (by rw [hv]; simp)))
    clear n1 n2 n3 hb3 hr0 hr1 hc0 hc1 hrr hv
    go_enter Try.func19, Try.ntmps19
    go_wp2_with (go_at_call 15; refine HV.out.mono ?_; rintro e w4 ⟨rfl, hb⟩; have HB4 := Aside0.mk hb; clear hb)
    go_ret2
    exact HRR.out ▸ ⟨.slice none 0 0, rfl, Kd.R_nil _ _ _ _ _, below_then HB3.out HB3.out.size HB4.out⟩
  · rw [hv] at HV
    have HRR := Aside0.mk (show rr = (if (way l 0 x y).length = 0 then ([], 5) else (way l 0 x y, 0)) from HRR.out.symm.trans (if_pos hv))
    have hv2 := vldZ_iff.1 hv
    have HOK := Aside0.mk hv2.2.1
    have hdp : dep l ≤ 7 := hv2.2.2.2
    clear n1 n2 n3 hb3 hr0 hr1 hc0 hc1 hrr hv hv2
    have HW := Aside0.mk (rfl : way l 0 x y = way l 0 x y)
    have hd0 := dep_nonneg l
    have g2' : ∀ w4 : World, Below W3.heap.size W3 w4 → w4.cell? ⟨w.heap.size, 1, none⟩ = some (.slice A1 l.length c1) := fun w4 hb => (blk_cell (blk_below HH.out hb) 1).trans rfl
    have G2 := Aside0.mk g2'
    clear g2'
    go_enter Try.func19, Try.ntmps19
    go_wp2_with (go_at_call 15; refine HV.out.mono ?_; rintro e w4 ⟨rfl, hb⟩; have HB4 := Aside0.mk hb; have g4 := G2.out w4 hb; clear hb)
    have HBW4 := Aside0.mk (below_then HB3.out HB3.out.size HB4.out)
    have HX4 := Aside0.mk (blk_below HX.out HB4.out)
    have HY4 := Aside0.mk (blk_below HY.out HB4.out)
    clear HV G2 g1 g2 hW3
    go_loopg [6, 8, 9] 8 (fun d v6 v8 v9 wr => ∃ (R : List Int) (lc : List Zn) (A : Option Addr) (c : Nat), v8 = .slice A lc.length c ∧ Aside0 (Kd.C k62 w A lc.length lc) ∧ Aside0 (Kd.R (Kd.int .i64) 3 wr w4.heap.size (fun _ => True) v6 R) ∧ Aside0 (way l 0 x y = R ++ way lc 0 x y) ∧ Aside0 (∃ p e, okT lc p e) ∧ Aside0 (dep lc + R.length ≤ 7 ∧ dep lc ≤ d) ∧ Aside0 (Below w4.heap.size w4 wr))
    case atStart => exact ⟨[], l, A1, c1, rfl, HR1, ⟨Kd.R_nil _ _ _ _ _⟩, ⟨by simp⟩, ⟨_, _, HOK.out⟩, ⟨by simp; omega, by omega⟩, ⟨Below.refl _ _⟩⟩
    case round =>
      obtain ⟨RR, lc, A, c, rfl, HC, HO, HWY, HOKc, HDP, HBr⟩ := hrel
      obtain ⟨AR, cR, eR⟩ := Kd.R_slice HO.out
      subst eR
      have HIC := Aside0.mk (index_calls x y _ _ lc A c w wr HC.out (below_then HBW4.out HBW4.out.size HBr.out) (fun k hk => by obtain ⟨p, e, h⟩ := HOKc.out; exact (okT_at h k hk).1) (blk_below HX4.out HBr.out) (blk_below HY4.out HBr.out))
      obtain ⟨q, hq⟩ : ∃ q, idxF x y lc 0 = q := ⟨_, rfl⟩
      have HQ := Aside0.mk (idx_way x y lc 0 (Int.le_refl _))
      rw [hq] at HIC HQ
      clear hq
      rcases HQ.out with ⟨e1, e2⟩ | ⟨k, e1, e2, e3⟩
      · subst e1
        clear HQ
        have HRR := Aside0.mk (show rr = (if RR.length = 0 then ([], 5) else (RR, 0)) by rw [HRR.out, HWY.out, e2, List.append_nil])
        clear e2
        by_cases hn : RR.length = 0
        · have HRR := Aside0.mk (HRR.out.trans (if_pos hn))
          have t0 : ((RR.length : Int) == 0) = true := beq_iff_eq.2 (by omega)
          have hn' : (RR.length : Int) = 0 := by omega
          clear hn
          go_wp2_with (go_at_call 41; refine HIC.out.mono ?_; rintro e w5 ⟨rfl, hb⟩; have HB5 := Aside0.mk (below_then (below_then HBW4.out HBW4.out.size HBr.out) (Nat.le_trans HBW4.out.size HBr.out.size) hb); clear hb)
          go_ret2
          exact HRR.out ▸ ⟨.slice none 0 0, rfl, Kd.R_nil _ _ _ _ _, HB5.out⟩
        · have HRR := Aside0.mk (HRR.out.trans (if_neg hn))
          have t0 : ((RR.length : Int) == 0) = false := beq_eq_false_iff_ne.2 (by omega)
          have hn' : ¬ (RR.length : Int) = 0 := by omega
          have hn2 : ¬ RR = [] := fun h => hn (by rw [h]; rfl)
          clear hn
          go_wp2_with (go_at_call 41; refine HIC.out.mono ?_; rintro e w5 ⟨rfl, hb⟩; have HB5 := Aside0.mk (below_then (below_then HBW4.out HBW4.out.size HBr.out) (Nat.le_trans HBW4.out.size HBr.out.size) hb); have HO5 := Aside0.mk (Kd.R_below HO.out hb); clear hb)
          go_ret2
          exact HRR.out ▸ ⟨.slice AR RR.length cR, rfl, Kd.R_lower HO5.out HBW4.out.size, HB5.out⟩
      · rw [Int.zero_add] at e2 e3
        subst e2
        have HE3 := Aside0.mk e3
        clear HQ e3
        have hlc : lc.length ≤ 9223372036854775807 := Kd.C_max HC.out
        have hltk : (k : Int) < (lc.length : Int) := by omega
        obtain ⟨ad, A7, c7, eA, _, _, _, _, _, _, _, hx7, hl7, hi7⟩ := at_T62 HC.out k (by omega) (by omega)
        cases eA
        have HZ7 := Aside0.mk hi7
        have hdr := dep_rd e1
        have HOKz := Aside0.mk (show ∃ p e, okT (rd_T62 lc k).f7 p e by obtain ⟨p, e, h⟩ := HOKc.out; exact ⟨_, _, (okT_at h k e1).2⟩)
        obtain ⟨z, hz⟩ : ∃ z, rd_T62 lc k = z := ⟨_, rfl⟩
        rw [hz] at hx7 HZ7 HE3 HOKz hdr
        simp only [Int.toNat_natCast] at hx7
        have HX7 := Aside0.mk hx7
        have HDZ := Aside0.mk (show dep z.f7 + ((RR.length : Int) + 1) ≤ 7 ∧ dep z.f7 + 1 ≤ dep lc by have := HDP.out; omega)
        obtain ⟨g1, rfl⟩ : ∃ g1, gk = g1 + 1 := ⟨gk - 1, by have := HDP.out; have := dep_nonneg z.f7; omega⟩
        have HDG := Aside0.mk (show dep z.f7 ≤ g1 by have := HDP.out; have := HDZ.out; omega)
        have HLL := Aside0.mk (show (RR.length + 1) * 8 ≤ 140737488355328 by have := HDP.out; have := dep_nonneg lc; omega)
        clear hz hx7 hl7 hi7 hdr e1
        go_wp2_with (go_at_call 41; refine HIC.out.mono ?_; rintro e W5 ⟨rfl, hb⟩; have HBB := Aside0.mk (below_then HBr.out HBr.out.size hb); have HB5 := Aside0.mk (below_then (below_then HBW4.out HBW4.out.size HBr.out) (Nat.le_trans HBW4.out.size HBr.out.size) hb); have HO5 := Aside0.mk (Kd.R_below HO.out hb); clear hb)
        have HB5 := Aside0.mk (below_drew1 HB5.out)
        have HBB5 := Aside0.mk (below_drew1 HBB.out)
        have HO5 := Aside0.mk (Kd.R_drew HO5.out)
        have HBL := Aside0.mk (below_alloc HB5.out (.cells #[.int .i64 (k : Int)] 3))
        refine start_ (n := 11) (S := fun w' => w'.cell? ⟨(ad.add (k * 8)).block, (ad.add (k * 8)).off + 7, none⟩ = some (.slice A7 z.f7.length c7)) (ds := []) #[false, false, false, false, false, false, false, false, false, false, false] (by kernel_rfl) rfl rfl (((HB5.out.cell (World.block_lt_of_cell? w _ HX7.out)).trans HX7.out)) (fun hHeld => ?_)
        refine pure_ (i := 0) (N := some 20) (v := ?_) (a' := ?_) #[true, false, false, false, false, false, false, false, false, false, false] rfl rfl (by kernel_rfl) (fun _ _ _ h => h) (Or.inl ⟨by rfl, ?_⟩) ?_ ?_
        rotate_left
        · intro w'
          go_simp
          with_reducible rfl
        rotate_left
        · simp only [Act.put, List.setIfInBounds_toArray, List.set_cons_zero, List.set_cons_succ, i64_w, i32_w]
          rfl
        refine pure_ (i := 1) (N := some 21) (v := ?_) (a' := ?_) #[true, true, false, false, false, false, false, false, false, false, false] rfl rfl (by kernel_rfl) (fun _ _ _ h => h) (Or.inl ⟨by rfl, ?_⟩) ?_ ?_
        rotate_left
        · intro w'
          go_simp
          with_reducible rfl
        rotate_left
        · simp only [Act.put, List.setIfInBounds_toArray, List.set_cons_zero, List.set_cons_succ, i64_w, i32_w]
          rfl
        refine pure_ (i := 4) (N := some 24) (v := ?_) (a' := ?_) #[true, true, false, false, true, false, false, false, false, false, false] rfl rfl (by kernel_rfl) (fun _ _ _ h => h) (Or.inl ⟨by rfl, ?_⟩) ?_ ?_
        rotate_left
        · intro w'
          go_simp
          with_reducible rfl
        rotate_left
        · simp only [Act.put, List.setIfInBounds_toArray, List.set_cons_zero, List.set_cons_succ, i64_w, i32_w]
          rfl
        refine pure_ (i := 5) (N := some 25) (v := ?_) (a' := ?_) #[true, true, false, false, true, true, false, false, false, false, false] rfl rfl (by kernel_rfl) (fun _ _ _ h => h) (Or.inl ⟨by rfl, ?_⟩) ?_ ?_
        rotate_left
        · intro w'
          go_simp
          with_reducible rfl
        rotate_left
        · simp only [Act.put, List.setIfInBounds_toArray, List.set_cons_zero, List.set_cons_succ, i64_w, i32_w]
          rfl
        refine pure_ (i := 6) (N := some 26) (v := ?_) (a' := ?_) #[true, true, false, false, true, true, true, false, false, false, false] rfl rfl (by kernel_rfl) (fun _ _ _ h => h) (Or.inl ⟨by rfl, ?_⟩) ?_ ?_
        rotate_left
        · intro w'
          go_simp
          with_reducible rfl
        rotate_left
        · simp only [Act.put, List.setIfInBounds_toArray, List.set_cons_zero, List.set_cons_succ, i64_w, i32_w]
          rfl
        refine pure_ (i := 7) (N := some 27) (v := ?_) (a' := ?_) #[true, true, false, false, true, true, true, true, false, false, false] rfl rfl (by kernel_rfl) (fun _ _ _ h => h) (Or.inl ⟨by rfl, ?_⟩) ?_ ?_
        rotate_left
        · intro w'
          go_simp
          with_reducible rfl
        rotate_left
        · simp only [Act.put, List.setIfInBounds_toArray, List.set_cons_zero, List.set_cons_succ, i64_w, i32_w]
          rfl
        refine take_ (i := 8) (N := some 28) (v := ?_) (a' := ?_) #[true, true, false, false, true, true, true, true, true, false, false] rfl rfl (by kernel_rfl) (fun _ _ _ h => h) (Or.inl ⟨by rfl, ?_⟩) hHeld ?_ ?_
        rotate_left
        · intro w' s0
          go_simp
          with_reducible rfl
        rotate_left
        · simp only [Act.put, List.setIfInBounds_toArray, List.set_cons_zero, List.set_cons_succ, i64_w, i32_w]
          rfl
        refine one_ (i := 2) (N := some 22) #[true, true, true, false, true, true, true, true, true, false, false] rfl rfl (by kernel_rfl) (by decide) (fun K hK => ?_)
        refine value_ (w1 := W5.drew.alloc (.cells #[.int .i64 (k : Int)] 3)) (v := .slice (some ⟨W5.drew.heap.size, 0, none⟩) 1 1) (by rfl) rfl ?_ ?_
        · go_simp
          try rfl
        refine hK.out _ _ (((HBL.out.cell (World.block_lt_of_cell? w _ HX7.out)).trans HX7.out)) (fun hHeld => ?_)
        clear hK K
        refine norm_ (a' := ?_) ?_ ?_
        rotate_left
        · show Act.put _ (some 22) _ = _
          simp only [Act.put, List.setIfInBounds_toArray, List.set_cons_zero, List.set_cons_succ, i64_w, i32_w]
          rfl
        refine one_ (i := 3) (N := some 23) #[true, true, true, true, true, true, true, true, true, false, false] rfl rfl (by kernel_rfl) (by decide) (fun K hK => ?_)
        refine Kd.R_append_step (Kd.int .i64) (w0 := w4) w4.heap.size (by rfl) (.tmp 20) (.tmp 22) 36 3 (.int .i64 0) 8 rfl Try.underlying36 info3 rfl (by decide) (by decide) (.slice AR RR.length cR) RR (k : Int) [.int .i64 (k : Int)] (fun _ => True) (fun _ => False) rfl rfl rfl (fun _ hk => hk.elim) (fun _ _ => trivial) HO5.out HBB5.out HBB5.out.size HLL.out ?_
        intro v6 W6 ho hb hgr hat
        have HO6 := Aside0.mk ho
        have HBB6 := Aside0.mk hb
        have HB6 := Aside0.mk (below_then HBW4.out HBW4.out.size hb)
        clear ho hb hgr hat
        refine hK.out _ _ (((HB6.out.cell (World.block_lt_of_cell? w _ HX7.out)).trans HX7.out)) (fun hHeld => ?_)
        clear hK K
        refine norm_ (a' := ?_) ?_ ?_
        rotate_left
        · show Act.put _ (some 23) _ = _
          simp only [Act.put, List.setIfInBounds_toArray, List.set_cons_zero, List.set_cons_succ, i64_w, i32_w]
          rfl
        refine pure_ (i := 9) (N := some 6) (v := ?_) (a' := ?_) #[true, true, true, true, true, true, true, true, true, true, false] rfl rfl (by kernel_rfl) (fun _ _ _ h => h) (Or.inl ⟨by rfl, ?_⟩) ?_ ?_
        rotate_left
        · intro w'
          go_simp
          with_reducible rfl
        rotate_left
        · simp only [Act.put, List.setIfInBounds_toArray, List.set_cons_zero, List.set_cons_succ, i64_w, i32_w]
          rfl
        refine pure_ (i := 10) (N := some 8) (v := ?_) (a' := ?_) #[true, true, true, true, true, true, true, true, true, true, true] rfl rfl (by kernel_rfl) (fun _ _ _ h => h) (Or.inl ⟨by rfl, ?_⟩) ?_ ?_
        rotate_left
        · intro w'
          go_simp
          with_reducible rfl
        rotate_left
        · simp only [Act.put, List.setIfInBounds_toArray, List.set_cons_zero, List.set_cons_succ, i64_w, i32_w]
          rfl
        refine done_ (by kernel_rfl) ?_
        go_wp2_with (fail)
        go_roundg g1
        case measure => omega
        case rel => exact ⟨RR ++ [(k : Int)], z.f7, A7, c7, rfl, HZ7, HO6, ⟨by rw [HWY.out, HE3.out, List.append_assoc]; rfl⟩, HOKz, ⟨by have := HDZ.out; simp; omega, HDG.out⟩, HBB6⟩
end Go.Proofs.Ytgcdhikmdbjfeaa.Zat
namespace Go.Proofs.Ytgcdhikmdbjfeaa.U
open Go Go.RowKit Go.Proofs.YtgcdhikmdbjfeaaW.PrintWords Go.Proofs.YtgcdhikmdbjfeaaW.PrintLast Go.Proofs.YtgcdhikmdbjfeaaW.PrintMore Go.Proofs.Ytgcdhikmdbjfeaa.Aid Go.Proofs.Ytgcdhikmdbjfeaa.HandAid Go.Proofs.Ytgcdhikmdbjfeaa.Zpl Go.Proofs.Ytgcdhikmdbjfeaa.Zat
def zone_At.f (l0_0 : List Int) (l0_1 : List (S62)) (a1 : Int) (a2 : Int) : Option (List Int × Int) := some (atP l0_0 l0_1 a1 a2)
theorem zone_At.calls (A0_0 : Option Addr) (c0_0 : Nat) (l0_0 : List Int) (A0_1 : Option Addr) (c0_1 : Nat) (l0_1 : List (S62)) (a1 : Int) (a2 : Int) (r1 : List Int) (r2 : Int) (w : World) (hr0_0 : Kd.C (Kd.int .u8) w A0_0 l0_0.length l0_0) (hc0_0 : l0_0.length ≤ c0_0) (hr0_1 : Kd.C k62 w A0_1 l0_1.length l0_1) (hc0_1 : l0_1.length ≤ c0_1) (h : zone_At.f l0_0 l0_1 a1 a2 = some (r1, r2)) :
    Calls Try.prog 19 #[.agg #[.slice A0_0 l0_0.length c0_0, .slice A0_1 l0_1.length c0_1], .int .i64 a1, .int .i64 a2] w fun e w' => ∃ v0_ : Value, e = .returned (.tuple #[v0_, .int .i64 r2]) ∧ Kd.R (Kd.int .i64) 3 w' w.heap.size (fun _ => True) v0_ r1 ∧ Below w.heap.size w w' := by
  have e := Option.some.inj h
  have hd := at_calls A0_0 c0_0 l0_0 A0_1 c0_1 l0_1 a1 a2 w hr0_0 hc0_0 hr0_1 hc0_1
  rw [e] at hd
  exact hd
end Go.Proofs.Ytgcdhikmdbjfeaa.U
namespace Go.Proofs.Ytgcdhikmdbjfeaa.U
open Go.RowKit Go.Proofs.YtgcdhikmdbjfeaaW.PrintWords Go.Proofs.YtgcdhikmdbjfeaaW.PrintLast Go.Proofs.YtgcdhikmdbjfeaaW.PrintMore
attribute [local go_sem] max2_int min2_int max_two min_two max_three min_three max_four min_four   -- for this text's walks alone
mutual
def incunableref24_path.l0 : Nat → Int → Int → List (S62) → Int → Int → Option (List Int)
  | 0, _, _, _, _, _ => none
  | k + 1, x1, x2, x9, x10, x11 => if x11 < x10 then (if 0 ≤ x11 then (if x11 < (x9.length : Int) then (if x1 ≥ ((rd_T62 x9 x11).f1) then (if x2 ≥ ((rd_T62 x9 x11).f2) then (if x1 < (wrap64 (((rd_T62 x9 x11).f1) + ((rd_T62 x9 x11).f3))) then (if x2 < (wrap64 (((rd_T62 x9 x11).f2) + ((rd_T62 x9 x11).f4))) then ((some (([x11] : List Int) : List Int)).bind fun y211 => ((incunableref24_path.f k ((rd_T62 x9 x11).f7) x1 x2).bind fun t214 => (if y211.length + t214.length < 17592186044416 then (some (y211 ++ t214)) else (none)))) else (incunableref24_path.l0 k x1 x2 x9 x10 (wrap64 (x11 + 1)))) else (incunableref24_path.l0 k x1 x2 x9 x10 (wrap64 (x11 + 1)))) else (incunableref24_path.l0 k x1 x2 x9 x10 (wrap64 (x11 + 1)))) else (incunableref24_path.l0 k x1 x2 x9 x10 (wrap64 (x11 + 1)))) else (none)) else (none)) else (some ([] : List Int))
def incunableref24_path.f : Nat → List (S62) → Int → Int → Option (List Int)
  | 0, _, _, _ => none
  | k + 1, l0, a1, a2 => incunableref24_path.l0 k a1 a2 l0 (l0.length : Int) 0
end
theorem incunableref24_path.mono_l : ∀ k, (∀ y0 y1 y2, LeO (incunableref24_path.f k y0 y1 y2) (incunableref24_path.f (k + 1) y0 y1 y2)) ∧ (∀ y0 y1 y2 y3 y4, LeO (incunableref24_path.l0 k y0 y1 y2 y3 y4) (incunableref24_path.l0 (k + 1) y0 y1 y2 y3 y4))
  | 0 => ⟨fun _ _ _ r h => by simp [incunableref24_path.f] at h, fun _ _ _ _ _ r h => by simp [incunableref24_path.l0] at h⟩
  | k + 1 => by
    obtain ⟨ih0, ih1⟩ := incunableref24_path.mono_l k
    refine ⟨?_, ?_⟩
    · intro y0 y1 y2
      unfold incunableref24_path.f
      repeat' first
      | (with_reducible exact ih0 _ _ _)
      | (with_reducible exact ih1 _ _ _ _ _)
      | (with_reducible exact LeO.refl _)
      | (with_reducible exact LeO.none _)
      | (with_reducible refine LeO.ite ?_ ?_)
      | (with_reducible refine LeO.bind ?_ (fun _ => ?_))
      | exact ih0 _ _ _
      | exact ih1 _ _ _ _ _
      | exact LeO.none _
      | refine LeO.ite ?_ ?_
      | refine LeO.bind ?_ (fun _ => ?_)
    · intro y0 y1 y2 y3 y4
      unfold incunableref24_path.l0
      repeat' first
      | (with_reducible exact ih0 _ _ _)
      | (with_reducible exact ih1 _ _ _ _ _)
      | (with_reducible exact LeO.refl _)
      | (with_reducible exact LeO.none _)
      | (with_reducible refine LeO.ite ?_ ?_)
      | (with_reducible refine LeO.bind ?_ (fun _ => ?_))
      | exact ih0 _ _ _
      | exact ih1 _ _ _ _ _
      | exact LeO.none _
      | refine LeO.ite ?_ ?_
      | refine LeO.bind ?_ (fun _ => ?_)
theorem incunableref24_path.mono : ∀ a0 a1 a2 k, LeO (incunableref24_path.f k a0 a1 a2) (incunableref24_path.f (k + 1) a0 a1 a2) := by
 intro a0 a1 a2 k; obtain ⟨ih0, ih1⟩ := incunableref24_path.mono_l k; exact ih0 a0 a1 a2
set_option maxHeartbeats 8000000 in
set_option maxRecDepth 100000 in
theorem incunableref24_path.calls (k : Nat) : ∀ (A0 : Option Addr) (c0 : Nat) (l0 : List (S62)) (a1 : Int) (a2 : Int) (r : List Int) (w : World) (hr0 : Kd.C k62 w A0 l0.length l0) (hc0 : l0.length ≤ c0) (h : incunableref24_path.f k l0 a1 a2 = some r),
    Calls Try.prog 43 #[.slice A0 l0.length c0, .int .i64 a1, .int .i64 a2] w fun e w' => ∃ v0_ : Value, e = .returned (v0_) ∧ Kd.R (Kd.int .i64) 3 w' w.heap.size (fun _ => True) v0_ r ∧ Below w.heap.size w w' := by
 induction k using Nat.strongRecOn with
 | _ k ih =>
 intro A0 c0 l0 a1 a2 r w hr0 hc0 h
 cases k with
 | zero => exact absurd h (by simp [incunableref24_path.f])
 | succ k =>
 simp only [incunableref24_path.f] at h; have hu62 := Try.underlying62; have HR0 := Aside0.mk hr0; have HC0 := Aside0.mk hc0; clear hr0 hc0; have HB := Aside0.mk (Below.refl w.heap.size w); have H : (incunableref24_path.l0 k a1 a2 l0 (l0.length : Int) 0) = some r := h; clear h; have H' := Aside0.mk H; clear H; go_enter Try.func43, Try.ntmps43; go_wp2; go_loopg [11] k (fun kq v11 w' => ∃ (x11_1 : Int), v11 = .int .i64 x11_1 ∧ Aside0 (incunableref24_path.l0 kq a1 a2 l0 (l0.length : Int) x11_1 = some r) ∧ Aside0 (kq ≤ k) ∧ Aside0 (Below w.heap.size w w')); (case atStart => exact ⟨(0), (by first | rfl | (simp; done) | (simp [*]; done)), H', ⟨Nat.le_refl _⟩, ⟨by repeat (first | (with_reducible first | exact HB.out | apply below_alloc | apply pw_below_drewN | apply below_drew1) | exact HB.out)⟩⟩)
 case round =>
  clear H'; (try clear p2); obtain ⟨x11_1, rfl, HA, HK1, HB⟩ := hrel
  cases gk with
  | zero => exact absurd HA.out (by simp [incunableref24_path.l0])
  | succ k1 =>
   have H := HA.out; clear HA; simp only [incunableref24_path.l0] at H; by_cases c4 : x11_1 < (l0.length : Int)
   (· rw [if_pos c4] at H; have c4b0 : decide (x11_1 < (l0.length : Int)) = true := decide_eq_true c4; clear c4; by_cases c5 : 0 ≤ x11_1; (· rw [if_pos c5] at H; have c5b0 : decide (0 ≤ x11_1) = true := decide_eq_true c5; clear c5; by_cases c6 : x11_1 < (l0.length : Int); (· rw [if_pos c6] at H; have c6b0 : decide (x11_1 < (l0.length : Int)) = true := decide_eq_true c6; clear c6; by_cases c7 : a1 ≥ ((rd_T62 l0 x11_1).f1); (· rw [if_pos c7] at H; have c7b0 : decide (((rd_T62 l0 x11_1).f1) ≤ a1) = true := decide_eq_true c7; clear c7; by_cases c8 : a2 ≥ ((rd_T62 l0 x11_1).f2); (· rw [if_pos c8] at H; have c8b0 : decide (((rd_T62 l0 x11_1).f2) ≤ a2) = true := decide_eq_true c8; clear c8; by_cases c9 : a1 < (wrap64 (((rd_T62 l0 x11_1).f1) + ((rd_T62 l0 x11_1).f3))); (· rw [if_pos c9] at H; have c9b0 : decide (a1 < (wrap64 (((rd_T62 l0 x11_1).f1) + ((rd_T62 l0 x11_1).f3)))) = true := decide_eq_true c9; clear c9; by_cases c10 : a2 < (wrap64 (((rd_T62 l0 x11_1).f2) + ((rd_T62 l0 x11_1).f4))); (· rw [if_pos c10] at H; have c10b0 : decide (a2 < (wrap64 (((rd_T62 l0 x11_1).f2) + ((rd_T62 l0 x11_1).f4)))) = true := decide_eq_true c10; clear c10; obtain ⟨y211, hy211⟩ : ∃ y_ : List Int, y_ = (([x11_1] : List Int)) := ⟨_, rfl⟩; (replace H : ((incunableref24_path.f k1 ((rd_T62 l0 x11_1).f7) a1 a2).bind fun t214 => (if y211.length + t214.length < 17592186044416 then (some (y211 ++ t214)) else (none))) = some r := by first | (rw [hy211]; with_reducible exact H) | (have H2_ := (Option.bind_some _ _).symm.trans H; rw [hy211]; with_reducible exact H2_) | (have H2_ := (Option.bind_some _ _).symm.trans H; with_reducible exact H2_) | with_reducible exact H | (rw [hy211]; exact H) | exact H); have Ny211 := Aside0.mk hy211; clear hy211; replace H := Option.bind_eq_some_iff.mp H; obtain ⟨t214, A110, H⟩ := H; replace H : (if y211.length + t214.length < 17592186044416 then (some (y211 ++ t214)) else (none)) = some r := H; have A11 := Aside0.mk A110; clear A110; by_cases c12 : y211.length + t214.length < 17592186044416; (· rw [if_pos c12] at H; have LMc12 := Aside0.mk c12; clear c12; obtain ⟨y217, hy217⟩ : ∃ y_ : List Int, y_ = (y211 ++ t214) := ⟨_, rfl⟩; (replace H : (some y217) = some r := by first | (rw [hy217]; with_reducible exact H) | (have H2_ := (Option.bind_some _ _).symm.trans H; rw [hy217]; with_reducible exact H2_) | (have H2_ := (Option.bind_some _ _).symm.trans H; with_reducible exact H2_) | with_reducible exact H | (rw [hy217]; exact H) | exact H); have Ny217 := Aside0.mk hy217; clear hy217; obtain rfl := Option.some.inj H; have p209 : 0 ≤ (x11_1 : Int) := of_decide_eq_true (by first | (with_reducible assumption) | assumption); have q209 : x11_1 < (l0.length : Int) := of_decide_eq_true (by first | (with_reducible assumption) | assumption); obtain ⟨ad209, A209_7, c209_7, e209, hx209_0, hx209_1, hx209_2, hx209_3, hx209_4, hx209_5, hx209_6, hx209_7, hl209_7, hi209_7⟩ := at_T62 HR0.out x11_1 p209 q209; cases e209; replace hx209_0 := (HB.out.cell (World.block_lt_of_cell? w _ hx209_0)).trans hx209_0; replace hx209_1 := (HB.out.cell (World.block_lt_of_cell? w _ hx209_1)).trans hx209_1; replace hx209_2 := (HB.out.cell (World.block_lt_of_cell? w _ hx209_2)).trans hx209_2; replace hx209_3 := (HB.out.cell (World.block_lt_of_cell? w _ hx209_3)).trans hx209_3; replace hx209_4 := (HB.out.cell (World.block_lt_of_cell? w _ hx209_4)).trans hx209_4; replace hx209_5 := (HB.out.cell (World.block_lt_of_cell? w _ hx209_5)).trans hx209_5; replace hx209_6 := (HB.out.cell (World.block_lt_of_cell? w _ hx209_6)).trans hx209_6; replace hx209_7 := (HB.out.cell (World.block_lt_of_cell? w _ hx209_7)).trans hx209_7; have HR209_7 := Aside0.mk hi209_7; have HC209_7 := Aside0.mk hl209_7; clear hi209_7 hl209_7; replace p209 := eq_true p209; replace q209 := eq_true q209; go_wp2_with (first | ((with_reducible refine gate_dst (N := 8) rfl ?_); refine box_event ?hg (N := 8) ?hd (cs := #[.int .i64 0, .int .i64 0, .int .i64 0, .int .i64 0, .int .i64 0, .int .i64 0, .int .i64 0, .slice none 0 0]) (t := 62) ?hr ?_; (case hd => rfl); (case hg => rfl); (case hr => first | (go_simp; done) | (go_simp; rfl)); intro gb210 hg w13 hbox hb; have n0_ := Aside0.mk (below_step (by repeat (first | (with_reducible first | exact HB.out | apply below_alloc | apply pw_below_drewN | apply below_drew1) | exact HB.out)) hb); have n1_ := Aside0.mk (hbox); have n2_ := Aside0.mk ((by rw [hg]; exact (below_size (by repeat (first | (with_reducible first | exact HB.out | apply below_alloc | apply pw_below_drewN | apply below_drew1) | exact HB.out))) : w.heap.size ≤ gb210)); have n3_ := Aside0.mk ((by rw [hg]; exact (below_size (by repeat (first | (with_reducible first | exact HB.out | apply below_alloc | apply pw_below_drewN | apply below_drew1) | exact HB.out))) : w.heap.size ≤ gb210)); clear HB; have HB := n0_; have BK210 := n1_; have GW210 := n2_; have GE210 := n3_; clear n0_ n1_ n2_ n3_; clear hb hbox hg; have hcz14_0 : w13.cell? ⟨gb210, 0, none⟩ = some (.int .i64 0) := (blk_cell BK210.out 0).trans rfl; have hcz14_1 : w13.cell? ⟨gb210, 1, none⟩ = some (.int .i64 0) := (blk_cell BK210.out 1).trans rfl; have hcz14_2 : w13.cell? ⟨gb210, 2, none⟩ = some (.int .i64 0) := (blk_cell BK210.out 2).trans rfl; have hcz14_3 : w13.cell? ⟨gb210, 3, none⟩ = some (.int .i64 0) := (blk_cell BK210.out 3).trans rfl; have hcz14_4 : w13.cell? ⟨gb210, 4, none⟩ = some (.int .i64 0) := (blk_cell BK210.out 4).trans rfl; have hcz14_5 : w13.cell? ⟨gb210, 5, none⟩ = some (.int .i64 0) := (blk_cell BK210.out 5).trans rfl; have hcz14_6 : w13.cell? ⟨gb210, 6, none⟩ = some (.int .i64 0) := (blk_cell BK210.out 6).trans rfl; have hcz14_7 : w13.cell? ⟨gb210, 7, none⟩ = some (.slice none 0 0) := (blk_cell BK210.out 7).trans rfl; have hfz14_0 := blk_frozen BK210.out 0; have hfz14_1 := blk_frozen BK210.out 1; have hfz14_2 := blk_frozen BK210.out 2; have hfz14_3 := blk_frozen BK210.out 3; have hfz14_4 := blk_frozen BK210.out 4; have hfz14_5 := blk_frozen BK210.out 5; have hfz14_6 := blk_frozen BK210.out 6; have hfz14_7 := blk_frozen BK210.out 7) | ((with_reducible refine gate_dst (N := 45) rfl ?_); refine Kd.R_lit (Kd.int .i64) _ 3 ?hg (N := 45) ?hd (xs := ([x11_1] : List Int)) (inner := [.int .i64 x11_1]) (ok := fun _ => True) (okp := fun _ => True) ?hr ?hp (fun _ hk => hk) trivial (Below.refl _ _) (Nat.le_refl _) (by simp) ?_; (case hd => rfl); (case hg => rfl); (case hr => first | (go_simp; done) | (go_simp; rfl)); (case hp => exact (Reps.one (show Kd.M (Kd.int .i64) _ _ _ x11_1 [.int .i64 x11_1] from rfl) (Reps.none _ _))); intro v212 w15 ho16 hb hg_ hnew_; clear hg_ hnew_; (first | rw [← Ny211.out] at ho16 | (simp only [Int.reduceToNat] at ho16; rw [← Ny211.out] at ho16)); have n0_ := Aside0.mk (Kd.R_lower ho16 (below_size (by repeat (first | (with_reducible first | exact HB.out | apply below_alloc | apply pw_below_drewN | apply below_drew1 | refine below_set ?_ GE210.out) | exact HB.out)))); have n1_ := Aside0.mk (blk_below (g := gb210) (o := .cells #[.int .i64 ((rd_T62 l0 x11_1).f0), .int .i64 ((rd_T62 l0 x11_1).f1), .int .i64 ((rd_T62 l0 x11_1).f2), .int .i64 ((rd_T62 l0 x11_1).f3), .int .i64 ((rd_T62 l0 x11_1).f4), .int .i64 ((rd_T62 l0 x11_1).f5), .int .i64 ((rd_T62 l0 x11_1).f6), .slice A209_7 ((rd_T62 l0 x11_1).f7).length c209_7] 62 (0, 0)) (by (with_reducible repeat (first | refine blk_drewN ?_ _ | refine blk_drew ?_ | refine blk_alloc ?_ _)); refine blk_put (cs := #[.int .i64 ((rd_T62 l0 x11_1).f0), .int .i64 ((rd_T62 l0 x11_1).f1), .int .i64 ((rd_T62 l0 x11_1).f2), .int .i64 ((rd_T62 l0 x11_1).f3), .int .i64 ((rd_T62 l0 x11_1).f4), .int .i64 ((rd_T62 l0 x11_1).f5), .int .i64 ((rd_T62 l0 x11_1).f6), .slice none 0 0]) ?_ 7 _ rfl; (with_reducible repeat (first | refine blk_drewN ?_ _ | refine blk_drew ?_ | refine blk_alloc ?_ _)); refine blk_put (cs := #[.int .i64 ((rd_T62 l0 x11_1).f0), .int .i64 ((rd_T62 l0 x11_1).f1), .int .i64 ((rd_T62 l0 x11_1).f2), .int .i64 ((rd_T62 l0 x11_1).f3), .int .i64 ((rd_T62 l0 x11_1).f4), .int .i64 ((rd_T62 l0 x11_1).f5), .int .i64 0, .slice none 0 0]) ?_ 6 _ rfl; (with_reducible repeat (first | refine blk_drewN ?_ _ | refine blk_drew ?_ | refine blk_alloc ?_ _)); refine blk_put (cs := #[.int .i64 ((rd_T62 l0 x11_1).f0), .int .i64 ((rd_T62 l0 x11_1).f1), .int .i64 ((rd_T62 l0 x11_1).f2), .int .i64 ((rd_T62 l0 x11_1).f3), .int .i64 ((rd_T62 l0 x11_1).f4), .int .i64 0, .int .i64 0, .slice none 0 0]) ?_ 5 _ rfl; (with_reducible repeat (first | refine blk_drewN ?_ _ | refine blk_drew ?_ | refine blk_alloc ?_ _)); refine blk_put (cs := #[.int .i64 ((rd_T62 l0 x11_1).f0), .int .i64 ((rd_T62 l0 x11_1).f1), .int .i64 ((rd_T62 l0 x11_1).f2), .int .i64 ((rd_T62 l0 x11_1).f3), .int .i64 0, .int .i64 0, .int .i64 0, .slice none 0 0]) ?_ 4 _ rfl; (with_reducible repeat (first | refine blk_drewN ?_ _ | refine blk_drew ?_ | refine blk_alloc ?_ _)); refine blk_put (cs := #[.int .i64 ((rd_T62 l0 x11_1).f0), .int .i64 ((rd_T62 l0 x11_1).f1), .int .i64 ((rd_T62 l0 x11_1).f2), .int .i64 0, .int .i64 0, .int .i64 0, .int .i64 0, .slice none 0 0]) ?_ 3 _ rfl; (with_reducible repeat (first | refine blk_drewN ?_ _ | refine blk_drew ?_ | refine blk_alloc ?_ _)); refine blk_put (cs := #[.int .i64 ((rd_T62 l0 x11_1).f0), .int .i64 ((rd_T62 l0 x11_1).f1), .int .i64 0, .int .i64 0, .int .i64 0, .int .i64 0, .int .i64 0, .slice none 0 0]) ?_ 2 _ rfl; (with_reducible repeat (first | refine blk_drewN ?_ _ | refine blk_drew ?_ | refine blk_alloc ?_ _)); refine blk_put (cs := #[.int .i64 ((rd_T62 l0 x11_1).f0), .int .i64 0, .int .i64 0, .int .i64 0, .int .i64 0, .int .i64 0, .int .i64 0, .slice none 0 0]) ?_ 1 _ rfl; (with_reducible repeat (first | refine blk_drewN ?_ _ | refine blk_drew ?_ | refine blk_alloc ?_ _)); refine blk_put (cs := #[.int .i64 0, .int .i64 0, .int .i64 0, .int .i64 0, .int .i64 0, .int .i64 0, .int .i64 0, .slice none 0 0]) ?_ 0 _ rfl; (with_reducible repeat (first | refine blk_drewN ?_ _ | refine blk_drew ?_ | refine blk_alloc ?_ _)); exact BK210.out) hb); have n2_ := Aside0.mk (below_step (by repeat (first | (with_reducible first | exact HB.out | apply below_alloc | apply pw_below_drewN | apply below_drew1 | refine below_set ?_ GE210.out) | exact HB.out)) hb); clear BK210; clear HB; have HO213 := n0_; have BK210 := n1_; have HB := n2_; clear n0_ n1_ n2_; clear hb ho16; have hcz17_0 : w15.cell? ⟨gb210, 0, none⟩ = some (.int .i64 ((rd_T62 l0 x11_1).f0)) := (blk_cell BK210.out 0).trans rfl; have hcz17_1 : w15.cell? ⟨gb210, 1, none⟩ = some (.int .i64 ((rd_T62 l0 x11_1).f1)) := (blk_cell BK210.out 1).trans rfl; have hcz17_2 : w15.cell? ⟨gb210, 2, none⟩ = some (.int .i64 ((rd_T62 l0 x11_1).f2)) := (blk_cell BK210.out 2).trans rfl; have hcz17_3 : w15.cell? ⟨gb210, 3, none⟩ = some (.int .i64 ((rd_T62 l0 x11_1).f3)) := (blk_cell BK210.out 3).trans rfl; have hcz17_4 : w15.cell? ⟨gb210, 4, none⟩ = some (.int .i64 ((rd_T62 l0 x11_1).f4)) := (blk_cell BK210.out 4).trans rfl; have hcz17_5 : w15.cell? ⟨gb210, 5, none⟩ = some (.int .i64 ((rd_T62 l0 x11_1).f5)) := (blk_cell BK210.out 5).trans rfl; have hcz17_6 : w15.cell? ⟨gb210, 6, none⟩ = some (.int .i64 ((rd_T62 l0 x11_1).f6)) := (blk_cell BK210.out 6).trans rfl; have hcz17_7 : w15.cell? ⟨gb210, 7, none⟩ = some (.slice A209_7 ((rd_T62 l0 x11_1).f7).length c209_7) := (blk_cell BK210.out 7).trans rfl; have hfz17_0 := blk_frozen BK210.out 0; have hfz17_1 := blk_frozen BK210.out 1; have hfz17_2 := blk_frozen BK210.out 2; have hfz17_3 := blk_frozen BK210.out 3; have hfz17_4 := blk_frozen BK210.out 4; have hfz17_5 := blk_frozen BK210.out 5; have hfz17_6 := blk_frozen BK210.out 6; have hfz17_7 := blk_frozen BK210.out 7) | ((with_reducible refine gate_callee (f := 43) rfl ?_); refine goesL_ (some 50) rfl rfl Try.func43 (by kernel_rfl) rfl #[.slice A209_7 ((rd_T62 l0 x11_1).f7).length c209_7, .int .i64 a1, .int .i64 a2] rfl (by (try simp only [List.map_toArray, List.map_cons, List.map_nil]); first | done | rfl | (simp only [List.length_drop, List.length_take]; rfl)) ?_; (with_reducible refine (ih k1 (by have := HK1.out; omega) _ _ ((rd_T62 l0 x11_1).f7) a1 a2 t214 _ ?side1 ?side2 A11.out).mono ?_); (case side1 => repeat (first | exact (Kd.C_below HR209_7.out HB.out) | (with_reducible refine Kd.C_alloc ?_ _) | (with_reducible refine Kd.C_drewN ?_ _) | (with_reducible refine Kd.C_drew ?_))); (case side2 => exact HC209_7.out); rintro e w18 ⟨v215, rfl, ho0, hb⟩; refine ⟨_, rfl, ?_⟩; have n0_ := Aside0.mk (Kd.R_elder' (by (with_reducible repeat (first | apply Kd.R_alloc | apply Kd.R_drewN | apply Kd.R_drew)); exact HO213.out) (Kd.R_base ho0) hb); have n1_ := Aside0.mk (Kd.R_lower (Kd.R_new' ho0 (Kd.R_lt (by (with_reducible repeat (first | apply Kd.R_alloc | apply Kd.R_drewN | apply Kd.R_drew)); exact HO213.out))) (below_size (by repeat (first | (with_reducible first | exact HB.out | apply below_alloc | apply pw_below_drewN | apply below_drew1 | refine below_set ?_ GE210.out) | exact HB.out)))); have n2_ := Aside0.mk (blk_below (g := gb210) (o := .cells #[.int .i64 ((rd_T62 l0 x11_1).f0), .int .i64 ((rd_T62 l0 x11_1).f1), .int .i64 ((rd_T62 l0 x11_1).f2), .int .i64 ((rd_T62 l0 x11_1).f3), .int .i64 ((rd_T62 l0 x11_1).f4), .int .i64 ((rd_T62 l0 x11_1).f5), .int .i64 ((rd_T62 l0 x11_1).f6), .slice A209_7 ((rd_T62 l0 x11_1).f7).length c209_7] 62 (0, 0)) (by (with_reducible repeat (first | refine blk_drewN ?_ _ | refine blk_drew ?_ | refine blk_alloc ?_ _)); exact BK210.out) hb); have n3_ := Aside0.mk (below_step (by repeat (first | (with_reducible first | exact HB.out | apply below_alloc | apply pw_below_drewN | apply below_drew1 | refine below_set ?_ GE210.out) | exact HB.out)) hb); clear HO213; clear BK210; clear HB; have HO213 := n0_; have HO216 := n1_; have BK210 := n2_; have HB := n3_; clear n0_ n1_ n2_ n3_; (try clear hb); (try clear hb2); (try clear hk); (try clear hi); (try clear ho0); obtain ⟨Ao20, co20, eo20⟩ := Kd.R_slice HO216.out; subst eo20) | ((with_reducible refine gate_builtin (b := .append) (xs := #[.tmp 45, .tmp 50]) rfl ?_); at_builtin; refine Kd.R_append_rows (Kd.int .i64) (w0 := w) w.heap.size rfl (.tmp 45) (.tmp 50) 36 3 (.int .i64 0) 8 rfl Try.underlying36 info3 rfl (by decide) (by omega) v212 y211 t214 _ _ _ (fun k_ => some k_ ≠ (.slice Ao20 t214.length co20 : Value).ownBlock) (fun _ => False) rfl rfl ?aO ?aR (fun _ _ h => h) (fun _ h => h.elim) ?aF ?aB ?aS ?aL ?_; (case aR => repeat (first | exact (Kd.R_reads' HO216.out).2.2 | (with_reducible refine Kd.C_alloc ?_ _) | (with_reducible refine Kd.C_drewN ?_ _) | (with_reducible refine Kd.C_drew ?_))); (case aB => exact (by repeat (first | (with_reducible first | exact HB.out | apply below_alloc | apply pw_below_drewN | apply below_drew1 | refine below_set ?_ GE210.out) | exact HB.out))); (case aF => exact (fun k_ hk => Kd.fresh' (Kd.R_lt (by (with_reducible repeat (first | apply Kd.R_alloc | apply Kd.R_drewN | apply Kd.R_drew)); exact HO216.out)) k_ hk)); (case aO => exact (by (with_reducible repeat (first | apply Kd.R_alloc | apply Kd.R_drewN | apply Kd.R_drew)); exact Kd.R_mono HO213.out (fun _ hk => hk.2))); (case aS => exact (below_size (by repeat (first | (with_reducible first | exact HB.out | apply below_alloc | apply pw_below_drewN | apply below_drew1 | refine below_set ?_ GE210.out) | exact HB.out)))); (case aL => have := LMc12.out; omega); intro v218 w19 ho hb hg hat; rw [← Ny217.out] at ho; have n0_ := Aside0.mk (blk_grown (g := gb210) (o := .cells #[.int .i64 ((rd_T62 l0 x11_1).f0), .int .i64 ((rd_T62 l0 x11_1).f1), .int .i64 ((rd_T62 l0 x11_1).f2), .int .i64 ((rd_T62 l0 x11_1).f3), .int .i64 ((rd_T62 l0 x11_1).f4), .int .i64 ((rd_T62 l0 x11_1).f5), .int .i64 ((rd_T62 l0 x11_1).f6), .slice A209_7 ((rd_T62 l0 x11_1).f7).length c209_7] 62 (0, 0)) (by (with_reducible repeat (first | refine blk_drewN ?_ _ | refine blk_drew ?_ | refine blk_alloc ?_ _)); exact BK210.out) hg (Kd.R_ne HO213.out BK210.out (by decide))); have n1_ := Aside0.mk (Kd.R_after (ok := (fun _ => True)) (by (with_reducible repeat (first | apply Kd.R_alloc | apply Kd.R_drewN | apply Kd.R_drew)); exact HO216.out) hg hat); have n2_ := Aside0.mk (hb); have n3_ := Aside0.mk (ho); clear BK210; clear HO216; clear HB; clear HO213; have BK210 := n0_; have HO216 := n1_; have HB := n2_; have HO219 := n3_; clear n0_ n1_ n2_ n3_; clear ho hb hg hat)); go_ret; (exact ⟨_, by first | rfl | (simp [errW_none, errW_some] <;> rfl) | (simp [*, errW_none, errW_some] <;> rfl), by (with_reducible repeat (first | apply Kd.R_alloc | apply Kd.R_drewN | apply Kd.R_drew)); exact Kd.R_mono HO219.out (fun _ hk => trivial), by repeat (first | (with_reducible first | exact HB.out | apply below_alloc | apply pw_below_drewN | apply below_drew1 | refine below_set ?_ GE210.out) | exact HB.out)⟩)); (· rw [if_neg c12] at H; exact absurd H (by simp))); (· rw [if_neg c10] at H; have c10b0 : decide (a2 < (wrap64 (((rd_T62 l0 x11_1).f2) + ((rd_T62 l0 x11_1).f4)))) = false := decide_eq_false c10; clear c10; have H' := Aside0.mk H; clear H; have p209 : 0 ≤ (x11_1 : Int) := of_decide_eq_true (by first | (with_reducible assumption) | assumption); have q209 : x11_1 < (l0.length : Int) := of_decide_eq_true (by first | (with_reducible assumption) | assumption); obtain ⟨ad209, A209_7, c209_7, e209, hx209_0, hx209_1, hx209_2, hx209_3, hx209_4, hx209_5, hx209_6, hx209_7, hl209_7, hi209_7⟩ := at_T62 HR0.out x11_1 p209 q209; cases e209; replace hx209_0 := (HB.out.cell (World.block_lt_of_cell? w _ hx209_0)).trans hx209_0; replace hx209_1 := (HB.out.cell (World.block_lt_of_cell? w _ hx209_1)).trans hx209_1; replace hx209_2 := (HB.out.cell (World.block_lt_of_cell? w _ hx209_2)).trans hx209_2; replace hx209_3 := (HB.out.cell (World.block_lt_of_cell? w _ hx209_3)).trans hx209_3; replace hx209_4 := (HB.out.cell (World.block_lt_of_cell? w _ hx209_4)).trans hx209_4; replace hx209_5 := (HB.out.cell (World.block_lt_of_cell? w _ hx209_5)).trans hx209_5; replace hx209_6 := (HB.out.cell (World.block_lt_of_cell? w _ hx209_6)).trans hx209_6; replace hx209_7 := (HB.out.cell (World.block_lt_of_cell? w _ hx209_7)).trans hx209_7; have HR209_7 := Aside0.mk hi209_7; have HC209_7 := Aside0.mk hl209_7; clear hi209_7 hl209_7; replace p209 := eq_true p209; replace q209 := eq_true q209; go_wp2_with (first | ((with_reducible refine gate_dst (N := 8) rfl ?_); refine box_event ?hg (N := 8) ?hd (cs := #[.int .i64 0, .int .i64 0, .int .i64 0, .int .i64 0, .int .i64 0, .int .i64 0, .int .i64 0, .slice none 0 0]) (t := 62) ?hr ?_; (case hd => rfl); (case hg => rfl); (case hr => first | (go_simp; done) | (go_simp; rfl)); intro gb210 hg w21 hbox hb; have n0_ := Aside0.mk (below_step (by repeat (first | (with_reducible first | exact HB.out | apply below_alloc | apply pw_below_drewN | apply below_drew1) | exact HB.out)) hb); have n1_ := Aside0.mk (hbox); have n2_ := Aside0.mk ((by rw [hg]; exact (below_size (by repeat (first | (with_reducible first | exact HB.out | apply below_alloc | apply pw_below_drewN | apply below_drew1) | exact HB.out))) : w.heap.size ≤ gb210)); have n3_ := Aside0.mk ((by rw [hg]; exact (below_size (by repeat (first | (with_reducible first | exact HB.out | apply below_alloc | apply pw_below_drewN | apply below_drew1) | exact HB.out))) : w.heap.size ≤ gb210)); clear HB; have HB := n0_; have BK210 := n1_; have GW210 := n2_; have GE210 := n3_; clear n0_ n1_ n2_ n3_; clear hb hbox hg; have hcz22_0 : w21.cell? ⟨gb210, 0, none⟩ = some (.int .i64 0) := (blk_cell BK210.out 0).trans rfl; have hcz22_1 : w21.cell? ⟨gb210, 1, none⟩ = some (.int .i64 0) := (blk_cell BK210.out 1).trans rfl; have hcz22_2 : w21.cell? ⟨gb210, 2, none⟩ = some (.int .i64 0) := (blk_cell BK210.out 2).trans rfl; have hcz22_3 : w21.cell? ⟨gb210, 3, none⟩ = some (.int .i64 0) := (blk_cell BK210.out 3).trans rfl; have hcz22_4 : w21.cell? ⟨gb210, 4, none⟩ = some (.int .i64 0) := (blk_cell BK210.out 4).trans rfl; have hcz22_5 : w21.cell? ⟨gb210, 5, none⟩ = some (.int .i64 0) := (blk_cell BK210.out 5).trans rfl; have hcz22_6 : w21.cell? ⟨gb210, 6, none⟩ = some (.int .i64 0) := (blk_cell BK210.out 6).trans rfl; have hcz22_7 : w21.cell? ⟨gb210, 7, none⟩ = some (.slice none 0 0) := (blk_cell BK210.out 7).trans rfl; have hfz22_0 := blk_frozen BK210.out 0; have hfz22_1 := blk_frozen BK210.out 1; have hfz22_2 := blk_frozen BK210.out 2; have hfz22_3 := blk_frozen BK210.out 3; have hfz22_4 := blk_frozen BK210.out 4; have hfz22_5 := blk_frozen BK210.out 5; have hfz22_6 := blk_frozen BK210.out 6; have hfz22_7 := blk_frozen BK210.out 7)); go_roundg k1; (case measure => have := HK1.out; omega); (case rel => exact ⟨(wrap64 (x11_1 + 1)), (by first | rfl | (simp; done) | (simp [*]; done)), H', ⟨by have := HK1.out; omega⟩, ⟨by repeat (first | (with_reducible first | exact HB.out | apply below_alloc | apply pw_below_drewN | apply below_drew1 | refine below_set ?_ GE210.out) | exact HB.out)⟩⟩))); (· rw [if_neg c9] at H; have c9b0 : decide (a1 < (wrap64 (((rd_T62 l0 x11_1).f1) + ((rd_T62 l0 x11_1).f3)))) = false := decide_eq_false c9; clear c9; have H' := Aside0.mk H; clear H; have p209 : 0 ≤ (x11_1 : Int) := of_decide_eq_true (by first | (with_reducible assumption) | assumption); have q209 : x11_1 < (l0.length : Int) := of_decide_eq_true (by first | (with_reducible assumption) | assumption); obtain ⟨ad209, A209_7, c209_7, e209, hx209_0, hx209_1, hx209_2, hx209_3, hx209_4, hx209_5, hx209_6, hx209_7, hl209_7, hi209_7⟩ := at_T62 HR0.out x11_1 p209 q209; cases e209; replace hx209_0 := (HB.out.cell (World.block_lt_of_cell? w _ hx209_0)).trans hx209_0; replace hx209_1 := (HB.out.cell (World.block_lt_of_cell? w _ hx209_1)).trans hx209_1; replace hx209_2 := (HB.out.cell (World.block_lt_of_cell? w _ hx209_2)).trans hx209_2; replace hx209_3 := (HB.out.cell (World.block_lt_of_cell? w _ hx209_3)).trans hx209_3; replace hx209_4 := (HB.out.cell (World.block_lt_of_cell? w _ hx209_4)).trans hx209_4; replace hx209_5 := (HB.out.cell (World.block_lt_of_cell? w _ hx209_5)).trans hx209_5; replace hx209_6 := (HB.out.cell (World.block_lt_of_cell? w _ hx209_6)).trans hx209_6; replace hx209_7 := (HB.out.cell (World.block_lt_of_cell? w _ hx209_7)).trans hx209_7; have HR209_7 := Aside0.mk hi209_7; have HC209_7 := Aside0.mk hl209_7; clear hi209_7 hl209_7; replace p209 := eq_true p209; replace q209 := eq_true q209; go_wp2_with (first | ((with_reducible refine gate_dst (N := 8) rfl ?_); refine box_event ?hg (N := 8) ?hd (cs := #[.int .i64 0, .int .i64 0, .int .i64 0, .int .i64 0, .int .i64 0, .int .i64 0, .int .i64 0, .slice none 0 0]) (t := 62) ?hr ?_; (case hd => rfl); (case hg => rfl); (case hr => first | (go_simp; done) | (go_simp; rfl)); intro gb210 hg w23 hbox hb; have n0_ := Aside0.mk (below_step (by repeat (first | (with_reducible first | exact HB.out | apply below_alloc | apply pw_below_drewN | apply below_drew1) | exact HB.out)) hb); have n1_ := Aside0.mk (hbox); have n2_ := Aside0.mk ((by rw [hg]; exact (below_size (by repeat (first | (with_reducible first | exact HB.out | apply below_alloc | apply pw_below_drewN | apply below_drew1) | exact HB.out))) : w.heap.size ≤ gb210)); have n3_ := Aside0.mk ((by rw [hg]; exact (below_size (by repeat (first | (with_reducible first | exact HB.out | apply below_alloc | apply pw_below_drewN | apply below_drew1) | exact HB.out))) : w.heap.size ≤ gb210)); clear HB; have HB := n0_; have BK210 := n1_; have GW210 := n2_; have GE210 := n3_; clear n0_ n1_ n2_ n3_; clear hb hbox hg; have hcz24_0 : w23.cell? ⟨gb210, 0, none⟩ = some (.int .i64 0) := (blk_cell BK210.out 0).trans rfl; have hcz24_1 : w23.cell? ⟨gb210, 1, none⟩ = some (.int .i64 0) := (blk_cell BK210.out 1).trans rfl; have hcz24_2 : w23.cell? ⟨gb210, 2, none⟩ = some (.int .i64 0) := (blk_cell BK210.out 2).trans rfl; have hcz24_3 : w23.cell? ⟨gb210, 3, none⟩ = some (.int .i64 0) := (blk_cell BK210.out 3).trans rfl; have hcz24_4 : w23.cell? ⟨gb210, 4, none⟩ = some (.int .i64 0) := (blk_cell BK210.out 4).trans rfl; have hcz24_5 : w23.cell? ⟨gb210, 5, none⟩ = some (.int .i64 0) := (blk_cell BK210.out 5).trans rfl; have hcz24_6 : w23.cell? ⟨gb210, 6, none⟩ = some (.int .i64 0) := (blk_cell BK210.out 6).trans rfl; have hcz24_7 : w23.cell? ⟨gb210, 7, none⟩ = some (.slice none 0 0) := (blk_cell BK210.out 7).trans rfl; have hfz24_0 := blk_frozen BK210.out 0; have hfz24_1 := blk_frozen BK210.out 1; have hfz24_2 := blk_frozen BK210.out 2; have hfz24_3 := blk_frozen BK210.out 3; have hfz24_4 := blk_frozen BK210.out 4; have hfz24_5 := blk_frozen BK210.out 5; have hfz24_6 := blk_frozen BK210.out 6; have hfz24_7 := blk_frozen BK210.out 7)); go_roundg k1; (case measure => have := HK1.out; omega); (case rel => exact ⟨(wrap64 (x11_1 + 1)), (by first | rfl | (simp; done) | (simp [*]; done)), H', ⟨by have := HK1.out; omega⟩, ⟨by repeat (first | (with_reducible first | exact HB.out | apply below_alloc | apply pw_below_drewN | apply below_drew1 | refine below_set ?_ GE210.out) | exact HB.out)⟩⟩))); (· rw [if_neg c8] at H; have c8b0 : decide (((rd_T62 l0 x11_1).f2) ≤ a2) = false := decide_eq_false c8; clear c8; have H' := Aside0.mk H; clear H; have p209 : 0 ≤ (x11_1 : Int) := of_decide_eq_true (by first | (with_reducible assumption) | assumption); have q209 : x11_1 < (l0.length : Int) := of_decide_eq_true (by first | (with_reducible assumption) | assumption); obtain ⟨ad209, A209_7, c209_7, e209, hx209_0, hx209_1, hx209_2, hx209_3, hx209_4, hx209_5, hx209_6, hx209_7, hl209_7, hi209_7⟩ := at_T62 HR0.out x11_1 p209 q209; cases e209; replace hx209_0 := (HB.out.cell (World.block_lt_of_cell? w _ hx209_0)).trans hx209_0; replace hx209_1 := (HB.out.cell (World.block_lt_of_cell? w _ hx209_1)).trans hx209_1; replace hx209_2 := (HB.out.cell (World.block_lt_of_cell? w _ hx209_2)).trans hx209_2; replace hx209_3 := (HB.out.cell (World.block_lt_of_cell? w _ hx209_3)).trans hx209_3; replace hx209_4 := (HB.out.cell (World.block_lt_of_cell? w _ hx209_4)).trans hx209_4; replace hx209_5 := (HB.out.cell (World.block_lt_of_cell? w _ hx209_5)).trans hx209_5; replace hx209_6 := (HB.out.cell (World.block_lt_of_cell? w _ hx209_6)).trans hx209_6; replace hx209_7 := (HB.out.cell (World.block_lt_of_cell? w _ hx209_7)).trans hx209_7; have HR209_7 := Aside0.mk hi209_7; have HC209_7 := Aside0.mk hl209_7; clear hi209_7 hl209_7; replace p209 := eq_true p209; replace q209 := eq_true q209; go_wp2_with (first | ((with_reducible refine gate_dst (N := 8) rfl ?_); refine box_event ?hg (N := 8) ?hd (cs := #[.int .i64 0, .int .i64 0, .int .i64 0, .int .i64 0, .int .i64 0, .int .i64 0, .int .i64 0, .slice none 0 0]) (t := 62) ?hr ?_; (case hd => rfl); (case hg => rfl); (case hr => first | (go_simp; done) | (go_simp; rfl)); intro gb210 hg w25 hbox hb; have n0_ := Aside0.mk (below_step (by repeat (first | (with_reducible first | exact HB.out | apply below_alloc | apply pw_below_drewN | apply below_drew1) | exact HB.out)) hb); have n1_ := Aside0.mk (hbox); have n2_ := Aside0.mk ((by rw [hg]; exact (below_size (by repeat (first | (with_reducible first | exact HB.out | apply below_alloc | apply pw_below_drewN | apply below_drew1) | exact HB.out))) : w.heap.size ≤ gb210)); have n3_ := Aside0.mk ((by rw [hg]; exact (below_size (by repeat (first | (with_reducible first | exact HB.out | apply below_alloc | apply pw_below_drewN | apply below_drew1) | exact HB.out))) : w.heap.size ≤ gb210)); clear HB; have HB := n0_; have BK210 := n1_; have GW210 := n2_; have GE210 := n3_; clear n0_ n1_ n2_ n3_; clear hb hbox hg; have hcz26_0 : w25.cell? ⟨gb210, 0, none⟩ = some (.int .i64 0) := (blk_cell BK210.out 0).trans rfl; have hcz26_1 : w25.cell? ⟨gb210, 1, none⟩ = some (.int .i64 0) := (blk_cell BK210.out 1).trans rfl; have hcz26_2 : w25.cell? ⟨gb210, 2, none⟩ = some (.int .i64 0) := (blk_cell BK210.out 2).trans rfl; have hcz26_3 : w25.cell? ⟨gb210, 3, none⟩ = some (.int .i64 0) := (blk_cell BK210.out 3).trans rfl; have hcz26_4 : w25.cell? ⟨gb210, 4, none⟩ = some (.int .i64 0) := (blk_cell BK210.out 4).trans rfl; have hcz26_5 : w25.cell? ⟨gb210, 5, none⟩ = some (.int .i64 0) := (blk_cell BK210.out 5).trans rfl; have hcz26_6 : w25.cell? ⟨gb210, 6, none⟩ = some (.int .i64 0) := (blk_cell BK210.out 6).trans rfl; have hcz26_7 : w25.cell? ⟨gb210, 7, none⟩ = some (.slice none 0 0) := (blk_cell BK210.out 7).trans rfl; have hfz26_0 := blk_frozen BK210.out 0; have hfz26_1 := blk_frozen BK210.out 1; have hfz26_2 := blk_frozen BK210.out 2; have hfz26_3 := blk_frozen BK210.out 3; have hfz26_4 := blk_frozen BK210.out 4; have hfz26_5 := blk_frozen BK210.out 5; have hfz26_6 := blk_frozen BK210.out 6; have hfz26_7 := blk_frozen BK210.out 7)); go_roundg k1; (case measure => have := HK1.out; omega); (case rel => exact ⟨(wrap64 (x11_1 + 1)), (by first | rfl | (simp; done) | (simp [*]; done)), H', ⟨by have := HK1.out; omega⟩, ⟨by repeat (first | (with_reducible first | exact HB.out | apply below_alloc | apply pw_below_drewN | apply below_drew1 | refine below_set ?_ GE210.out) | exact HB.out)⟩⟩))); (· rw [if_neg c7] at H; have c7b0 : decide (((rd_T62 l0 x11_1).f1) ≤ a1) = false := decide_eq_false c7; clear c7; have H' := Aside0.mk H; clear H; have p209 : 0 ≤ (x11_1 : Int) := of_decide_eq_true (by first | (with_reducible assumption) | assumption); have q209 : x11_1 < (l0.length : Int) := of_decide_eq_true (by first | (with_reducible assumption) | assumption); obtain ⟨ad209, A209_7, c209_7, e209, hx209_0, hx209_1, hx209_2, hx209_3, hx209_4, hx209_5, hx209_6, hx209_7, hl209_7, hi209_7⟩ := at_T62 HR0.out x11_1 p209 q209; cases e209; replace hx209_0 := (HB.out.cell (World.block_lt_of_cell? w _ hx209_0)).trans hx209_0; replace hx209_1 := (HB.out.cell (World.block_lt_of_cell? w _ hx209_1)).trans hx209_1; replace hx209_2 := (HB.out.cell (World.block_lt_of_cell? w _ hx209_2)).trans hx209_2; replace hx209_3 := (HB.out.cell (World.block_lt_of_cell? w _ hx209_3)).trans hx209_3; replace hx209_4 := (HB.out.cell (World.block_lt_of_cell? w _ hx209_4)).trans hx209_4; replace hx209_5 := (HB.out.cell (World.block_lt_of_cell? w _ hx209_5)).trans hx209_5; replace hx209_6 := (HB.out.cell (World.block_lt_of_cell? w _ hx209_6)).trans hx209_6; replace hx209_7 := (HB.out.cell (World.block_lt_of_cell? w _ hx209_7)).trans hx209_7; have HR209_7 := Aside0.mk hi209_7; have HC209_7 := Aside0.mk hl209_7; clear hi209_7 hl209_7; replace p209 := eq_true p209; replace q209 := eq_true q209; go_wp2_with (first | ((with_reducible refine gate_dst (N := 8) rfl ?_); refine box_event ?hg (N := 8) ?hd (cs := #[.int .i64 0, .int .i64 0, .int .i64 0, .int .i64 0, .int .i64 0, .int .i64 0, .int .i64 0, .slice none 0 0]) (t := 62) ?hr ?_; (case hd => rfl); (case hg => rfl); (case hr => first | (go_simp; done) | (go_simp; rfl)); intro gb210 hg w27 hbox hb; have n0_ := Aside0.mk (below_step (by repeat (first | (with_reducible first | exact HB.out | apply below_alloc | apply pw_below_drewN | apply below_drew1) | exact HB.out)) hb); have n1_ := Aside0.mk (hbox); have n2_ := Aside0.mk ((by rw [hg]; exact (below_size (by repeat (first | (with_reducible first | exact HB.out | apply below_alloc | apply pw_below_drewN | apply below_drew1) | exact HB.out))) : w.heap.size ≤ gb210)); have n3_ := Aside0.mk ((by rw [hg]; exact (below_size (by repeat (first | (with_reducible first | exact HB.out | apply below_alloc | apply pw_below_drewN | apply below_drew1) | exact HB.out))) : w.heap.size ≤ gb210)); clear HB; have HB := n0_; have BK210 := n1_; have GW210 := n2_; have GE210 := n3_; clear n0_ n1_ n2_ n3_; clear hb hbox hg; have hcz28_0 : w27.cell? ⟨gb210, 0, none⟩ = some (.int .i64 0) := (blk_cell BK210.out 0).trans rfl; have hcz28_1 : w27.cell? ⟨gb210, 1, none⟩ = some (.int .i64 0) := (blk_cell BK210.out 1).trans rfl; have hcz28_2 : w27.cell? ⟨gb210, 2, none⟩ = some (.int .i64 0) := (blk_cell BK210.out 2).trans rfl; have hcz28_3 : w27.cell? ⟨gb210, 3, none⟩ = some (.int .i64 0) := (blk_cell BK210.out 3).trans rfl; have hcz28_4 : w27.cell? ⟨gb210, 4, none⟩ = some (.int .i64 0) := (blk_cell BK210.out 4).trans rfl; have hcz28_5 : w27.cell? ⟨gb210, 5, none⟩ = some (.int .i64 0) := (blk_cell BK210.out 5).trans rfl; have hcz28_6 : w27.cell? ⟨gb210, 6, none⟩ = some (.int .i64 0) := (blk_cell BK210.out 6).trans rfl; have hcz28_7 : w27.cell? ⟨gb210, 7, none⟩ = some (.slice none 0 0) := (blk_cell BK210.out 7).trans rfl; have hfz28_0 := blk_frozen BK210.out 0; have hfz28_1 := blk_frozen BK210.out 1; have hfz28_2 := blk_frozen BK210.out 2; have hfz28_3 := blk_frozen BK210.out 3; have hfz28_4 := blk_frozen BK210.out 4; have hfz28_5 := blk_frozen BK210.out 5; have hfz28_6 := blk_frozen BK210.out 6; have hfz28_7 := blk_frozen BK210.out 7)); go_roundg k1; (case measure => have := HK1.out; omega); (case rel => exact ⟨(wrap64 (x11_1 + 1)), (by first | rfl | (simp; done) | (simp [*]; done)), H', ⟨by have := HK1.out; omega⟩, ⟨by repeat (first | (with_reducible first | exact HB.out | apply below_alloc | apply pw_below_drewN | apply below_drew1 | refine below_set ?_ GE210.out) | exact HB.out)⟩⟩))); (· rw [if_neg c6] at H; exact absurd H (by simp))); (· rw [if_neg c5] at H; exact absurd H (by simp)))
   (· rw [if_neg c4] at H; have c4b0 : decide (x11_1 < (l0.length : Int)) = false := decide_eq_false c4; clear c4; obtain rfl := Option.some.inj H; go_wp2; go_ret; (exact ⟨_, by first | rfl | (simp [errW_none, errW_some] <;> rfl) | (simp [*, errW_none, errW_some] <;> rfl), by first | exact Kd.R_nil _ _ _ _ _ | exact Kd.N_nil _ _ _ _ _ | exact Kd.V_nil _ _ _ _ _ | exact Kd.Q_nil _ _ _ _ _ | exact Kd.S_nil _ _ _ _ _, by repeat (first | (with_reducible first | exact HB.out | apply below_alloc | apply pw_below_drewN | apply below_drew1) | exact HB.out)⟩))
end Go.Proofs.Ytgcdhikmdbjfeaa.U
namespace Go.Proofs.Ytgcdhikmdbjfeaa.U
open Go.RowKit Go.Proofs.YtgcdhikmdbjfeaaW.PrintWords Go.Proofs.YtgcdhikmdbjfeaaW.PrintLast Go.Proofs.YtgcdhikmdbjfeaaW.PrintMore
attribute [local go_sem] max2_int min2_int max_two min_two max_three min_three max_four min_four   -- for this text's walks alone
def incunableref24_At.f (k : Nat) (l0_0 : List Int) (l0_1 : List (S62)) (a1 : Int) (a2 : Int) : Option (List Int × Int) := (incunableref24_Valid.f k l0_0 l0_1).bind fun t221 => (if t221 = true then ((incunableref24_path.f k l0_1 a1 a2).bind fun t222 => (if (t222.length : Int) = 0 then (some (([] : List Int), 5)) else (some (t222, 0)))) else (some (([] : List Int), 90)))
theorem incunableref24_At.mono : ∀ a0 a1 a2 a3 k, LeO (incunableref24_At.f k a0 a1 a2 a3) (incunableref24_At.f (k + 1) a0 a1 a2 a3) := by
 intro a0 a1 a2 a3 k; unfold incunableref24_At.f
 repeat' first
  | (with_reducible exact incunableref24_Valid.mono _ _ _)
  | (with_reducible exact incunableref24_path.mono _ _ _ _)
  | (with_reducible exact LeO.refl _)
  | (with_reducible exact LeO.none _)
  | (with_reducible refine LeO.ite ?_ ?_)
  | (with_reducible refine LeO.bind ?_ (fun _ => ?_))
  | exact incunableref24_Valid.mono _ _ _
  | exact incunableref24_path.mono _ _ _ _
  | exact LeO.none _
  | refine LeO.ite ?_ ?_
  | refine LeO.bind ?_ (fun _ => ?_)
set_option maxHeartbeats 8000000 in
set_option maxRecDepth 100000 in
theorem incunableref24_At.calls (k : Nat) (A0_0 : Option Addr) (c0_0 : Nat) (l0_0 : List Int) (A0_1 : Option Addr) (c0_1 : Nat) (l0_1 : List (S62)) (a1 : Int) (a2 : Int) (r1 : List Int) (r2 : Int) (w : World) (hr0_0 : Kd.C (Kd.int .u8) w A0_0 l0_0.length l0_0) (hc0_0 : l0_0.length ≤ c0_0) (hr0_1 : Kd.C k62 w A0_1 l0_1.length l0_1) (hc0_1 : l0_1.length ≤ c0_1) (h : incunableref24_At.f k l0_0 l0_1 a1 a2 = some (r1, r2)) :
    Calls Try.prog 20 #[.agg #[.slice A0_0 l0_0.length c0_0, .slice A0_1 l0_1.length c0_1], .int .i64 a1, .int .i64 a2] w fun e w' => ∃ v0_ : Value, e = .returned (.tuple #[v0_, .int .i64 r2]) ∧ Kd.R (Kd.int .i64) 3 w' w.heap.size (fun _ => True) v0_ r1 ∧ Below w.heap.size w w' := by
 have hu25 := Try.underlying25; have HR0_0 := Aside0.mk hr0_0; have HC0_0 := Aside0.mk hc0_0; clear hr0_0 hc0_0; have HR0_1 := Aside0.mk hr0_1; have HC0_1 := Aside0.mk hc0_1; clear hr0_1 hc0_1; have HB := Aside0.mk (Below.refl w.heap.size w); have H : ((incunableref24_Valid.f k l0_0 l0_1).bind fun t221 => (if t221 = true then ((incunableref24_path.f k l0_1 a1 a2).bind fun t222 => (if (t222.length : Int) = 0 then (some (([] : List Int), 5)) else (some (t222, 0)))) else (some (([] : List Int), 90)))) = some (r1, r2) := h; clear h; replace H := Option.bind_eq_some_iff.mp H; obtain ⟨t221, A40, H⟩ := H; replace H : (if t221 = true then ((incunableref24_path.f k l0_1 a1 a2).bind fun t222 => (if (t222.length : Int) = 0 then (some (([] : List Int), 5)) else (some (t222, 0)))) else (some (([] : List Int), 90))) = some (r1, r2) := H; have A4 := Aside0.mk A40; clear A40; by_cases c5 : t221 = true
 (· subst c5; (have H1 : ((incunableref24_path.f k l0_1 a1 a2).bind fun t222 => (if (t222.length : Int) = 0 then (some (([] : List Int), 5)) else (some (t222, 0)))) = some (r1, r2) := by rw [if_pos rfl] at H; exact H); clear H; have H := H1; clear H1; replace H := Option.bind_eq_some_iff.mp H; obtain ⟨t222, A60, H⟩ := H; replace H : (if (t222.length : Int) = 0 then (some (([] : List Int), 5)) else (some (t222, 0))) = some (r1, r2) := H; have A6 := Aside0.mk A60; clear A60; by_cases c7 : (t222.length : Int) = 0; (· rw [if_pos c7] at H; have c7b0 : ((t222.length : Int) == 0) = true := beq_iff_eq.mpr c7; have c7b1 : ((t222.length : Int) != 0) = false := bne_eq_false_iff_eq.mpr c7; clear c7; simp only [Option.some.injEq, Prod.mk.injEq] at H; obtain ⟨rfl, rfl⟩ := H; go_enter Try.func20, Try.ntmps20; go_wp2_with (first | ((with_reducible refine gate_dst (N := 3) rfl ?_); refine box_event ?hg (N := 3) ?hd (cs := #[.slice A0_0 l0_0.length c0_0, .slice A0_1 l0_1.length c0_1]) (t := 25) ?hr ?_; (case hd => rfl); (case hg => rfl); (case hr => first | (go_simp; done) | (go_simp; rfl)); intro gb220 hg w8 hbox hb; have n0_ := Aside0.mk (below_step (by repeat (first | (with_reducible first | exact HB.out | apply below_alloc | apply pw_below_drewN | apply below_drew1) | exact HB.out)) hb); have n1_ := Aside0.mk (hbox); have n2_ := Aside0.mk ((by rw [hg]; exact (below_size (by repeat (first | (with_reducible first | exact HB.out | apply below_alloc | apply pw_below_drewN | apply below_drew1) | exact HB.out))) : w.heap.size ≤ gb220)); have n3_ := Aside0.mk ((by rw [hg]; exact (below_size (by repeat (first | (with_reducible first | exact HB.out | apply below_alloc | apply pw_below_drewN | apply below_drew1) | exact HB.out))) : w.heap.size ≤ gb220)); clear HB; have HB := n0_; have BK220 := n1_; have GW220 := n2_; have GE220 := n3_; clear n0_ n1_ n2_ n3_; clear hb hbox hg; have hcz9_0 : w8.cell? ⟨gb220, 0, none⟩ = some (.slice A0_0 l0_0.length c0_0) := (blk_cell BK220.out 0).trans rfl; have hcz9_1 : w8.cell? ⟨gb220, 1, none⟩ = some (.slice A0_1 l0_1.length c0_1) := (blk_cell BK220.out 1).trans rfl; have hfz9_0 := blk_frozen BK220.out 0; have hfz9_1 := blk_frozen BK220.out 1) | ((with_reducible refine gate_callee (f := 16) rfl ?_); refine goesL_ (some 10) rfl rfl Try.func16 (by kernel_rfl) rfl #[.agg #[.slice A0_0 l0_0.length c0_0, .slice A0_1 l0_1.length c0_1]] rfl (by (try simp only [List.map_toArray, List.map_cons, List.map_nil]); first | done | rfl | (simp only [List.length_drop, List.length_take]; rfl)) ?_; (with_reducible refine (incunableref24_Valid.calls k _ _ l0_0 _ _ l0_1 true _ ?side1 ?side2 ?side3 ?side4 A4.out).mono ?_); (case side1 => repeat (first | exact (Kd.C_below HR0_0.out HB.out) | (with_reducible refine Kd.C_alloc ?_ _) | (with_reducible refine Kd.C_drewN ?_ _) | (with_reducible refine Kd.C_drew ?_))); (case side2 => exact HC0_0.out); (case side3 => repeat (first | exact (Kd.C_below HR0_1.out HB.out) | (with_reducible refine Kd.C_alloc ?_ _) | (with_reducible refine Kd.C_drewN ?_ _) | (with_reducible refine Kd.C_drew ?_))); (case side4 => exact HC0_1.out); rintro e w10 ⟨rfl, hb⟩; refine ⟨_, rfl, ?_⟩; have n0_ := Aside0.mk (blk_below (g := gb220) (o := .cells #[.slice A0_0 l0_0.length c0_0, .slice A0_1 l0_1.length c0_1] 25 (0, 0)) (by (with_reducible repeat (first | refine blk_drewN ?_ _ | refine blk_drew ?_ | refine blk_alloc ?_ _)); exact BK220.out) hb); have n1_ := Aside0.mk (below_step (by repeat (first | (with_reducible first | exact HB.out | apply below_alloc | apply pw_below_drewN | apply below_drew1 | refine below_set ?_ GE220.out) | exact HB.out)) hb); clear BK220; clear HB; have BK220 := n0_; have HB := n1_; clear n0_ n1_; (try clear hb); (try clear hb2); (try clear hk); (try clear hi); have hcz11_0 : w10.cell? ⟨gb220, 0, none⟩ = some (.slice A0_0 l0_0.length c0_0) := (blk_cell BK220.out 0).trans rfl; have hcz11_1 : w10.cell? ⟨gb220, 1, none⟩ = some (.slice A0_1 l0_1.length c0_1) := (blk_cell BK220.out 1).trans rfl; have hfz11_0 := blk_frozen BK220.out 0; have hfz11_1 := blk_frozen BK220.out 1) | ((with_reducible refine gate_callee (f := 43) rfl ?_); refine goesL_ (some 16) rfl rfl Try.func43 (by kernel_rfl) rfl #[.slice A0_1 l0_1.length c0_1, .int .i64 a1, .int .i64 a2] rfl (by (try simp only [List.map_toArray, List.map_cons, List.map_nil]); first | done | rfl | (simp only [List.length_drop, List.length_take]; rfl)) ?_; (with_reducible refine (incunableref24_path.calls k _ _ l0_1 a1 a2 t222 _ ?side1 ?side2 A6.out).mono ?_); (case side1 => repeat (first | exact (Kd.C_below HR0_1.out HB.out) | (with_reducible refine Kd.C_alloc ?_ _) | (with_reducible refine Kd.C_drewN ?_ _) | (with_reducible refine Kd.C_drew ?_))); (case side2 => exact HC0_1.out); rintro e w12 ⟨v223, rfl, ho0, hb⟩; refine ⟨_, rfl, ?_⟩; have n0_ := Aside0.mk (Kd.R_lower ho0 (below_size (by repeat (first | (with_reducible first | exact HB.out | apply below_alloc | apply pw_below_drewN | apply below_drew1 | refine below_set ?_ GE220.out) | exact HB.out)))); have n1_ := Aside0.mk (blk_below (g := gb220) (o := .cells #[.slice A0_0 l0_0.length c0_0, .slice A0_1 l0_1.length c0_1] 25 (0, 0)) (by (with_reducible repeat (first | refine blk_drewN ?_ _ | refine blk_drew ?_ | refine blk_alloc ?_ _)); exact BK220.out) hb); have n2_ := Aside0.mk (below_step (by repeat (first | (with_reducible first | exact HB.out | apply below_alloc | apply pw_below_drewN | apply below_drew1 | refine below_set ?_ GE220.out) | exact HB.out)) hb); clear BK220; clear HB; have HO224 := n0_; have BK220 := n1_; have HB := n2_; clear n0_ n1_ n2_; (try clear hb); (try clear hb2); (try clear hk); (try clear hi); (try clear ho0); obtain ⟨Ao13, co13, eo13⟩ := Kd.R_slice HO224.out; subst eo13)); go_ret2; (exact ⟨_, by first | rfl | (simp [errW_none, errW_some] <;> rfl) | (simp [*, errW_none, errW_some] <;> rfl), by first | exact Kd.R_nil _ _ _ _ _ | exact Kd.N_nil _ _ _ _ _ | exact Kd.V_nil _ _ _ _ _ | exact Kd.Q_nil _ _ _ _ _ | exact Kd.S_nil _ _ _ _ _, by repeat (first | (with_reducible first | exact HB.out | apply below_alloc | apply pw_below_drewN | apply below_drew1 | refine below_set ?_ GE220.out) | exact HB.out)⟩)); (· rw [if_neg c7] at H; have c7b0 : ((t222.length : Int) == 0) = false := beq_eq_false_iff_ne.mpr c7; have c7b1 : ((t222.length : Int) != 0) = true := bne_iff_ne.mpr c7; have c7b2 : ¬ (t222 = []) := fun h_ => c7 (by rw [h_]; rfl); simp only [Option.some.injEq, Prod.mk.injEq] at H; obtain ⟨rfl, rfl⟩ := H; go_enter Try.func20, Try.ntmps20; go_wp2_with (first | ((with_reducible refine gate_dst (N := 3) rfl ?_); refine box_event ?hg (N := 3) ?hd (cs := #[.slice A0_0 l0_0.length c0_0, .slice A0_1 l0_1.length c0_1]) (t := 25) ?hr ?_; (case hd => rfl); (case hg => rfl); (case hr => first | (go_simp; done) | (go_simp; rfl)); intro gb220 hg w14 hbox hb; have n0_ := Aside0.mk (below_step (by repeat (first | (with_reducible first | exact HB.out | apply below_alloc | apply pw_below_drewN | apply below_drew1) | exact HB.out)) hb); have n1_ := Aside0.mk (hbox); have n2_ := Aside0.mk ((by rw [hg]; exact (below_size (by repeat (first | (with_reducible first | exact HB.out | apply below_alloc | apply pw_below_drewN | apply below_drew1) | exact HB.out))) : w.heap.size ≤ gb220)); have n3_ := Aside0.mk ((by rw [hg]; exact (below_size (by repeat (first | (with_reducible first | exact HB.out | apply below_alloc | apply pw_below_drewN | apply below_drew1) | exact HB.out))) : w.heap.size ≤ gb220)); clear HB; have HB := n0_; have BK220 := n1_; have GW220 := n2_; have GE220 := n3_; clear n0_ n1_ n2_ n3_; clear hb hbox hg; have hcz15_0 : w14.cell? ⟨gb220, 0, none⟩ = some (.slice A0_0 l0_0.length c0_0) := (blk_cell BK220.out 0).trans rfl; have hcz15_1 : w14.cell? ⟨gb220, 1, none⟩ = some (.slice A0_1 l0_1.length c0_1) := (blk_cell BK220.out 1).trans rfl; have hfz15_0 := blk_frozen BK220.out 0; have hfz15_1 := blk_frozen BK220.out 1) | ((with_reducible refine gate_callee (f := 16) rfl ?_); refine goesL_ (some 10) rfl rfl Try.func16 (by kernel_rfl) rfl #[.agg #[.slice A0_0 l0_0.length c0_0, .slice A0_1 l0_1.length c0_1]] rfl (by (try simp only [List.map_toArray, List.map_cons, List.map_nil]); first | done | rfl | (simp only [List.length_drop, List.length_take]; rfl)) ?_; (with_reducible refine (incunableref24_Valid.calls k _ _ l0_0 _ _ l0_1 true _ ?side1 ?side2 ?side3 ?side4 A4.out).mono ?_); (case side1 => repeat (first | exact (Kd.C_below HR0_0.out HB.out) | (with_reducible refine Kd.C_alloc ?_ _) | (with_reducible refine Kd.C_drewN ?_ _) | (with_reducible refine Kd.C_drew ?_))); (case side2 => exact HC0_0.out); (case side3 => repeat (first | exact (Kd.C_below HR0_1.out HB.out) | (with_reducible refine Kd.C_alloc ?_ _) | (with_reducible refine Kd.C_drewN ?_ _) | (with_reducible refine Kd.C_drew ?_))); (case side4 => exact HC0_1.out); rintro e w16 ⟨rfl, hb⟩; refine ⟨_, rfl, ?_⟩; have n0_ := Aside0.mk (blk_below (g := gb220) (o := .cells #[.slice A0_0 l0_0.length c0_0, .slice A0_1 l0_1.length c0_1] 25 (0, 0)) (by (with_reducible repeat (first | refine blk_drewN ?_ _ | refine blk_drew ?_ | refine blk_alloc ?_ _)); exact BK220.out) hb); have n1_ := Aside0.mk (below_step (by repeat (first | (with_reducible first | exact HB.out | apply below_alloc | apply pw_below_drewN | apply below_drew1 | refine below_set ?_ GE220.out) | exact HB.out)) hb); clear BK220; clear HB; have BK220 := n0_; have HB := n1_; clear n0_ n1_; (try clear hb); (try clear hb2); (try clear hk); (try clear hi); have hcz17_0 : w16.cell? ⟨gb220, 0, none⟩ = some (.slice A0_0 l0_0.length c0_0) := (blk_cell BK220.out 0).trans rfl; have hcz17_1 : w16.cell? ⟨gb220, 1, none⟩ = some (.slice A0_1 l0_1.length c0_1) := (blk_cell BK220.out 1).trans rfl; have hfz17_0 := blk_frozen BK220.out 0; have hfz17_1 := blk_frozen BK220.out 1) | ((with_reducible refine gate_callee (f := 43) rfl ?_); refine goesL_ (some 16) rfl rfl Try.func43 (by kernel_rfl) rfl #[.slice A0_1 l0_1.length c0_1, .int .i64 a1, .int .i64 a2] rfl (by (try simp only [List.map_toArray, List.map_cons, List.map_nil]); first | done | rfl | (simp only [List.length_drop, List.length_take]; rfl)) ?_; (with_reducible refine (incunableref24_path.calls k _ _ l0_1 a1 a2 t222 _ ?side1 ?side2 A6.out).mono ?_); (case side1 => repeat (first | exact (Kd.C_below HR0_1.out HB.out) | (with_reducible refine Kd.C_alloc ?_ _) | (with_reducible refine Kd.C_drewN ?_ _) | (with_reducible refine Kd.C_drew ?_))); (case side2 => exact HC0_1.out); rintro e w18 ⟨v223, rfl, ho0, hb⟩; refine ⟨_, rfl, ?_⟩; have n0_ := Aside0.mk (Kd.R_lower ho0 (below_size (by repeat (first | (with_reducible first | exact HB.out | apply below_alloc | apply pw_below_drewN | apply below_drew1 | refine below_set ?_ GE220.out) | exact HB.out)))); have n1_ := Aside0.mk (blk_below (g := gb220) (o := .cells #[.slice A0_0 l0_0.length c0_0, .slice A0_1 l0_1.length c0_1] 25 (0, 0)) (by (with_reducible repeat (first | refine blk_drewN ?_ _ | refine blk_drew ?_ | refine blk_alloc ?_ _)); exact BK220.out) hb); have n2_ := Aside0.mk (below_step (by repeat (first | (with_reducible first | exact HB.out | apply below_alloc | apply pw_below_drewN | apply below_drew1 | refine below_set ?_ GE220.out) | exact HB.out)) hb); clear BK220; clear HB; have HO224 := n0_; have BK220 := n1_; have HB := n2_; clear n0_ n1_ n2_; (try clear hb); (try clear hb2); (try clear hk); (try clear hi); (try clear ho0); obtain ⟨Ao19, co19, eo19⟩ := Kd.R_slice HO224.out; subst eo19)); go_ret2; (exact ⟨_, by first | rfl | (simp [errW_none, errW_some] <;> rfl) | (simp [*, errW_none, errW_some] <;> rfl), by (with_reducible repeat (first | apply Kd.R_alloc | apply Kd.R_drewN | apply Kd.R_drew)); exact HO224.out, by repeat (first | (with_reducible first | exact HB.out | apply below_alloc | apply pw_below_drewN | apply below_drew1 | refine below_set ?_ GE220.out) | exact HB.out)⟩)))
 (· replace c5 := Bool.eq_false_iff.mpr c5; subst c5; (have H1 : (some (([] : List Int), 90)) = some (r1, r2) := by rw [if_neg (show ¬ (false = true) by decide)] at H; exact H); clear H; have H := H1; clear H1; simp only [Option.some.injEq, Prod.mk.injEq] at H; obtain ⟨rfl, rfl⟩ := H; go_enter Try.func20, Try.ntmps20; go_wp2_with (first | ((with_reducible refine gate_dst (N := 3) rfl ?_); refine box_event ?hg (N := 3) ?hd (cs := #[.slice A0_0 l0_0.length c0_0, .slice A0_1 l0_1.length c0_1]) (t := 25) ?hr ?_; (case hd => rfl); (case hg => rfl); (case hr => first | (go_simp; done) | (go_simp; rfl)); intro gb220 hg w20 hbox hb; have n0_ := Aside0.mk (below_step (by repeat (first | (with_reducible first | exact HB.out | apply below_alloc | apply pw_below_drewN | apply below_drew1) | exact HB.out)) hb); have n1_ := Aside0.mk (hbox); have n2_ := Aside0.mk ((by rw [hg]; exact (below_size (by repeat (first | (with_reducible first | exact HB.out | apply below_alloc | apply pw_below_drewN | apply below_drew1) | exact HB.out))) : w.heap.size ≤ gb220)); have n3_ := Aside0.mk ((by rw [hg]; exact (below_size (by repeat (first | (with_reducible first | exact HB.out | apply below_alloc | apply pw_below_drewN | apply below_drew1) | exact HB.out))) : w.heap.size ≤ gb220)); clear HB; have HB := n0_; have BK220 := n1_; have GW220 := n2_; have GE220 := n3_; clear n0_ n1_ n2_ n3_; clear hb hbox hg; have hcz21_0 : w20.cell? ⟨gb220, 0, none⟩ = some (.slice A0_0 l0_0.length c0_0) := (blk_cell BK220.out 0).trans rfl; have hcz21_1 : w20.cell? ⟨gb220, 1, none⟩ = some (.slice A0_1 l0_1.length c0_1) := (blk_cell BK220.out 1).trans rfl; have hfz21_0 := blk_frozen BK220.out 0; have hfz21_1 := blk_frozen BK220.out 1) | ((with_reducible refine gate_callee (f := 16) rfl ?_); refine goesL_ (some 10) rfl rfl Try.func16 (by kernel_rfl) rfl #[.agg #[.slice A0_0 l0_0.length c0_0, .slice A0_1 l0_1.length c0_1]] rfl (by (try simp only [List.map_toArray, List.map_cons, List.map_nil]); first | done | rfl | (simp only [List.length_drop, List.length_take]; rfl)) ?_; (with_reducible refine (incunableref24_Valid.calls k _ _ l0_0 _ _ l0_1 false _ ?side1 ?side2 ?side3 ?side4 A4.out).mono ?_); (case side1 => repeat (first | exact (Kd.C_below HR0_0.out HB.out) | (with_reducible refine Kd.C_alloc ?_ _) | (with_reducible refine Kd.C_drewN ?_ _) | (with_reducible refine Kd.C_drew ?_))); (case side2 => exact HC0_0.out); (case side3 => repeat (first | exact (Kd.C_below HR0_1.out HB.out) | (with_reducible refine Kd.C_alloc ?_ _) | (with_reducible refine Kd.C_drewN ?_ _) | (with_reducible refine Kd.C_drew ?_))); (case side4 => exact HC0_1.out); rintro e w22 ⟨rfl, hb⟩; refine ⟨_, rfl, ?_⟩; have n0_ := Aside0.mk (blk_below (g := gb220) (o := .cells #[.slice A0_0 l0_0.length c0_0, .slice A0_1 l0_1.length c0_1] 25 (0, 0)) (by (with_reducible repeat (first | refine blk_drewN ?_ _ | refine blk_drew ?_ | refine blk_alloc ?_ _)); exact BK220.out) hb); have n1_ := Aside0.mk (below_step (by repeat (first | (with_reducible first | exact HB.out | apply below_alloc | apply pw_below_drewN | apply below_drew1 | refine below_set ?_ GE220.out) | exact HB.out)) hb); clear BK220; clear HB; have BK220 := n0_; have HB := n1_; clear n0_ n1_; (try clear hb); (try clear hb2); (try clear hk); (try clear hi))); go_ret2; (exact ⟨_, by first | rfl | (simp [errW_none, errW_some] <;> rfl) | (simp [*, errW_none, errW_some] <;> rfl), by first | exact Kd.R_nil _ _ _ _ _ | exact Kd.N_nil _ _ _ _ _ | exact Kd.V_nil _ _ _ _ _ | exact Kd.Q_nil _ _ _ _ _ | exact Kd.S_nil _ _ _ _ _, by repeat (first | (with_reducible first | exact HB.out | apply below_alloc | apply pw_below_drewN | apply below_drew1 | refine below_set ?_ GE220.out) | exact HB.out)⟩))
end Go.Proofs.Ytgcdhikmdbjfeaa.U
namespace Go.Proofs.Ytgcdhikmdbjfeaa.U
open Go.RowKit Go.Proofs.YtgcdhikmdbjfeaaW.PrintWords Go.Proofs.YtgcdhikmdbjfeaaW.PrintLast Go.Proofs.YtgcdhikmdbjfeaaW.PrintMore
attribute [local go_sem] max2_int min2_int max_two min_two max_three min_three max_four min_four   -- for this text's walks alone
def incunableref02_SameInts.l0 : Nat → List Int → List Int → Int → Int → Option (Bool)
  | 0, _, _, _, _ => none
  | k + 1, x0, x1, x12, x13 => if x13 < x12 then (if 0 ≤ x13 then (if x13 < (x0.length : Int) then (if x13 < (x1.length : Int) then (if (rd x0 x13) = (rd x1 x13) then (incunableref02_SameInts.l0 k x0 x1 x12 (wrap64 (x13 + 1))) else (some false)) else (none)) else (none)) else (none)) else (some true)
def incunableref02_SameInts.f (k : Nat) (l0 : List Int) (l1 : List Int) : Option (Bool) := if (l0.length : Int) = (l1.length : Int) then (incunableref02_SameInts.l0 k l0 l1 (l0.length : Int) 0) else (some false)
theorem incunableref02_SameInts.mono_l : ∀ k, (∀ y0 y1 y2 y3, LeO (incunableref02_SameInts.l0 k y0 y1 y2 y3) (incunableref02_SameInts.l0 (k + 1) y0 y1 y2 y3))
  | 0 => fun _ _ _ _ r h => by simp [incunableref02_SameInts.l0] at h
  | k + 1 => by
    have ih0 := incunableref02_SameInts.mono_l k
    · intro y0 y1 y2 y3
      unfold incunableref02_SameInts.l0
      repeat' first
      | (with_reducible exact ih0 _ _ _ _)
      | (with_reducible exact LeO.refl _)
      | (with_reducible exact LeO.none _)
      | (with_reducible refine LeO.ite ?_ ?_)
      | (with_reducible refine LeO.bind ?_ (fun _ => ?_))
      | exact ih0 _ _ _ _
      | exact LeO.none _
      | refine LeO.ite ?_ ?_
      | refine LeO.bind ?_ (fun _ => ?_)
theorem incunableref02_SameInts.mono : ∀ a0 a1 k, LeO (incunableref02_SameInts.f k a0 a1) (incunableref02_SameInts.f (k + 1) a0 a1) := by
 intro a0 a1 k; have ih0 := incunableref02_SameInts.mono_l k; unfold incunableref02_SameInts.f
 repeat' first
  | (with_reducible exact ih0 _ _ _ _)
  | (with_reducible exact LeO.refl _)
  | (with_reducible exact LeO.none _)
  | (with_reducible refine LeO.ite ?_ ?_)
  | (with_reducible refine LeO.bind ?_ (fun _ => ?_))
  | exact ih0 _ _ _ _
  | exact LeO.none _
  | refine LeO.ite ?_ ?_
  | refine LeO.bind ?_ (fun _ => ?_)
set_option maxHeartbeats 8000000 in
set_option maxRecDepth 100000 in
theorem incunableref02_SameInts.calls (k : Nat) (A0 : Option Addr) (c0 : Nat) (l0 : List Int) (A1 : Option Addr) (c1 : Nat) (l1 : List Int) (r : Bool) (w : World) (hr0 : Kd.C (Kd.int .i64) w A0 l0.length l0) (hc0 : l0.length ≤ c0) (hr1 : Kd.C (Kd.int .i64) w A1 l1.length l1) (hc1 : l1.length ≤ c1) (h : incunableref02_SameInts.f k l0 l1 = some r) :
    Calls Try.prog 21 #[.slice A0 l0.length c0, .slice A1 l1.length c1] w fun e w' => e = .returned (.bool r) ∧ Drawn0 w w' := by
 have HR0 := Aside0.mk hr0; have HC0 := Aside0.mk hc0; clear hr0 hc0; have HR1 := Aside0.mk hr1; have HC1 := Aside0.mk hc1; clear hr1 hc1; have H : (if (l0.length : Int) = (l1.length : Int) then (incunableref02_SameInts.l0 k l0 l1 (l0.length : Int) 0) else (some false)) = some r := h; clear h; by_cases c3 : (l0.length : Int) = (l1.length : Int)
 · rw [if_pos c3] at H
   have c3b0 : ((l0.length : Int) == (l1.length : Int)) = true := beq_iff_eq.mpr c3; have c3b1 : ((l0.length : Int) != (l1.length : Int)) = false := bne_eq_false_iff_eq.mpr c3; (have c3b2 : (l0.length == l1.length) = true := by first | simpa using c3 | (simp at c3 ⊢; omega)); clear c3; have H' := Aside0.mk H; clear H; go_enter Try.func21, Try.ntmps21; go_wp2; (repeat (go_quiet (fail); try go_wp2)); go_loopg [13] k (fun kq v13 w' => ∃ (x13_1 : Int), v13 = .int .i64 x13_1 ∧ Aside0 (incunableref02_SameInts.l0 kq l0 l1 (l0.length : Int) x13_1 = some r) ∧ Aside0 (kq ≤ k) ∧ Drawn0 w w'); (case atStart => exact ⟨(0), (by first | rfl | (simp; done) | (simp [*]; done)), H', ⟨Nat.le_refl _⟩, by repeat (first | exact Drawn0.refl _ | apply Drawn0.step)⟩)
   case round =>
    clear H'; (try clear c1); (try clear c2); (try clear p2); (try clear c3); (try clear c3b0); (try clear c3b1); (try clear c3b2); obtain ⟨x13_1, rfl, HA, HK1, ⟨m1, rfl⟩⟩ := hrel
    cases gk with
    | zero => exact absurd HA.out (by simp [incunableref02_SameInts.l0])
    | succ k1 =>
     have H := HA.out; clear HA; simp only [incunableref02_SameInts.l0] at H; by_cases c4 : x13_1 < (l0.length : Int)
     (· rw [if_pos c4] at H; have c4b0 : decide (x13_1 < (l0.length : Int)) = true := decide_eq_true c4; clear c4; by_cases c5 : 0 ≤ x13_1; (· rw [if_pos c5] at H; have c5b0 : decide (0 ≤ x13_1) = true := decide_eq_true c5; clear c5; by_cases c6 : x13_1 < (l0.length : Int); (· rw [if_pos c6] at H; have c6b0 : decide (x13_1 < (l0.length : Int)) = true := decide_eq_true c6; clear c6; by_cases c7 : x13_1 < (l1.length : Int); (· rw [if_pos c7] at H; have c7b0 : decide (x13_1 < (l1.length : Int)) = true := decide_eq_true c7; clear c7; by_cases c8 : (rd l0 x13_1) = (rd l1 x13_1); (· rw [if_pos c8] at H; have c8b0 : ((rd l0 x13_1) == (rd l1 x13_1)) = true := beq_iff_eq.mpr c8; have c8b1 : ((rd l0 x13_1) != (rd l1 x13_1)) = false := bne_eq_false_iff_eq.mpr c8; clear c8; have H' := Aside0.mk H; clear H; have p225 : 0 ≤ (x13_1 : Int) := of_decide_eq_true (by first | (with_reducible assumption) | assumption); have q225 : x13_1 < (l0.length : Int) := of_decide_eq_true (by first | (with_reducible assumption) | assumption); obtain ⟨ad225, e225, hx225_0⟩ := Kd.at_int HR0.out x13_1 p225 q225; cases e225; replace p225 := eq_true p225; replace q225 := eq_true q225; have p226 : 0 ≤ (x13_1 : Int) := of_decide_eq_true (by first | (with_reducible assumption) | assumption); have q226 : x13_1 < (l1.length : Int) := of_decide_eq_true (by first | (with_reducible assumption) | assumption); obtain ⟨ad226, e226, hx226_0⟩ := Kd.at_int HR1.out x13_1 p226 q226; cases e226; replace p226 := eq_true p226; replace q226 := eq_true q226; go_wp2; (repeat (go_quiet (fail); try go_wp2)); go_roundg k1; (case measure => have := HK1.out; omega); (case rel => exact ⟨(wrap64 (x13_1 + 1)), (by first | rfl | (simp; done) | (simp [*]; done)), H', ⟨by have := HK1.out; omega⟩, by repeat (first | exact Drawn0.refl _ | apply Drawn0.step)⟩)); (· rw [if_neg c8] at H; have c8b0 : ((rd l0 x13_1) == (rd l1 x13_1)) = false := beq_eq_false_iff_ne.mpr c8; have c8b1 : ((rd l0 x13_1) != (rd l1 x13_1)) = true := bne_iff_ne.mpr c8; obtain rfl := Option.some.inj H; have p225 : 0 ≤ (x13_1 : Int) := of_decide_eq_true (by first | (with_reducible assumption) | assumption); have q225 : x13_1 < (l0.length : Int) := of_decide_eq_true (by first | (with_reducible assumption) | assumption); obtain ⟨ad225, e225, hx225_0⟩ := Kd.at_int HR0.out x13_1 p225 q225; cases e225; replace p225 := eq_true p225; replace q225 := eq_true q225; have p226 : 0 ≤ (x13_1 : Int) := of_decide_eq_true (by first | (with_reducible assumption) | assumption); have q226 : x13_1 < (l1.length : Int) := of_decide_eq_true (by first | (with_reducible assumption) | assumption); obtain ⟨ad226, e226, hx226_0⟩ := Kd.at_int HR1.out x13_1 p226 q226; cases e226; replace p226 := eq_true p226; replace q226 := eq_true q226; go_wp2; (repeat (go_quiet (fail); try go_wp2)); go_ret; exact ⟨by first | rfl | (simp; done) | (simp [*]; done), by repeat (first | exact Drawn0.refl _ | apply Drawn0.step)⟩)); (· rw [if_neg c7] at H; exact absurd H (by simp))); (· rw [if_neg c6] at H; exact absurd H (by simp))); (· rw [if_neg c5] at H; exact absurd H (by simp)))
     (· rw [if_neg c4] at H; have c4b0 : decide (x13_1 < (l0.length : Int)) = false := decide_eq_false c4; clear c4; obtain rfl := Option.some.inj H; go_wp2; (repeat (go_quiet (fail); try go_wp2)); go_ret; exact ⟨by first | rfl | (simp; done) | (simp [*]; done), by repeat (first | exact Drawn0.refl _ | apply Drawn0.step)⟩)
 (· rw [if_neg c3] at H; have c3b0 : ((l0.length : Int) == (l1.length : Int)) = false := beq_eq_false_iff_ne.mpr c3; have c3b1 : ((l0.length : Int) != (l1.length : Int)) = true := bne_iff_ne.mpr c3; (have c3b2 : (l0.length == l1.length) = false := by first | simpa using c3 | (simp at c3 ⊢; omega)); obtain rfl := Option.some.inj H; go_enter Try.func21, Try.ntmps21; go_wp2; (repeat (go_quiet (fail); try go_wp2)); go_ret; exact ⟨by first | rfl | (simp; done) | (simp [*]; done), by repeat (first | exact Drawn0.refl _ | apply Drawn0.step)⟩)
end Go.Proofs.Ytgcdhikmdbjfeaa.U
namespace Go.Proofs.Ytgcdhikmdbjfeaa.U
open Go.RowKit Go.Proofs.YtgcdhikmdbjfeaaW.PrintWords Go.Proofs.YtgcdhikmdbjfeaaW.PrintLast Go.Proofs.YtgcdhikmdbjfeaaW.PrintMore
attribute [local go_sem] max2_int min2_int max_two min_two max_three min_three max_four min_four   -- for this text's walks alone
def incunablelaw24_ZoneAts.f (k : Nat) (l0_0 : List Int) (l0_1 : List (S62)) (a1 : Int) (a2 : Int) : Option (Bool) := (incunablelaw24_large.f k l0_0 l0_1).bind fun t228 => (if t228 = true then ((incunablelaw24_Awake.f).bind fun t229 => (some t229)) else ((zone_At.f l0_0 l0_1 a1 a2).bind fun bt230 => ((incunableref24_At.f k l0_0 l0_1 a1 a2).bind fun bt234 => (if bt230.2 = bt234.2 then ((incunableref02_SameInts.f k bt230.1 bt234.1).bind fun t238 => (if t238 = true then ((incunablelaw24_Awake.f).bind fun t239 => (some t239)) else (some false))) else (some false)))))
theorem incunablelaw24_ZoneAts.mono : ∀ a0 a1 a2 a3 k, LeO (incunablelaw24_ZoneAts.f k a0 a1 a2 a3) (incunablelaw24_ZoneAts.f (k + 1) a0 a1 a2 a3) := by
 intro a0 a1 a2 a3 k; unfold incunablelaw24_ZoneAts.f
 repeat' first
  | (with_reducible exact incunablelaw24_large.mono _ _ _)
  | (with_reducible exact incunableref02_SameInts.mono _ _ _)
  | (with_reducible exact incunableref24_At.mono _ _ _ _ _)
  | (with_reducible exact LeO.refl _)
  | (with_reducible exact LeO.none _)
  | (with_reducible refine LeO.ite ?_ ?_)
  | (with_reducible refine LeO.bind ?_ (fun _ => ?_))
  | exact incunablelaw24_large.mono _ _ _
  | exact incunableref02_SameInts.mono _ _ _
  | exact incunableref24_At.mono _ _ _ _ _
  | exact LeO.none _
  | refine LeO.ite ?_ ?_
  | refine LeO.bind ?_ (fun _ => ?_)
set_option maxHeartbeats 8000000 in
set_option maxRecDepth 100000 in
theorem incunablelaw24_ZoneAts.calls (k : Nat) (A0_0 : Option Addr) (c0_0 : Nat) (l0_0 : List Int) (A0_1 : Option Addr) (c0_1 : Nat) (l0_1 : List (S62)) (a1 : Int) (a2 : Int) (r : Bool) (w : World) (hGG : Go.Proofs.Ytgcdhikmdbjfeaa.Zix.GG w) (hr0_0 : Kd.C (Kd.int .u8) w A0_0 l0_0.length l0_0) (hc0_0 : l0_0.length ≤ c0_0) (hr0_1 : Kd.C k62 w A0_1 l0_1.length l0_1) (hc0_1 : l0_1.length ≤ c0_1) (h : incunablelaw24_ZoneAts.f k l0_0 l0_1 a1 a2 = some r) :
    Calls Try.prog 6 #[.agg #[.slice A0_0 l0_0.length c0_0, .slice A0_1 l0_1.length c0_1], .int .i64 a1, .int .i64 a2] w fun e w' => e = .returned (.bool r) ∧ Below w.heap.size w w' := by
 have hu25 := Try.underlying25; have HR0_0 := Aside0.mk hr0_0; have HC0_0 := Aside0.mk hc0_0; clear hr0_0 hc0_0; have HR0_1 := Aside0.mk hr0_1; have HC0_1 := Aside0.mk hc0_1; clear hr0_1 hc0_1; have HB := Aside0.mk (Below.refl w.heap.size w); have HGG := Aside0.mk hGG; clear hGG; have H : ((incunablelaw24_large.f k l0_0 l0_1).bind fun t228 => (if t228 = true then ((incunablelaw24_Awake.f).bind fun t229 => (some t229)) else ((zone_At.f l0_0 l0_1 a1 a2).bind fun bt230 => ((incunableref24_At.f k l0_0 l0_1 a1 a2).bind fun bt234 => (if bt230.2 = bt234.2 then ((incunableref02_SameInts.f k bt230.1 bt234.1).bind fun t238 => (if t238 = true then ((incunablelaw24_Awake.f).bind fun t239 => (some t239)) else (some false))) else (some false)))))) = some r := h; clear h; replace H := Option.bind_eq_some_iff.mp H; obtain ⟨t228, A40, H⟩ := H; replace H : (if t228 = true then ((incunablelaw24_Awake.f).bind fun t229 => (some t229)) else ((zone_At.f l0_0 l0_1 a1 a2).bind fun bt230 => ((incunableref24_At.f k l0_0 l0_1 a1 a2).bind fun bt234 => (if bt230.2 = bt234.2 then ((incunableref02_SameInts.f k bt230.1 bt234.1).bind fun t238 => (if t238 = true then ((incunablelaw24_Awake.f).bind fun t239 => (some t239)) else (some false))) else (some false))))) = some r := H; have A4 := Aside0.mk A40; clear A40; by_cases c5 : t228 = true
 (· subst c5; (have H1 : ((incunablelaw24_Awake.f).bind fun t229 => (some t229)) = some r := by rw [if_pos rfl] at H; exact H); clear H; have H := H1; clear H1; replace H := Option.bind_eq_some_iff.mp H; obtain ⟨t229, A60, H⟩ := H; replace H : (some t229) = some r := H; have A6 := Aside0.mk A60; clear A60; obtain rfl := Option.some.inj H; go_enter Try.func6, Try.ntmps6; go_wp2_with (first | ((with_reducible refine gate_dst (N := 3) rfl ?_); refine box_event ?hg (N := 3) ?hd (cs := #[.slice A0_0 l0_0.length c0_0, .slice A0_1 l0_1.length c0_1]) (t := 25) ?hr ?_; (case hd => rfl); (case hg => rfl); (case hr => first | (go_simp; done) | (go_simp; rfl)); intro gb227 hg w7 hbox hb; have n0_ := Aside0.mk (below_step (by repeat (first | (with_reducible first | exact HB.out | apply below_alloc | apply pw_below_drewN | apply below_drew1) | exact HB.out)) hb); have n1_ := Aside0.mk (hbox); have n2_ := Aside0.mk ((by rw [hg]; exact (below_size (by repeat (first | (with_reducible first | exact HB.out | apply below_alloc | apply pw_below_drewN | apply below_drew1) | exact HB.out))) : w.heap.size ≤ gb227)); have n3_ := Aside0.mk ((by rw [hg]; exact (below_size (by repeat (first | (with_reducible first | exact HB.out | apply below_alloc | apply pw_below_drewN | apply below_drew1) | exact HB.out))) : w.heap.size ≤ gb227)); clear HB; have HB := n0_; have BK227 := n1_; have GW227 := n2_; have GE227 := n3_; clear n0_ n1_ n2_ n3_; clear hb hbox hg; have hcz8_0 : w7.cell? ⟨gb227, 0, none⟩ = some (.slice A0_0 l0_0.length c0_0) := (blk_cell BK227.out 0).trans rfl; have hcz8_1 : w7.cell? ⟨gb227, 1, none⟩ = some (.slice A0_1 l0_1.length c0_1) := (blk_cell BK227.out 1).trans rfl; have hfz8_0 := blk_frozen BK227.out 0; have hfz8_1 := blk_frozen BK227.out 1) | ((with_reducible refine gate_callee (f := 10) rfl ?_); refine goesL_ (some 12) rfl rfl Try.func10 (by kernel_rfl) rfl #[.agg #[.slice A0_0 l0_0.length c0_0, .slice A0_1 l0_1.length c0_1]] rfl (by (try simp only [List.map_toArray, List.map_cons, List.map_nil]); first | done | rfl | (simp only [List.length_drop, List.length_take]; rfl)) ?_; (with_reducible refine (incunablelaw24_large.calls k _ _ l0_0 _ _ l0_1 true _ ?side1 ?side2 ?side3 ?side4 A4.out).mono ?_); (case side1 => repeat (first | exact (Kd.C_below HR0_0.out HB.out) | (with_reducible refine Kd.C_alloc ?_ _) | (with_reducible refine Kd.C_drewN ?_ _) | (with_reducible refine Kd.C_drew ?_))); (case side2 => exact HC0_0.out); (case side3 => repeat (first | exact (Kd.C_below HR0_1.out HB.out) | (with_reducible refine Kd.C_alloc ?_ _) | (with_reducible refine Kd.C_drewN ?_ _) | (with_reducible refine Kd.C_drew ?_))); (case side4 => exact HC0_1.out); rintro e w9 ⟨rfl, hb⟩; refine ⟨_, rfl, ?_⟩; have n0_ := Aside0.mk (blk_below (g := gb227) (o := .cells #[.slice A0_0 l0_0.length c0_0, .slice A0_1 l0_1.length c0_1] 25 (0, 0)) (by (with_reducible repeat (first | refine blk_drewN ?_ _ | refine blk_drew ?_ | refine blk_alloc ?_ _)); exact BK227.out) hb); have n1_ := Aside0.mk (below_step (by repeat (first | (with_reducible first | exact HB.out | apply below_alloc | apply pw_below_drewN | apply below_drew1 | refine below_set ?_ GE227.out) | exact HB.out)) hb); clear BK227; clear HB; have BK227 := n0_; have HB := n1_; clear n0_ n1_; (try clear hb); (try clear hb2); (try clear hk); (try clear hi)) | ((with_reducible refine gate_callee (f := 11) rfl ?_); refine goesL_ (some 13) rfl rfl Try.func11 (by kernel_rfl) rfl #[] rfl (by (try simp only [List.map_toArray, List.map_cons, List.map_nil]); first | done | rfl | (simp only [List.length_drop, List.length_take]; rfl)) ?_; (with_reducible refine (incunablelaw24_Awake.calls  t229 _ ?sideG A6.out).mono ?_); (case sideG => exact Go.Proofs.Ytgcdhikmdbjfeaa.Zix.GG_below HGG.out (by repeat (first | (with_reducible first | exact HB.out | apply below_alloc | apply pw_below_drewN | apply below_drew1) | exact HB.out))); rintro e w10 ⟨rfl, hb⟩; refine ⟨_, rfl, ?_⟩; have n0_ := Aside0.mk (blk_below (g := gb227) (o := .cells #[.slice A0_0 l0_0.length c0_0, .slice A0_1 l0_1.length c0_1] 25 (0, 0)) (by (with_reducible repeat (first | refine blk_drewN ?_ _ | refine blk_drew ?_ | refine blk_alloc ?_ _)); exact BK227.out) hb); have n1_ := Aside0.mk (below_step (by repeat (first | (with_reducible first | exact HB.out | apply below_alloc | apply pw_below_drewN | apply below_drew1 | refine below_set ?_ GE227.out) | exact HB.out)) hb); clear BK227; clear HB; have BK227 := n0_; have HB := n1_; clear n0_ n1_; (try clear hb); (try clear hb2); (try clear hk); (try clear hi))); go_ret; (exact ⟨by first | rfl | (simp [errW_none, errW_some] <;> rfl) | (simp [*, errW_none, errW_some] <;> rfl), by repeat (first | (with_reducible first | exact HB.out | apply below_alloc | apply pw_below_drewN | apply below_drew1 | refine below_set ?_ GE227.out) | exact HB.out)⟩))
 (· replace c5 := Bool.eq_false_iff.mpr c5; subst c5; (have H1 : ((zone_At.f l0_0 l0_1 a1 a2).bind fun bt230 => ((incunableref24_At.f k l0_0 l0_1 a1 a2).bind fun bt234 => (if bt230.2 = bt234.2 then ((incunableref02_SameInts.f k bt230.1 bt234.1).bind fun t238 => (if t238 = true then ((incunablelaw24_Awake.f).bind fun t239 => (some t239)) else (some false))) else (some false)))) = some r := by rw [if_neg (show ¬ (false = true) by decide)] at H; exact H); clear H; have H := H1; clear H1; replace H := Option.bind_eq_some_iff.mp H; obtain ⟨⟨t230, t233⟩, A110, H⟩ := H; replace H : ((incunableref24_At.f k l0_0 l0_1 a1 a2).bind fun bt234 => (if t233 = bt234.2 then ((incunableref02_SameInts.f k t230 bt234.1).bind fun t238 => (if t238 = true then ((incunablelaw24_Awake.f).bind fun t239 => (some t239)) else (some false))) else (some false))) = some r := H; have A11 := Aside0.mk A110; clear A110; replace H := Option.bind_eq_some_iff.mp H; obtain ⟨⟨t234, t237⟩, A120, H⟩ := H; replace H : (if t233 = t237 then ((incunableref02_SameInts.f k t230 t234).bind fun t238 => (if t238 = true then ((incunablelaw24_Awake.f).bind fun t239 => (some t239)) else (some false))) else (some false)) = some r := H; have A12 := Aside0.mk A120; clear A120; by_cases c13 : t233 = t237; (· rw [if_pos c13] at H; have c13b0 : (t233 == t237) = true := beq_iff_eq.mpr c13; have c13b1 : (t233 != t237) = false := bne_eq_false_iff_eq.mpr c13; clear c13; replace H := Option.bind_eq_some_iff.mp H; obtain ⟨t238, A140, H⟩ := H; replace H : (if t238 = true then ((incunablelaw24_Awake.f).bind fun t239 => (some t239)) else (some false)) = some r := H; have A14 := Aside0.mk A140; clear A140; by_cases c15 : t238 = true; (· subst c15; (have H1 : ((incunablelaw24_Awake.f).bind fun t239 => (some t239)) = some r := by rw [if_pos rfl] at H; exact H); clear H; have H := H1; clear H1; replace H := Option.bind_eq_some_iff.mp H; obtain ⟨t239, A160, H⟩ := H; replace H : (some t239) = some r := H; have A16 := Aside0.mk A160; clear A160; obtain rfl := Option.some.inj H; go_enter Try.func6, Try.ntmps6; go_wp2_with (first | ((with_reducible refine gate_dst (N := 3) rfl ?_); refine box_event ?hg (N := 3) ?hd (cs := #[.slice A0_0 l0_0.length c0_0, .slice A0_1 l0_1.length c0_1]) (t := 25) ?hr ?_; (case hd => rfl); (case hg => rfl); (case hr => first | (go_simp; done) | (go_simp; rfl)); intro gb227 hg w17 hbox hb; have n0_ := Aside0.mk (below_step (by repeat (first | (with_reducible first | exact HB.out | apply below_alloc | apply pw_below_drewN | apply below_drew1) | exact HB.out)) hb); have n1_ := Aside0.mk (hbox); have n2_ := Aside0.mk ((by rw [hg]; exact (below_size (by repeat (first | (with_reducible first | exact HB.out | apply below_alloc | apply pw_below_drewN | apply below_drew1) | exact HB.out))) : w.heap.size ≤ gb227)); have n3_ := Aside0.mk ((by rw [hg]; exact (below_size (by repeat (first | (with_reducible first | exact HB.out | apply below_alloc | apply pw_below_drewN | apply below_drew1) | exact HB.out))) : w.heap.size ≤ gb227)); clear HB; have HB := n0_; have BK227 := n1_; have GW227 := n2_; have GE227 := n3_; clear n0_ n1_ n2_ n3_; clear hb hbox hg; have hcz18_0 : w17.cell? ⟨gb227, 0, none⟩ = some (.slice A0_0 l0_0.length c0_0) := (blk_cell BK227.out 0).trans rfl; have hcz18_1 : w17.cell? ⟨gb227, 1, none⟩ = some (.slice A0_1 l0_1.length c0_1) := (blk_cell BK227.out 1).trans rfl; have hfz18_0 := blk_frozen BK227.out 0; have hfz18_1 := blk_frozen BK227.out 1) | ((with_reducible refine gate_callee (f := 10) rfl ?_); refine goesL_ (some 12) rfl rfl Try.func10 (by kernel_rfl) rfl #[.agg #[.slice A0_0 l0_0.length c0_0, .slice A0_1 l0_1.length c0_1]] rfl (by (try simp only [List.map_toArray, List.map_cons, List.map_nil]); first | done | rfl | (simp only [List.length_drop, List.length_take]; rfl)) ?_; (with_reducible refine (incunablelaw24_large.calls k _ _ l0_0 _ _ l0_1 false _ ?side1 ?side2 ?side3 ?side4 A4.out).mono ?_); (case side1 => repeat (first | exact (Kd.C_below HR0_0.out HB.out) | (with_reducible refine Kd.C_alloc ?_ _) | (with_reducible refine Kd.C_drewN ?_ _) | (with_reducible refine Kd.C_drew ?_))); (case side2 => exact HC0_0.out); (case side3 => repeat (first | exact (Kd.C_below HR0_1.out HB.out) | (with_reducible refine Kd.C_alloc ?_ _) | (with_reducible refine Kd.C_drewN ?_ _) | (with_reducible refine Kd.C_drew ?_))); (case side4 => exact HC0_1.out); rintro e w19 ⟨rfl, hb⟩; refine ⟨_, rfl, ?_⟩; have n0_ := Aside0.mk (blk_below (g := gb227) (o := .cells #[.slice A0_0 l0_0.length c0_0, .slice A0_1 l0_1.length c0_1] 25 (0, 0)) (by (with_reducible repeat (first | refine blk_drewN ?_ _ | refine blk_drew ?_ | refine blk_alloc ?_ _)); exact BK227.out) hb); have n1_ := Aside0.mk (below_step (by repeat (first | (with_reducible first | exact HB.out | apply below_alloc | apply pw_below_drewN | apply below_drew1 | refine below_set ?_ GE227.out) | exact HB.out)) hb); clear BK227; clear HB; have BK227 := n0_; have HB := n1_; clear n0_ n1_; (try clear hb); (try clear hb2); (try clear hk); (try clear hi); have hcz20_0 : w19.cell? ⟨gb227, 0, none⟩ = some (.slice A0_0 l0_0.length c0_0) := (blk_cell BK227.out 0).trans rfl; have hcz20_1 : w19.cell? ⟨gb227, 1, none⟩ = some (.slice A0_1 l0_1.length c0_1) := (blk_cell BK227.out 1).trans rfl; have hfz20_0 := blk_frozen BK227.out 0; have hfz20_1 := blk_frozen BK227.out 1) | ((with_reducible refine gate_callee (f := 19) rfl ?_); refine goesL_ (some 18) rfl rfl Try.func19 (by kernel_rfl) rfl #[.agg #[.slice A0_0 l0_0.length c0_0, .slice A0_1 l0_1.length c0_1], .int .i64 a1, .int .i64 a2] rfl (by (try simp only [List.map_toArray, List.map_cons, List.map_nil]); first | done | rfl | (simp only [List.length_drop, List.length_take]; rfl)) ?_; (with_reducible refine (zone_At.calls _ _ l0_0 _ _ l0_1 a1 a2 t230 t233 _ ?side1 ?side2 ?side3 ?side4 A11.out).mono ?_); (case side1 => repeat (first | exact (Kd.C_below HR0_0.out HB.out) | (with_reducible refine Kd.C_alloc ?_ _) | (with_reducible refine Kd.C_drewN ?_ _) | (with_reducible refine Kd.C_drew ?_))); (case side2 => exact HC0_0.out); (case side3 => repeat (first | exact (Kd.C_below HR0_1.out HB.out) | (with_reducible refine Kd.C_alloc ?_ _) | (with_reducible refine Kd.C_drewN ?_ _) | (with_reducible refine Kd.C_drew ?_))); (case side4 => exact HC0_1.out); rintro e w21 ⟨v231, rfl, ho0, hb⟩; refine ⟨_, rfl, ?_⟩; have n0_ := Aside0.mk (Kd.R_lower ho0 (below_size (by repeat (first | (with_reducible first | exact HB.out | apply below_alloc | apply pw_below_drewN | apply below_drew1 | refine below_set ?_ GE227.out) | exact HB.out)))); have n1_ := Aside0.mk (blk_below (g := gb227) (o := .cells #[.slice A0_0 l0_0.length c0_0, .slice A0_1 l0_1.length c0_1] 25 (0, 0)) (by (with_reducible repeat (first | refine blk_drewN ?_ _ | refine blk_drew ?_ | refine blk_alloc ?_ _)); exact BK227.out) hb); have n2_ := Aside0.mk (below_step (by repeat (first | (with_reducible first | exact HB.out | apply below_alloc | apply pw_below_drewN | apply below_drew1 | refine below_set ?_ GE227.out) | exact HB.out)) hb); clear BK227; clear HB; have HO232 := n0_; have BK227 := n1_; have HB := n2_; clear n0_ n1_ n2_; (try clear hb); (try clear hb2); (try clear hk); (try clear hi); (try clear ho0); have hcz22_0 : w21.cell? ⟨gb227, 0, none⟩ = some (.slice A0_0 l0_0.length c0_0) := (blk_cell BK227.out 0).trans rfl; have hcz22_1 : w21.cell? ⟨gb227, 1, none⟩ = some (.slice A0_1 l0_1.length c0_1) := (blk_cell BK227.out 1).trans rfl; have hfz22_0 := blk_frozen BK227.out 0; have hfz22_1 := blk_frozen BK227.out 1) | ((with_reducible refine gate_callee (f := 20) rfl ?_); refine goesL_ (some 25) rfl rfl Try.func20 (by kernel_rfl) rfl #[.agg #[.slice A0_0 l0_0.length c0_0, .slice A0_1 l0_1.length c0_1], .int .i64 a1, .int .i64 a2] rfl (by (try simp only [List.map_toArray, List.map_cons, List.map_nil]); first | done | rfl | (simp only [List.length_drop, List.length_take]; rfl)) ?_; (with_reducible refine (incunableref24_At.calls k _ _ l0_0 _ _ l0_1 a1 a2 t234 t237 _ ?side1 ?side2 ?side3 ?side4 A12.out).mono ?_); (case side1 => repeat (first | exact (Kd.C_below HR0_0.out HB.out) | (with_reducible refine Kd.C_alloc ?_ _) | (with_reducible refine Kd.C_drewN ?_ _) | (with_reducible refine Kd.C_drew ?_))); (case side2 => exact HC0_0.out); (case side3 => repeat (first | exact (Kd.C_below HR0_1.out HB.out) | (with_reducible refine Kd.C_alloc ?_ _) | (with_reducible refine Kd.C_drewN ?_ _) | (with_reducible refine Kd.C_drew ?_))); (case side4 => exact HC0_1.out); rintro e w23 ⟨v235, rfl, ho0, hb⟩; refine ⟨_, rfl, ?_⟩; have n0_ := Aside0.mk (Kd.R_elder' (by (with_reducible repeat (first | apply Kd.R_alloc | apply Kd.R_drewN | apply Kd.R_drew)); exact HO232.out) (Kd.R_base ho0) hb); have n1_ := Aside0.mk (Kd.R_lower (Kd.R_new' ho0 (Kd.R_lt (by (with_reducible repeat (first | apply Kd.R_alloc | apply Kd.R_drewN | apply Kd.R_drew)); exact HO232.out))) (below_size (by repeat (first | (with_reducible first | exact HB.out | apply below_alloc | apply pw_below_drewN | apply below_drew1 | refine below_set ?_ GE227.out) | exact HB.out)))); have n2_ := Aside0.mk (blk_below (g := gb227) (o := .cells #[.slice A0_0 l0_0.length c0_0, .slice A0_1 l0_1.length c0_1] 25 (0, 0)) (by (with_reducible repeat (first | refine blk_drewN ?_ _ | refine blk_drew ?_ | refine blk_alloc ?_ _)); exact BK227.out) hb); have n3_ := Aside0.mk (below_step (by repeat (first | (with_reducible first | exact HB.out | apply below_alloc | apply pw_below_drewN | apply below_drew1 | refine below_set ?_ GE227.out) | exact HB.out)) hb); clear HO232; clear BK227; clear HB; have HO232 := n0_; have HO236 := n1_; have BK227 := n2_; have HB := n3_; clear n0_ n1_ n2_ n3_; (try clear hb); (try clear hb2); (try clear hk); (try clear hi); (try clear ho0); obtain ⟨Ao24, co24, eo24⟩ := Kd.R_slice HO232.out; subst eo24; obtain ⟨Ao25, co25, eo25⟩ := Kd.R_slice HO236.out; subst eo25) | (go_at_call 21; (with_reducible refine (incunableref02_SameInts.calls k _ _ t230 _ _ t234 true _ ?side1 ?side2 ?side3 ?side4 A14.out).mono ?_); (case side1 => repeat (first | exact (Kd.R_reads' HO232.out).2.2 | (with_reducible refine Kd.C_alloc ?_ _) | (with_reducible refine Kd.C_drewN ?_ _) | (with_reducible refine Kd.C_drew ?_))); (case side2 => exact (Kd.R_reads' HO232.out).2.1); (case side3 => repeat (first | exact (Kd.R_reads' HO236.out).2.2 | (with_reducible refine Kd.C_alloc ?_ _) | (with_reducible refine Kd.C_drewN ?_ _) | (with_reducible refine Kd.C_drew ?_))); (case side4 => exact (Kd.R_reads' HO236.out).2.1); rintro e w' ⟨rfl, ⟨nd, rfl⟩⟩) | (go_at_call 11; (with_reducible refine (incunablelaw24_Awake.calls  t239 _ ?sideG A16.out).mono ?_); (case sideG => exact Go.Proofs.Ytgcdhikmdbjfeaa.Zix.GG_below HGG.out (by repeat (first | (with_reducible first | exact HB.out | apply below_alloc | apply pw_below_drewN | apply below_drew1) | exact HB.out))); rintro e w26 ⟨rfl, hb⟩; have n0_ := Aside0.mk (Kd.R_below (by (with_reducible repeat (first | apply Kd.R_alloc | apply Kd.R_drewN | apply Kd.R_drew)); exact HO232.out) hb); have n1_ := Aside0.mk (Kd.R_below (by (with_reducible repeat (first | apply Kd.R_alloc | apply Kd.R_drewN | apply Kd.R_drew)); exact HO236.out) hb); have n2_ := Aside0.mk (blk_below (g := gb227) (o := .cells #[.slice A0_0 l0_0.length c0_0, .slice A0_1 l0_1.length c0_1] 25 (0, 0)) (by (with_reducible repeat (first | refine blk_drewN ?_ _ | refine blk_drew ?_ | refine blk_alloc ?_ _)); exact BK227.out) hb); have n3_ := Aside0.mk (below_step (by repeat (first | (with_reducible first | exact HB.out | apply below_alloc | apply pw_below_drewN | apply below_drew1 | refine below_set ?_ GE227.out) | exact HB.out)) hb); clear HO232; clear HO236; clear BK227; clear HB; have HO232 := n0_; have HO236 := n1_; have BK227 := n2_; have HB := n3_; clear n0_ n1_ n2_ n3_; (try clear hb); (try clear hb2); (try clear hk); (try clear hi))); go_ret; (exact ⟨by first | rfl | (simp [errW_none, errW_some] <;> rfl) | (simp [*, errW_none, errW_some] <;> rfl), by repeat (first | (with_reducible first | exact HB.out | apply below_alloc | apply pw_below_drewN | apply below_drew1 | refine below_set ?_ GE227.out) | exact HB.out)⟩)); (· replace c15 := Bool.eq_false_iff.mpr c15; subst c15; (have H1 : (some false) = some r := by rw [if_neg (show ¬ (false = true) by decide)] at H; exact H); clear H; have H := H1; clear H1; obtain rfl := Option.some.inj H; go_enter Try.func6, Try.ntmps6; go_wp2_with (first | ((with_reducible refine gate_dst (N := 3) rfl ?_); refine box_event ?hg (N := 3) ?hd (cs := #[.slice A0_0 l0_0.length c0_0, .slice A0_1 l0_1.length c0_1]) (t := 25) ?hr ?_; (case hd => rfl); (case hg => rfl); (case hr => first | (go_simp; done) | (go_simp; rfl)); intro gb227 hg w27 hbox hb; have n0_ := Aside0.mk (below_step (by repeat (first | (with_reducible first | exact HB.out | apply below_alloc | apply pw_below_drewN | apply below_drew1) | exact HB.out)) hb); have n1_ := Aside0.mk (hbox); have n2_ := Aside0.mk ((by rw [hg]; exact (below_size (by repeat (first | (with_reducible first | exact HB.out | apply below_alloc | apply pw_below_drewN | apply below_drew1) | exact HB.out))) : w.heap.size ≤ gb227)); have n3_ := Aside0.mk ((by rw [hg]; exact (below_size (by repeat (first | (with_reducible first | exact HB.out | apply below_alloc | apply pw_below_drewN | apply below_drew1) | exact HB.out))) : w.heap.size ≤ gb227)); clear HB; have HB := n0_; have BK227 := n1_; have GW227 := n2_; have GE227 := n3_; clear n0_ n1_ n2_ n3_; clear hb hbox hg; have hcz28_0 : w27.cell? ⟨gb227, 0, none⟩ = some (.slice A0_0 l0_0.length c0_0) := (blk_cell BK227.out 0).trans rfl; have hcz28_1 : w27.cell? ⟨gb227, 1, none⟩ = some (.slice A0_1 l0_1.length c0_1) := (blk_cell BK227.out 1).trans rfl; have hfz28_0 := blk_frozen BK227.out 0; have hfz28_1 := blk_frozen BK227.out 1) | ((with_reducible refine gate_callee (f := 10) rfl ?_); refine goesL_ (some 12) rfl rfl Try.func10 (by kernel_rfl) rfl #[.agg #[.slice A0_0 l0_0.length c0_0, .slice A0_1 l0_1.length c0_1]] rfl (by (try simp only [List.map_toArray, List.map_cons, List.map_nil]); first | done | rfl | (simp only [List.length_drop, List.length_take]; rfl)) ?_; (with_reducible refine (incunablelaw24_large.calls k _ _ l0_0 _ _ l0_1 false _ ?side1 ?side2 ?side3 ?side4 A4.out).mono ?_); (case side1 => repeat (first | exact (Kd.C_below HR0_0.out HB.out) | (with_reducible refine Kd.C_alloc ?_ _) | (with_reducible refine Kd.C_drewN ?_ _) | (with_reducible refine Kd.C_drew ?_))); (case side2 => exact HC0_0.out); (case side3 => repeat (first | exact (Kd.C_below HR0_1.out HB.out) | (with_reducible refine Kd.C_alloc ?_ _) | (with_reducible refine Kd.C_drewN ?_ _) | (with_reducible refine Kd.C_drew ?_))); (case side4 => exact HC0_1.out); rintro e w29 ⟨rfl, hb⟩; refine ⟨_, rfl, ?_⟩; have n0_ := Aside0.mk (blk_below (g := gb227) (o := .cells #[.slice A0_0 l0_0.length c0_0, .slice A0_1 l0_1.length c0_1] 25 (0, 0)) (by (with_reducible repeat (first | refine blk_drewN ?_ _ | refine blk_drew ?_ | refine blk_alloc ?_ _)); exact BK227.out) hb); have n1_ := Aside0.mk (below_step (by repeat (first | (with_reducible first | exact HB.out | apply below_alloc | apply pw_below_drewN | apply below_drew1 | refine below_set ?_ GE227.out) | exact HB.out)) hb); clear BK227; clear HB; have BK227 := n0_; have HB := n1_; clear n0_ n1_; (try clear hb); (try clear hb2); (try clear hk); (try clear hi); have hcz30_0 : w29.cell? ⟨gb227, 0, none⟩ = some (.slice A0_0 l0_0.length c0_0) := (blk_cell BK227.out 0).trans rfl; have hcz30_1 : w29.cell? ⟨gb227, 1, none⟩ = some (.slice A0_1 l0_1.length c0_1) := (blk_cell BK227.out 1).trans rfl; have hfz30_0 := blk_frozen BK227.out 0; have hfz30_1 := blk_frozen BK227.out 1) | ((with_reducible refine gate_callee (f := 19) rfl ?_); refine goesL_ (some 18) rfl rfl Try.func19 (by kernel_rfl) rfl #[.agg #[.slice A0_0 l0_0.length c0_0, .slice A0_1 l0_1.length c0_1], .int .i64 a1, .int .i64 a2] rfl (by (try simp only [List.map_toArray, List.map_cons, List.map_nil]); first | done | rfl | (simp only [List.length_drop, List.length_take]; rfl)) ?_; (with_reducible refine (zone_At.calls _ _ l0_0 _ _ l0_1 a1 a2 t230 t233 _ ?side1 ?side2 ?side3 ?side4 A11.out).mono ?_); (case side1 => repeat (first | exact (Kd.C_below HR0_0.out HB.out) | (with_reducible refine Kd.C_alloc ?_ _) | (with_reducible refine Kd.C_drewN ?_ _) | (with_reducible refine Kd.C_drew ?_))); (case side2 => exact HC0_0.out); (case side3 => repeat (first | exact (Kd.C_below HR0_1.out HB.out) | (with_reducible refine Kd.C_alloc ?_ _) | (with_reducible refine Kd.C_drewN ?_ _) | (with_reducible refine Kd.C_drew ?_))); (case side4 => exact HC0_1.out); rintro e w31 ⟨v231, rfl, ho0, hb⟩; refine ⟨_, rfl, ?_⟩; have n0_ := Aside0.mk (Kd.R_lower ho0 (below_size (by repeat (first | (with_reducible first | exact HB.out | apply below_alloc | apply pw_below_drewN | apply below_drew1 | refine below_set ?_ GE227.out) | exact HB.out)))); have n1_ := Aside0.mk (blk_below (g := gb227) (o := .cells #[.slice A0_0 l0_0.length c0_0, .slice A0_1 l0_1.length c0_1] 25 (0, 0)) (by (with_reducible repeat (first | refine blk_drewN ?_ _ | refine blk_drew ?_ | refine blk_alloc ?_ _)); exact BK227.out) hb); have n2_ := Aside0.mk (below_step (by repeat (first | (with_reducible first | exact HB.out | apply below_alloc | apply pw_below_drewN | apply below_drew1 | refine below_set ?_ GE227.out) | exact HB.out)) hb); clear BK227; clear HB; have HO232 := n0_; have BK227 := n1_; have HB := n2_; clear n0_ n1_ n2_; (try clear hb); (try clear hb2); (try clear hk); (try clear hi); (try clear ho0); have hcz32_0 : w31.cell? ⟨gb227, 0, none⟩ = some (.slice A0_0 l0_0.length c0_0) := (blk_cell BK227.out 0).trans rfl; have hcz32_1 : w31.cell? ⟨gb227, 1, none⟩ = some (.slice A0_1 l0_1.length c0_1) := (blk_cell BK227.out 1).trans rfl; have hfz32_0 := blk_frozen BK227.out 0; have hfz32_1 := blk_frozen BK227.out 1) | ((with_reducible refine gate_callee (f := 20) rfl ?_); refine goesL_ (some 25) rfl rfl Try.func20 (by kernel_rfl) rfl #[.agg #[.slice A0_0 l0_0.length c0_0, .slice A0_1 l0_1.length c0_1], .int .i64 a1, .int .i64 a2] rfl (by (try simp only [List.map_toArray, List.map_cons, List.map_nil]); first | done | rfl | (simp only [List.length_drop, List.length_take]; rfl)) ?_; (with_reducible refine (incunableref24_At.calls k _ _ l0_0 _ _ l0_1 a1 a2 t234 t237 _ ?side1 ?side2 ?side3 ?side4 A12.out).mono ?_); (case side1 => repeat (first | exact (Kd.C_below HR0_0.out HB.out) | (with_reducible refine Kd.C_alloc ?_ _) | (with_reducible refine Kd.C_drewN ?_ _) | (with_reducible refine Kd.C_drew ?_))); (case side2 => exact HC0_0.out); (case side3 => repeat (first | exact (Kd.C_below HR0_1.out HB.out) | (with_reducible refine Kd.C_alloc ?_ _) | (with_reducible refine Kd.C_drewN ?_ _) | (with_reducible refine Kd.C_drew ?_))); (case side4 => exact HC0_1.out); rintro e w33 ⟨v235, rfl, ho0, hb⟩; refine ⟨_, rfl, ?_⟩; have n0_ := Aside0.mk (Kd.R_elder' (by (with_reducible repeat (first | apply Kd.R_alloc | apply Kd.R_drewN | apply Kd.R_drew)); exact HO232.out) (Kd.R_base ho0) hb); have n1_ := Aside0.mk (Kd.R_lower (Kd.R_new' ho0 (Kd.R_lt (by (with_reducible repeat (first | apply Kd.R_alloc | apply Kd.R_drewN | apply Kd.R_drew)); exact HO232.out))) (below_size (by repeat (first | (with_reducible first | exact HB.out | apply below_alloc | apply pw_below_drewN | apply below_drew1 | refine below_set ?_ GE227.out) | exact HB.out)))); have n2_ := Aside0.mk (blk_below (g := gb227) (o := .cells #[.slice A0_0 l0_0.length c0_0, .slice A0_1 l0_1.length c0_1] 25 (0, 0)) (by (with_reducible repeat (first | refine blk_drewN ?_ _ | refine blk_drew ?_ | refine blk_alloc ?_ _)); exact BK227.out) hb); have n3_ := Aside0.mk (below_step (by repeat (first | (with_reducible first | exact HB.out | apply below_alloc | apply pw_below_drewN | apply below_drew1 | refine below_set ?_ GE227.out) | exact HB.out)) hb); clear HO232; clear BK227; clear HB; have HO232 := n0_; have HO236 := n1_; have BK227 := n2_; have HB := n3_; clear n0_ n1_ n2_ n3_; (try clear hb); (try clear hb2); (try clear hk); (try clear hi); (try clear ho0); obtain ⟨Ao34, co34, eo34⟩ := Kd.R_slice HO232.out; subst eo34; obtain ⟨Ao35, co35, eo35⟩ := Kd.R_slice HO236.out; subst eo35) | (go_at_call 21; (with_reducible refine (incunableref02_SameInts.calls k _ _ t230 _ _ t234 false _ ?side1 ?side2 ?side3 ?side4 A14.out).mono ?_); (case side1 => repeat (first | exact (Kd.R_reads' HO232.out).2.2 | (with_reducible refine Kd.C_alloc ?_ _) | (with_reducible refine Kd.C_drewN ?_ _) | (with_reducible refine Kd.C_drew ?_))); (case side2 => exact (Kd.R_reads' HO232.out).2.1); (case side3 => repeat (first | exact (Kd.R_reads' HO236.out).2.2 | (with_reducible refine Kd.C_alloc ?_ _) | (with_reducible refine Kd.C_drewN ?_ _) | (with_reducible refine Kd.C_drew ?_))); (case side4 => exact (Kd.R_reads' HO236.out).2.1); rintro e w' ⟨rfl, ⟨nd, rfl⟩⟩)); go_ret; (exact ⟨by first | rfl | (simp [errW_none, errW_some] <;> rfl) | (simp [*, errW_none, errW_some] <;> rfl), by repeat (first | (with_reducible first | exact HB.out | apply below_alloc | apply pw_below_drewN | apply below_drew1 | refine below_set ?_ GE227.out) | exact HB.out)⟩))); (· rw [if_neg c13] at H; have c13b0 : (t233 == t237) = false := beq_eq_false_iff_ne.mpr c13; have c13b1 : (t233 != t237) = true := bne_iff_ne.mpr c13; obtain rfl := Option.some.inj H; go_enter Try.func6, Try.ntmps6; go_wp2_with (first | ((with_reducible refine gate_dst (N := 3) rfl ?_); refine box_event ?hg (N := 3) ?hd (cs := #[.slice A0_0 l0_0.length c0_0, .slice A0_1 l0_1.length c0_1]) (t := 25) ?hr ?_; (case hd => rfl); (case hg => rfl); (case hr => first | (go_simp; done) | (go_simp; rfl)); intro gb227 hg w36 hbox hb; have n0_ := Aside0.mk (below_step (by repeat (first | (with_reducible first | exact HB.out | apply below_alloc | apply pw_below_drewN | apply below_drew1) | exact HB.out)) hb); have n1_ := Aside0.mk (hbox); have n2_ := Aside0.mk ((by rw [hg]; exact (below_size (by repeat (first | (with_reducible first | exact HB.out | apply below_alloc | apply pw_below_drewN | apply below_drew1) | exact HB.out))) : w.heap.size ≤ gb227)); have n3_ := Aside0.mk ((by rw [hg]; exact (below_size (by repeat (first | (with_reducible first | exact HB.out | apply below_alloc | apply pw_below_drewN | apply below_drew1) | exact HB.out))) : w.heap.size ≤ gb227)); clear HB; have HB := n0_; have BK227 := n1_; have GW227 := n2_; have GE227 := n3_; clear n0_ n1_ n2_ n3_; clear hb hbox hg; have hcz37_0 : w36.cell? ⟨gb227, 0, none⟩ = some (.slice A0_0 l0_0.length c0_0) := (blk_cell BK227.out 0).trans rfl; have hcz37_1 : w36.cell? ⟨gb227, 1, none⟩ = some (.slice A0_1 l0_1.length c0_1) := (blk_cell BK227.out 1).trans rfl; have hfz37_0 := blk_frozen BK227.out 0; have hfz37_1 := blk_frozen BK227.out 1) | ((with_reducible refine gate_callee (f := 10) rfl ?_); refine goesL_ (some 12) rfl rfl Try.func10 (by kernel_rfl) rfl #[.agg #[.slice A0_0 l0_0.length c0_0, .slice A0_1 l0_1.length c0_1]] rfl (by (try simp only [List.map_toArray, List.map_cons, List.map_nil]); first | done | rfl | (simp only [List.length_drop, List.length_take]; rfl)) ?_; (with_reducible refine (incunablelaw24_large.calls k _ _ l0_0 _ _ l0_1 false _ ?side1 ?side2 ?side3 ?side4 A4.out).mono ?_); (case side1 => repeat (first | exact (Kd.C_below HR0_0.out HB.out) | (with_reducible refine Kd.C_alloc ?_ _) | (with_reducible refine Kd.C_drewN ?_ _) | (with_reducible refine Kd.C_drew ?_))); (case side2 => exact HC0_0.out); (case side3 => repeat (first | exact (Kd.C_below HR0_1.out HB.out) | (with_reducible refine Kd.C_alloc ?_ _) | (with_reducible refine Kd.C_drewN ?_ _) | (with_reducible refine Kd.C_drew ?_))); (case side4 => exact HC0_1.out); rintro e w38 ⟨rfl, hb⟩; refine ⟨_, rfl, ?_⟩; have n0_ := Aside0.mk (blk_below (g := gb227) (o := .cells #[.slice A0_0 l0_0.length c0_0, .slice A0_1 l0_1.length c0_1] 25 (0, 0)) (by (with_reducible repeat (first | refine blk_drewN ?_ _ | refine blk_drew ?_ | refine blk_alloc ?_ _)); exact BK227.out) hb); have n1_ := Aside0.mk (below_step (by repeat (first | (with_reducible first | exact HB.out | apply below_alloc | apply pw_below_drewN | apply below_drew1 | refine below_set ?_ GE227.out) | exact HB.out)) hb); clear BK227; clear HB; have BK227 := n0_; have HB := n1_; clear n0_ n1_; (try clear hb); (try clear hb2); (try clear hk); (try clear hi); have hcz39_0 : w38.cell? ⟨gb227, 0, none⟩ = some (.slice A0_0 l0_0.length c0_0) := (blk_cell BK227.out 0).trans rfl; have hcz39_1 : w38.cell? ⟨gb227, 1, none⟩ = some (.slice A0_1 l0_1.length c0_1) := (blk_cell BK227.out 1).trans rfl; have hfz39_0 := blk_frozen BK227.out 0; have hfz39_1 := blk_frozen BK227.out 1) | ((with_reducible refine gate_callee (f := 19) rfl ?_); refine goesL_ (some 18) rfl rfl Try.func19 (by kernel_rfl) rfl #[.agg #[.slice A0_0 l0_0.length c0_0, .slice A0_1 l0_1.length c0_1], .int .i64 a1, .int .i64 a2] rfl (by (try simp only [List.map_toArray, List.map_cons, List.map_nil]); first | done | rfl | (simp only [List.length_drop, List.length_take]; rfl)) ?_; (with_reducible refine (zone_At.calls _ _ l0_0 _ _ l0_1 a1 a2 t230 t233 _ ?side1 ?side2 ?side3 ?side4 A11.out).mono ?_); (case side1 => repeat (first | exact (Kd.C_below HR0_0.out HB.out) | (with_reducible refine Kd.C_alloc ?_ _) | (with_reducible refine Kd.C_drewN ?_ _) | (with_reducible refine Kd.C_drew ?_))); (case side2 => exact HC0_0.out); (case side3 => repeat (first | exact (Kd.C_below HR0_1.out HB.out) | (with_reducible refine Kd.C_alloc ?_ _) | (with_reducible refine Kd.C_drewN ?_ _) | (with_reducible refine Kd.C_drew ?_))); (case side4 => exact HC0_1.out); rintro e w40 ⟨v231, rfl, ho0, hb⟩; refine ⟨_, rfl, ?_⟩; have n0_ := Aside0.mk (Kd.R_lower ho0 (below_size (by repeat (first | (with_reducible first | exact HB.out | apply below_alloc | apply pw_below_drewN | apply below_drew1 | refine below_set ?_ GE227.out) | exact HB.out)))); have n1_ := Aside0.mk (blk_below (g := gb227) (o := .cells #[.slice A0_0 l0_0.length c0_0, .slice A0_1 l0_1.length c0_1] 25 (0, 0)) (by (with_reducible repeat (first | refine blk_drewN ?_ _ | refine blk_drew ?_ | refine blk_alloc ?_ _)); exact BK227.out) hb); have n2_ := Aside0.mk (below_step (by repeat (first | (with_reducible first | exact HB.out | apply below_alloc | apply pw_below_drewN | apply below_drew1 | refine below_set ?_ GE227.out) | exact HB.out)) hb); clear BK227; clear HB; have HO232 := n0_; have BK227 := n1_; have HB := n2_; clear n0_ n1_ n2_; (try clear hb); (try clear hb2); (try clear hk); (try clear hi); (try clear ho0); have hcz41_0 : w40.cell? ⟨gb227, 0, none⟩ = some (.slice A0_0 l0_0.length c0_0) := (blk_cell BK227.out 0).trans rfl; have hcz41_1 : w40.cell? ⟨gb227, 1, none⟩ = some (.slice A0_1 l0_1.length c0_1) := (blk_cell BK227.out 1).trans rfl; have hfz41_0 := blk_frozen BK227.out 0; have hfz41_1 := blk_frozen BK227.out 1) | ((with_reducible refine gate_callee (f := 20) rfl ?_); refine goesL_ (some 25) rfl rfl Try.func20 (by kernel_rfl) rfl #[.agg #[.slice A0_0 l0_0.length c0_0, .slice A0_1 l0_1.length c0_1], .int .i64 a1, .int .i64 a2] rfl (by (try simp only [List.map_toArray, List.map_cons, List.map_nil]); first | done | rfl | (simp only [List.length_drop, List.length_take]; rfl)) ?_; (with_reducible refine (incunableref24_At.calls k _ _ l0_0 _ _ l0_1 a1 a2 t234 t237 _ ?side1 ?side2 ?side3 ?side4 A12.out).mono ?_); (case side1 => repeat (first | exact (Kd.C_below HR0_0.out HB.out) | (with_reducible refine Kd.C_alloc ?_ _) | (with_reducible refine Kd.C_drewN ?_ _) | (with_reducible refine Kd.C_drew ?_))); (case side2 => exact HC0_0.out); (case side3 => repeat (first | exact (Kd.C_below HR0_1.out HB.out) | (with_reducible refine Kd.C_alloc ?_ _) | (with_reducible refine Kd.C_drewN ?_ _) | (with_reducible refine Kd.C_drew ?_))); (case side4 => exact HC0_1.out); rintro e w42 ⟨v235, rfl, ho0, hb⟩; refine ⟨_, rfl, ?_⟩; have n0_ := Aside0.mk (Kd.R_elder' (by (with_reducible repeat (first | apply Kd.R_alloc | apply Kd.R_drewN | apply Kd.R_drew)); exact HO232.out) (Kd.R_base ho0) hb); have n1_ := Aside0.mk (Kd.R_lower (Kd.R_new' ho0 (Kd.R_lt (by (with_reducible repeat (first | apply Kd.R_alloc | apply Kd.R_drewN | apply Kd.R_drew)); exact HO232.out))) (below_size (by repeat (first | (with_reducible first | exact HB.out | apply below_alloc | apply pw_below_drewN | apply below_drew1 | refine below_set ?_ GE227.out) | exact HB.out)))); have n2_ := Aside0.mk (blk_below (g := gb227) (o := .cells #[.slice A0_0 l0_0.length c0_0, .slice A0_1 l0_1.length c0_1] 25 (0, 0)) (by (with_reducible repeat (first | refine blk_drewN ?_ _ | refine blk_drew ?_ | refine blk_alloc ?_ _)); exact BK227.out) hb); have n3_ := Aside0.mk (below_step (by repeat (first | (with_reducible first | exact HB.out | apply below_alloc | apply pw_below_drewN | apply below_drew1 | refine below_set ?_ GE227.out) | exact HB.out)) hb); clear HO232; clear BK227; clear HB; have HO232 := n0_; have HO236 := n1_; have BK227 := n2_; have HB := n3_; clear n0_ n1_ n2_ n3_; (try clear hb); (try clear hb2); (try clear hk); (try clear hi); (try clear ho0))); go_ret; (exact ⟨by first | rfl | (simp [errW_none, errW_some] <;> rfl) | (simp [*, errW_none, errW_some] <;> rfl), by repeat (first | (with_reducible first | exact HB.out | apply below_alloc | apply pw_below_drewN | apply below_drew1 | refine below_set ?_ GE227.out) | exact HB.out)⟩)))
end Go.Proofs.Ytgcdhikmdbjfeaa.U
namespace Go.Proofs.Ytgcdhikmdbjfeaa.Opn
open Go Go.RowKit Go.Proofs.YtgcdhikmdbjfeaaW.PrintWords Go.Proofs.YtgcdhikmdbjfeaaW.PrintLast Go.Proofs.YtgcdhikmdbjfeaaW.PrintMore Go.ChangeShapes Go.WideShapes
/-- The cells that the form reads at type t (with fuel N at the most) tell an element of the kind d, of which Wf holds. -/
structure OpensTo (P : Program) (N : Nat) {α : Type} (t : TypeId) (d : Kd α) (Wf : α → Prop) : Prop where
  sz : P.cellsOf t = d.sz
  op : ∀ {H : Type} {enc : TypeId × Value → H} {w : World} {fuel : Nat} {cs : List Value} {x : DataW H × List MemPlace}, fuel ≤ N → DataW.trod enc P w 0 (fun _ => true) true fuel t cs = some x → (∀ n ∈ x.1.weights P t, n ≤ reachBytes) → ∃ a : α, d.K w a cs ∧ Wf a
section
variable {P : Program} {N : Nat} {α β : Type} {t e : TypeId} {d : Kd α} {d' : Kd β} {Wf Wf2 : α → Prop} {Wf' : β → Prop}
theorem o_int {k : IntKind} (ht : P.underlying t = some (.int k)) (hc : P.cellsOf t = 1) : OpensTo P N t (Kd.int k) (fun n => (Lit.int k n).wf = true) := ⟨hc, fun _ hx _ => by
  obtain ⟨n, rfl, rfl, hw⟩ := DataW.trod_int ht hx
  exact ⟨n, rfl, hw⟩⟩
theorem pick_list {Q : Nat → α → Prop} : ∀ n : Nat, (∀ i, i < n → ∃ p, Q i p) → ∃ xs : List α, xs.length = n ∧ ∀ i p, xs[i]? = some p → Q i p
  | 0, _ => ⟨[], rfl, fun i p h => by simp at h⟩
  | n + 1, h => by
    obtain ⟨xs, hl, hq⟩ := pick_list n (fun i hi => h i (by omega))
    obtain ⟨p, hp⟩ := h n (by omega)
    refine ⟨xs ++ [p], by simp [hl], fun i q hi => ?_⟩
    rcases Nat.lt_or_ge i n with c | c
    · rw [List.getElem?_append_left (by omega)] at hi
      exact hq i q hi
    · rw [List.getElem?_append_right (by omega)] at hi
      obtain rfl : i = n := by
        have := (List.getElem?_eq_some_iff.1 hi).1
        simp at this
        omega
      simp [hl] at hi
      subst hi
      exact hp
theorem add_add' (a : Addr) (i j : Nat) : (a.add i).add j = a.add (i + j) := by
  unfold Addr.add
  by_cases h1 : i = 0 <;> by_cases h2 : j = 0 <;> simp [h1, h2, Nat.add_assoc]
theorem weights_all {H : Type} {e : TypeId} : ∀ {l : List (DataW H)} {y : DataW H}, y ∈ l → ∀ n ∈ y.weights P e, n ∈ DataW.weightsAll P e l
  | x :: l, y, hy, n, hn => by
    unfold DataW.weightsAll
    rcases List.mem_cons.1 hy with rfl | hy
    · exact List.mem_append.2 (.inl hn)
    · exact List.mem_append.2 (.inr (weights_all hy n hn))
end
end Go.Proofs.Ytgcdhikmdbjfeaa.Opn
namespace Go.Proofs.Ytgcdhikmdbjfeaa.Zap
open Go Go.RowKit Go.Proofs.YtgcdhikmdbjfeaaW.PrintWords Go.Proofs.YtgcdhikmdbjfeaaW.PrintLast Go.Proofs.YtgcdhikmdbjfeaaW.PrintMore Go.Proofs.Ytgcdhikmdbjfeaa.U Go.Proofs.Ytgcdhikmdbjfeaa.Aid Go.Proofs.Ytgcdhikmdbjfeaa.HandAid Go.Proofs.Ytgcdhikmdbjfeaa.Zpl Go.Proofs.Ytgcdhikmdbjfeaa.Zrt Go.Proofs.Ytgcdhikmdbjfeaa.Zev Go.Proofs.Ytgcdhikmdbjfeaa.Zat
theorem way_len (x y : Int) : ∀ l, ∀ i, ((way l i x y).length : Int) ≤ dep l := by
  refine tree_ind ?_ ?_
  · intro i
    rw [way, dep]
    simp
  · intro z l h1 h2 i
    rw [way, dep]
    split
    · have := h1 0
      rw [List.length_cons]
      omega
    · have := h2 (i + 1)
      omega
theorem path_ev (x y : Int) (l : List Zn) : ∀ (p : Zn) (e : Int), okT l p e → dep l ≤ 1000 → cnt l ≤ 1000000 → Ev (fun k => incunableref24_path.f k l x y) (way l 0 x y) := by
  induction l using tree_all with
  | h l ih =>
  intro p e hok hd hc
  have hl := len_le_cnt l
  have loop : ∀ m i : Nat, l.length - i = m → i ≤ l.length → Ev (fun k => incunableref24_path.l0 k x y l (l.length : Int) (i : Int)) (way (l.drop i) i x y) := by
    intro m
    induction m with
    | zero =>
      intro i hm hi
      obtain rfl : i = l.length := by omega
      refine ev_succ ?_
      simp only [incunableref24_path.l0]
      rw [List.drop_length, way]
      exact ev_neg (by omega) (ev_const rfl)
    | succ m ihm =>
      intro i hm hi
      have hlt : i < l.length := by omega
      have hz := okT_at hok i hlt
      have hq := isz_iff.1 hz.1
      have hdz := dep_rd hlt
      have hwl := way_len x y (rd_T62 l i).f7 0
      have nx := ihm (i + 1) (by omega) (by omega)
      refine ev_succ ?_
      simp only [incunableref24_path.l0]
      rw [drop_at hlt, way, wrap_id (n := (i : Int) + 1) (by omega) (by omega), wrap_id (n := (rd_T62 l i).f1 + (rd_T62 l i).f3) (by omega) (by omega), wrap_id (n := (rd_T62 l i).f2 + (rd_T62 l i).f4) (by omega) (by omega)]
      refine ev_pos (by omega) (ev_pos (by omega) (ev_pos (by omega) ?_))
      by_cases h1 : (rd_T62 l i).f1 ≤ x
      · refine ev_pos h1 ?_
        by_cases h2 : (rd_T62 l i).f2 ≤ y
        · refine ev_pos h2 ?_
          by_cases h3 : x < (rd_T62 l i).f1 + (rd_T62 l i).f3
          · refine ev_pos h3 ?_
            by_cases h4 : y < (rd_T62 l i).f2 + (rd_T62 l i).f4
            · rw [if_pos (show has x y (rd_T62 l i) = true from decide_eq_true ⟨h1, h2, h3, h4⟩)]
              have hk := cnt_drop l i
              rw [cnt_at hlt] at hk
              have c2 := cnt_nonneg (l.drop (i + 1))
              refine ev_pos h4 (ev_pure rfl (ev_bind (ih i hlt _ _ hz.2 (by omega) (by omega)) (ev_pos ?_ (ev_const rfl))))
              rw [List.length_singleton]
              omega
            · rw [if_neg (show ¬ has x y (rd_T62 l i) = true from by unfold has; rw [decide_eq_true_iff]; omega)]
              exact ev_neg h4 nx
          · rw [if_neg (show ¬ has x y (rd_T62 l i) = true from by unfold has; rw [decide_eq_true_iff]; omega)]
            exact ev_neg h3 nx
        · rw [if_neg (show ¬ has x y (rd_T62 l i) = true from by unfold has; rw [decide_eq_true_iff]; omega)]
          exact ev_neg h2 nx
      · rw [if_neg (show ¬ has x y (rd_T62 l i) = true from by unfold has; rw [decide_eq_true_iff]; omega)]
        exact ev_neg h1 nx
  refine ev_succ ?_
  simp only [incunableref24_path.f]
  exact loop l.length 0 (by omega) (by omega)
theorem ints_self (l : List Int) (hl : l.length ≤ 1000000) : Ev (fun k => incunableref02_SameInts.f k l l) true := by
  have loop : ∀ m i : Nat, l.length - i = m → i ≤ l.length → Ev (fun k => incunableref02_SameInts.l0 k l l (l.length : Int) (i : Int)) true := by
    intro m
    induction m with
    | zero =>
      intro i hm hi
      obtain rfl : i = l.length := by omega
      refine ev_succ ?_
      simp only [incunableref02_SameInts.l0]
      exact ev_neg (by omega) (ev_const rfl)
    | succ m ih =>
      intro i hm hi
      refine ev_succ ?_
      simp only [incunableref02_SameInts.l0]
      rw [wrap_id (n := (i : Int) + 1) (by omega) (by omega), show (i : Int) + 1 = ((i + 1 : Nat) : Int) from rfl]
      exact ev_pos (by omega) (ev_pos (by omega) (ev_pos (by omega) (ev_pos (by omega) (ev_pos trivial (ih (i + 1) (by omega) (by omega))))))
  unfold incunableref02_SameInts.f
  exact ev_pos rfl (loop l.length 0 rfl (by omega))
/-- The reference's At. -/
theorem rat_ev (t : List Int) (l : List Zn) (x y : Int) (hc : cnt l ≤ 1099511627776) : Ev (fun k => incunableref24_At.f k t l x y) (atP t l x y) := by
  unfold incunableref24_At.f atP
  refine ev_bind (refvalid_ev t l hc) ?_
  cases hv : vldZ t l
  · exact ev_neg (by simp) (ev_const (by simp))
  · obtain ⟨_, hok, hc3, hd⟩ := vldZ_iff.1 hv
    have hl := len_le_cnt l
    refine ev_pos rfl (ev_bind (path_ev x y l _ _ hok (by omega) (by omega)) ?_)
    rw [if_pos rfl]
    by_cases h : (way l 0 x y).length = 0
    · rw [if_pos h]
      exact ev_pos (by omega) (ev_const rfl)
    · rw [if_neg h]
      exact ev_neg (by omega) (ev_const rfl)
theorem atP_len (t : List Int) (l : List Zn) (x y : Int) : (atP t l x y).1.length ≤ 7 := by
  unfold atP
  split
  · rename_i hv
    have h := way_len x y l 0
    have hd := (vldZ_iff.1 hv).2.2.2
    split
    · simp
    · show (way l 0 x y).length ≤ 7
      omega
  · simp
end Go.Proofs.Ytgcdhikmdbjfeaa.Zap
namespace Go.Proofs.Ytgcdhikmdbjfeaa.Opz
open Go Go.RowKit Go.Proofs.YtgcdhikmdbjfeaaW.PrintWords Go.Proofs.YtgcdhikmdbjfeaaW.PrintLast Go.Proofs.YtgcdhikmdbjfeaaW.PrintMore Go.ChangeShapes Go.WideShapes Go.Proofs.Ytgcdhikmdbjfeaa.U Go.Proofs.Ytgcdhikmdbjfeaa.Opn Go.Proofs.Ytgcdhikmdbjfeaa.Zpl
/-- As OpensTo; and how much of the datum's bulk an element takes. -/
structure OpensB (P : Program) (N : Nat) {α : Type} (t : TypeId) (d : Kd α) (Wf : α → Prop) (M : α → Nat) : Prop where
  sz : P.cellsOf t = d.sz
  op : ∀ {H : Type} {enc : TypeId × Value → H} {w : World} {fuel : Nat} {cs : List Value} {x : DataW H × List MemPlace}, fuel ≤ N → DataW.trod enc P w 0 (fun _ => true) true fuel t cs = some x → (∀ n ∈ x.1.weights P t, n ≤ reachBytes) → ∃ a : α, d.K w a cs ∧ Wf a ∧ M a ≤ Rows.uptoBulk x.1
section
variable {P : Program} {N : Nat} {α β : Type} {t e : TypeId} {d : Kd α} {d' : Kd β} {Wf Wf2 : α → Prop} {Wf' : β → Prop} {M : α → Nat} {M' : β → Nat}
theorem bulk_pos {H : Type} (d : DataW H) : 1 ≤ Rows.uptoBulk d := by
  cases d with
  | lit x => cases x <;> simp [Rows.uptoBulk]
  | _ => simp [Rows.uptoBulk]
theorem b_one (h : OpensTo P N t d Wf) : OpensB P N t d Wf (fun _ => 1) := ⟨h.sz, fun hf hx hw => by
  obtain ⟨a, hk, hwf⟩ := h.op hf hx hw
  exact ⟨a, hk, hwf, bulk_pos _⟩⟩
theorem bulk_all {H : Type} : ∀ (l : List (DataW H)) (i : Nat) (xs : List Nat), xs.length ≤ l.length → (∀ (i n : Nat), xs[i]? = some n → ∃ y : DataW H, l[i]? = some y ∧ n ≤ Rows.uptoBulk y) → xs.sum ≤ Rows.uptoBulkAll l
  | l, i, [], _, _ => by simp
  | [], i, x :: xs, h, _ => by simp at h
  | y :: l, i, x :: xs, h, hx => by
    obtain ⟨y', h1, h2⟩ := hx 0 x rfl
    obtain rfl : y = y' := by simpa using h1
    have := bulk_all l i xs (by simpa using h) (fun j n hj => hx (j + 1) n (by simpa using hj))
    simp only [List.sum_cons, Rows.uptoBulkAll]
    omega
theorem b_slice (hu : P.underlying t = some (.slice e)) (hc : P.cellsOf t = 1) (he : OpensB P N e d Wf M) {B : Nat} (hB : P.bytesOf e = B) :
    OpensB P (N + 1) t (Kd.slice e d) (fun l => l.length * B ≤ 140737488351232 ∧ ∀ x ∈ l, Wf x) (fun l => (l.map M).sum) := ⟨hc, fun {H enc w fuel cs x} hf hx hw => by
  rcases DataW.trod_slice hu hx with ⟨rfl, rfl⟩ | ⟨a, len, cap, elems, rest, n, hfn, rfl, rfl, _, hl, hm, hlen, hel, _, _⟩
  · exact ⟨[], ⟨none, 0, rfl, Nat.le_refl _, Kd.C_nil d w⟩, ⟨by simp, fun x hx => by simp at hx⟩, by simp⟩
  · have hq : ∀ i, i < len → ∃ p : α, (∃ cs', w.cells? 0 (a.add (i * P.cellsOf e)) (P.cellsOf e) = some cs' ∧ d.K w p cs') ∧ Wf p ∧ ∃ y, elems[i]? = some y ∧ M p ≤ Rows.uptoBulk y.1 := by
      intro i hi
      have h1 := hel i hi
      obtain ⟨y, hy⟩ : ∃ y, elems[i]? = some y := ⟨_, List.getElem?_eq_getElem (by omega)⟩
      rw [hy, Option.bind_eq_some_iff] at h1
      obtain ⟨cs', hcs, h2⟩ := h1
      obtain ⟨p, hk, hwf, hM⟩ := he.op (by omega) h2 (fun m hm' => hw m (by
        unfold DataW.weights
        rw [hu]
        refine List.mem_cons.2 (.inr (List.mem_append.2 (.inl (weights_all (y := y.1) ?_ m hm'))))
        exact List.mem_map.2 ⟨y, List.mem_of_getElem? hy, rfl⟩))
      exact ⟨p, ⟨cs', hcs, hk⟩, hwf, y, hy, hM⟩
    obtain ⟨xs, hxl, hxs⟩ := pick_list len hq
    have hcap : cap ≤ 9223372036854775807 := by simpa [maxLen] using hm
    refine ⟨xs, ⟨some a, cap, by rw [hxl], by omega, rfl, by omega, fun _ => ⟨a, rfl, fun j p hj => ?_⟩⟩, ⟨?_, fun x hx => ?_⟩, ?_⟩
    · obtain ⟨⟨cs', hcs, hk⟩, _⟩ := hxs j p hj
      obtain ⟨_, hl2, hcell⟩ := World.cells?_some hcs
      refine ⟨cs', d.K_len hk, hk, fun i u hi => ?_⟩
      have h3 := hcell i (by rw [← hl2]; exact (List.getElem?_eq_some_iff.1 hi).1)
      rw [Opn.add_add', he.sz, hi] at h3
      exact h3
    · have h4 := hw ((elems.length + rest.length) * P.bytesOf e) (by
        unfold DataW.weights
        rw [hu]
        simp)
      have h5 : len * B ≤ (elems.length + rest.length) * B := Nat.mul_le_mul_right _ (by omega)
      rw [hB] at h4
      rw [hxl]
      exact Nat.le_trans h5 h4
    · obtain ⟨i, hi⟩ := List.getElem?_of_mem hx
      exact (hxs i x hi).2.1
    · have hs := bulk_all (elems.map (·.1)) 0 (xs.map M) (by simp; omega) (fun i n hi => by
        rw [List.getElem?_map, Option.map_eq_some_iff] at hi
        obtain ⟨p, hp, rfl⟩ := hi
        obtain ⟨_, _, y, hy, hM⟩ := hxs i p hp
        exact ⟨y.1, by rw [List.getElem?_map, hy]; rfl, hM⟩)
      simp only [Rows.uptoBulk]
      omega⟩
/-- The same for a struct's fields from offset o on. -/
structure FieldsB (P : Program) (N : Nat) {α : Type} (fs : List Field) (o : Nat) (d : Kd α) (Wf : α → Prop) (M : α → Nat) : Prop where
  op : ∀ {H : Type} {enc : TypeId × Value → H} {w : World} {fuel : Nat} {cs : List Value} {xs : List (DataW H × List MemPlace)}, fuel ≤ N → cs.length = o + d.sz → xs.length = fs.length →
    (∀ (i : Nat) (f : Field), fs[i]? = some f → DataW.trod enc P w 0 (fun _ => true) true fuel f.type ((cs.drop f.offset).take (P.cellsOf f.type)) = xs[i]?) →
    (∀ n ∈ DataW.weightsEach P (fs.map (·.type)) (xs.map (·.1)), n ≤ reachBytes) → ∃ a : α, d.K w a (cs.drop o) ∧ Wf a ∧ M a ≤ Rows.uptoBulkAll (xs.map (·.1))
theorem fb_one {f : Field} {o : Nat} (ho : f.offset = o) (h : OpensB P N f.type d Wf M) : FieldsB P N [f] o d Wf M := ⟨by
  intro H enc w fuel cs xs hf hl hxl hx hw
  match xs, hxl with
  | [x], _ =>
    have h1 := hx 0 f rfl
    rw [ho, h.sz, List.take_of_length_le (by rw [List.length_drop]; omega)] at h1
    obtain ⟨a, hk, hwf, hM⟩ := h.op hf h1 (fun n hn => hw n (by simp [DataW.weightsEach, hn]))
    exact ⟨a, hk, hwf, by simp only [List.map_cons, List.map_nil, Rows.uptoBulkAll]; omega⟩⟩
theorem fb_cons {f : Field} {fs : List Field} {o : Nat} (ho : f.offset = o) (h : OpensB P N f.type d Wf M) (hs : FieldsB P N fs (o + d.sz) d' Wf' M') : FieldsB P N (f :: fs) o (Kd.pair d d') (fun x => Wf x.1 ∧ Wf' x.2) (fun x => M x.1 + M' x.2) := ⟨by
  intro H enc w fuel cs xs hf hl hxl hx hw
  match xs, hxl with
  | x :: xs, hxl =>
    have hl' : cs.length = o + (d.sz + d'.sz) := hl
    have h1 := hx 0 f rfl
    rw [ho, h.sz] at h1
    obtain ⟨a, hk, hwf, hM⟩ := h.op hf h1 (fun n hn => hw n (by simp [DataW.weightsEach, hn]))
    obtain ⟨b, hk', hwf', hM'⟩ := hs.op (xs := xs) hf (by rw [hl']; omega) (by simpa using hxl) (fun i g hg => by simpa using hx (i + 1) g (by simpa using hg)) (fun n hn => hw n (by
      simp only [List.map_cons, DataW.weightsEach]
      exact List.mem_append.2 (.inr hn)))
    refine ⟨(a, b), ⟨_, _, ?_, hk, hk'⟩, ⟨hwf, hwf'⟩, ?_⟩
    · rw [← List.drop_drop, List.take_append_drop]
    · simp only [List.map_cons, Rows.uptoBulkAll]
      omega⟩
theorem b_struct {fs : Array Field} (hu : P.underlying t = some (.struct fs)) (hc : P.cellsOf t = d.sz) (h : FieldsB P N fs.toList 0 d Wf M) : OpensB P (N + 1) t d Wf (fun x => M x + 1) := ⟨hc, fun {H enc w fuel cs x} hf hx hw => by
  obtain ⟨xs, n, hfn, rfl, hl, hxl, hel⟩ := DataW.trod_struct hu hx
  obtain ⟨a, hk, hwf, hM⟩ := h.op (xs := xs) (cs := cs) (w := w) (enc := enc) (fuel := n) (by omega) (by rw [hl, hc, Nat.zero_add]) (by simpa using hxl) (fun i f hf' => hel i f (by simpa using hf')) (fun m hm => hw m (by
    unfold DataW.weights
    rw [hu]
    exact hm))
  refine ⟨a, by simpa using hk, hwf, ?_⟩
  simp only [Rows.uptoBulk]
  omega⟩
/-- A row's argument that is read whole: at whatever fuel. -/
theorem open_argB {H : Type} {enc : TypeId × Value → H} {W : World} {v : Value} {x : DataW H} {p : List MemPlace} {ts : List TypeId} {ds : List (DataW H)} {j : Nat} (ho : ∀ n, OpensB P (n + N) t d Wf M)
    (h : DataW.Trod enc P W 0 (fun _ => true) true t v x p) (hsz : (DataW.weightsEach P ts ds).all (· ≤ reachBytes) = true) (ht : ts[j]? = some t) (hd : ds[j]? = some x) : ∃ a : α, d.K W a v.cells.toList ∧ Wf a ∧ M a ≤ Rows.uptoBulk x := by
  obtain ⟨fuel, hf⟩ := h
  refine (ho fuel).op (by omega) hf (fun n hn => ?_)
  have := List.all_eq_true.1 hsz n (DataW.weights_mem_each ht hd n hn)
  simpa using this
end
/-- How many zones there are, as a Nat. -/
theorem cnt_sum (l : List Zn) : cnt l = (l.map fun z => (cnt [z]).toNat).sum := by
  induction l with
  | nil => simp [cnt]
  | cons z l ih =>
    have c1 := cnt_nonneg [z]
    rw [List.map_cons, List.sum_cons, cnt, ih]
    have : cnt [z] = cnt z.f7 + 1 := by
      rw [cnt]
      simp [cnt]
    omega
theorem zone_opens : ∀ N, OpensB Try.prog N 62 k62 (fun _ => True) (fun z => (cnt [z]).toNat)
  | 0 => ⟨by kernel_rfl, fun {H enc w fuel cs x} hf hx _ => by
    obtain rfl : fuel = 0 := by omega
    simp [DataW.trod] at hx⟩
  | N + 1 => ⟨by kernel_rfl, fun {H enc w fuel cs x} hf hx hw => by
    have hi : OpensB Try.prog N 3 (Kd.int .i64) (fun n => (Lit.int .i64 n).wf = true) (fun _ => 1) := b_one (o_int Try.underlying3 (by kernel_rfl))
    have hk : OpensB Try.prog N 23 (Kd.slice 62 k62) (fun _ => True) (fun l => (l.map fun z => (cnt [z]).toNat).sum) := by
      cases N with
      | zero => exact ⟨by kernel_rfl, fun {H enc w fuel cs x} hf hx _ => by
          obtain rfl : fuel = 0 := by omega
          simp [DataW.trod] at hx⟩
      | succ N =>
        have h := b_slice (B := 80) Try.underlying23 (by kernel_rfl) (zone_opens N) (by kernel_rfl)
        exact ⟨h.sz, fun hf hx hw => by
          obtain ⟨a, h1, _, h3⟩ := h.op hf hx hw
          exact ⟨a, h1, trivial, h3⟩⟩
    have hs := b_struct (t := 62) (d := Kd.pair (Kd.int .i64) (Kd.pair (Kd.int .i64) (Kd.pair (Kd.int .i64) (Kd.pair (Kd.int .i64) (Kd.pair (Kd.int .i64) (Kd.pair (Kd.int .i64) (Kd.pair (Kd.int .i64) (Kd.slice 62 k62)))))))) Try.underlying62 (by kernel_rfl) (fb_cons rfl hi (fb_cons rfl hi (fb_cons rfl hi (fb_cons rfl hi (fb_cons rfl hi (fb_cons rfl hi (fb_cons rfl hi (fb_one rfl hk))))))))
    obtain ⟨⟨x0, x1, x2, x3, x4, x5, x6, l⟩, ⟨_, _, hcs, rfl, ⟨_, _, rfl, rfl, ⟨_, _, rfl, rfl, ⟨_, _, rfl, rfl, ⟨_, _, rfl, rfl, ⟨_, _, rfl, rfl, ⟨_, _, rfl, rfl, ⟨A, c, rfl, hl, hC⟩⟩⟩⟩⟩⟩⟩⟩, hwf, hM⟩ := hs.op hf hx hw
    refine ⟨⟨x0, x1, x2, x3, x4, x5, x6, l⟩, ?_, trivial, ?_⟩
    · rw [hcs]
      exact k62_mk w ⟨x0, x1, x2, x3, x4, x5, x6, l⟩ hl hC
    · have : cnt [(⟨x0, x1, x2, x3, x4, x5, x6, l⟩ : Zn)] = cnt l + 1 := by
        rw [cnt]
        simp [cnt]
      rw [this]
      have h2 := cnt_sum l
      simp only at hM
      omega⟩
theorem zones_opens (N : Nat) : OpensB Try.prog (N + 1) 23 (Kd.slice 62 k62) (fun l => l.length * 80 ≤ 140737488351232) (fun l => (l.map fun z => (cnt [z]).toNat).sum) := by
  have h := b_slice (B := 80) Try.underlying23 (by kernel_rfl) (zone_opens N) (by kernel_rfl)
  exact ⟨h.sz, fun hf hx hw => by
    obtain ⟨a, h1, h2, h3⟩ := h.op hf hx hw
    exact ⟨a, h1, h2.1, h3⟩⟩
theorem hidden_opens (N : Nat) : OpensB Try.prog (N + 3) 25 (Kd.pair (Kd.slice 5 (Kd.int .u8)) (Kd.slice 62 k62)) (fun x => (x.1.length * 1 ≤ 140737488351232 ∧ ∀ y ∈ x.1, (Lit.int .u8 y).wf = true) ∧ x.2.length * 80 ≤ 140737488351232) (fun x => (x.1.map fun _ => 1).sum + (x.2.map fun z => (cnt [z]).toNat).sum + 1) := by
  have h1 := b_slice (B := 1) (N := N + 1) Try.underlying22 (by kernel_rfl) (b_one (o_int Try.underlying5 (by kernel_rfl))) (by kernel_rfl)
  have h := b_struct (P := Try.prog) (N := N + 2) (t := 25) (d := Kd.pair (Kd.slice 5 (Kd.int .u8)) (Kd.slice 62 k62)) Try.underlying25 (by kernel_rfl) (fb_cons rfl h1 (fb_one rfl (zones_opens (N + 1))))
  exact h
end Go.Proofs.Ytgcdhikmdbjfeaa.Opz
namespace Go.Proofs.Ytgcdhikmdbjfeaa.Csh
open Go
variable {H : Type} {enc : TypeId × Value → H}
/-- A row with a condition of the specification's own; the contract is handed the reach and the world's shape. -/
theorem handed_cond_shaped {a : Assume} {C : Checked} {os : Os} {f : FuncId} {fn : Func} {s : OpenSpec} {k : (H : Type) → List (DataW H) → Bool} (hk : s.cond = some k) {F : Stop.Interp} {conds : List PathCond} {apart fresh handsOn again : Bool}
    (own : ownKnob C.prog.godebug = none) (started : os.Started) (noInit : C.prog.inits.idxOf? f = none) (hfn : C.prog.funcs[f]? = some fn)
    (witness : ∃ (w : World) (tape : Tape) (i : Input), w.os = os ∧ (w.forCall tape i).Shaped C.prog ∧ i.vars = [] ∧ Input.okWide C.prog (w.forCall tape i) .any w.heap.size f i ∧
      s.pre6 enc C.prog fn conds apart (w.forCall tape i).memory i.args ∧ a.holds C.prog (lone (Frame.enter C.prog f i.args .normal) [] (w.forCall tape i)))
    (contract : ∀ (W : World) (base : Nat) (args : Array Value) (ds gs : List (DataW H)) (before : List MemPlace),
      (∀ (j : Nat) t v, fn.params[j]? = some t → args[j]? = some v → Value.okWide C.prog W .any base t v) →
      DataW.Whole enc C.prog fn.params.toList s.vars apart W args.toList ds gs before →
      conds.all (PathCond.test C.prog ⟨fn.params.toList, ds, s.bare.plain.varTypes C.prog, gs⟩) = true → k H (ds ++ gs) = true →
      (DataW.weightsEach C.prog (fn.params.toList ++ s.bare.plain.varTypes C.prog) (ds ++ gs)).all (· ≤ reachBytes) = true → W.ShapedOpen C.prog →
      a.holds C.prog (lone (Frame.enter C.prog f args .normal) [] W) →
      Calls C.prog f args W fun e W' => ∃ v, e = .returned v ∧ (s.at F).post enc C.prog fn apart fresh handsOn again W args v W') :
    ReturnsInHanded a C os f .any (s.pre6 enc C.prog fn conds apart) ((s.at F).post enc C.prog fn apart fresh handsOn again) := by
  refine returnsInHanded_of_calls own started noInit witness ?_
  intro w tape i _ hsh _ hok hpre hholds
  obtain ⟨_, _, _, fn', hfn', _, _, _, _, hval⟩ := hok
  have e : fn' = fn := Option.some.inj (hfn'.symm.trans hfn)
  subst e
  obtain ⟨ds, gs, before, hw, hc, hkk⟩ := (OpenSpec.pre_some hk conds apart _ _).1 hpre.1
  have hw' := DataW.Whole.of_heap (w' := w.forCall tape i) (by rfl) hw
  refine (contract (w.forCall tape i) w.heap.size i.args ds gs before hval hw' hc hkk (hpre.2.weights hw) hsh hholds).mono fun e W' ⟨v, he, hp⟩ => ?_
  subst he
  exact ChangeSpec.post_blind hp
end Go.Proofs.Ytgcdhikmdbjfeaa.Csh
