import Derived.Test.YtlnhahnnjbfjdaaAid
import Derived.Test.YtlnhahnnjbfjdaaHandAid
import Derived.Test.YtlnhahnnjbfjdaaNum
import Derived.Test.YtlnhahnnjbfjdaaEvs
-- needs: Aid HandAid Num Evs
import Derived.Test.YtlnhahnnjbfjdaaGotEvents
import Derived.Test.YtlnhahnnjbfjdaaPNumberEventsx4
namespace Go.Proofs.Ytlnhahnnjbfjdaa.RefEvs
open Go Go.RowKit Go.Proofs.YtlnhahnnjbfjdaaW.PrintWords Go.Proofs.YtlnhahnnjbfjdaaW.PrintLast Go.Proofs.YtlnhahnnjbfjdaaW.PrintMore Go.Proofs.Ytlnhahnnjbfjdaa.Aid Go.Proofs.Ytlnhahnnjbfjdaa.HandAid Go.Proofs.Ytlnhahnnjbfjdaa.PNumberEvents Go.Proofs.Ytlnhahnnjbfjdaa.Num Go.Proofs.Ytlnhahnnjbfjdaa.Evs
set_option linter.unusedVariables false
set_option linter.unusedSimpArgs false
def digs (v : Int) (i : Nat) : List Int := (List.range i).map fun k => v / 2 ^ k % 2
theorem digs_step (v : Int) (i : Nat) : digs v (i + 1) = digs v i ++ [v / 2 ^ i % 2] := by simp [digs, List.range_succ]
theorem digs_len (v : Int) (i : Nat) : (digs v i).length = i := by simp [digs]
theorem pow_pos' (i : Nat) : (0 : Int) < 2 ^ i := Int.pow_pos (by decide)
theorem pow_le' {i j : Nat} (h : i ≤ j) : (2 : Int) ^ i ≤ 2 ^ j := by
  have := Nat.pow_le_pow_right (n := 2) (by decide) h
  exact_mod_cast this
theorem div_half (v : Int) (i : Nat) : v / 2 ^ i / 2 = v / 2 ^ (i + 1) := by
  rw [Int.ediv_ediv_of_nonneg (Int.le_of_lt (pow_pos' i)), Int.pow_succ]
theorem ref_l0 (v : Int) (c : Nat) (hc : c ≤ 20) (h1 : (2 : Int) ^ c ≤ v) (h2 : v < 2 ^ (c + 1)) (hv : v ≤ 1048577) (x3 : List S87) (x4 x5 : Int) (r : List S87) (H : Ev (fun k => incunableref03_events.l1 k x3 x4 x5 (digs v (c + 1)) c 0) r) : ∀ (d i : Nat), i + d = c + 1 → Ev (fun k => incunableref03_events.l0 k x3 x4 x5 (digs v i) (v / 2 ^ i)) r
  | 0, i, hd => by
    obtain rfl : i = c + 1 := by omega
    refine ev_succ ?_
    simp only [incunableref03_events.l0]
    have h0 : v / 2 ^ (c + 1) = 0 := Int.ediv_eq_zero_of_lt (by have := pow_pos' c; omega) h2
    rw [h0]
    refine ev_neg (by omega) ?_
    rw [show wrap64 (((digs v (c + 1)).length : Int) - 1) = c by rw [digs_len, wrap_id] <;> omega]
    exact H
  | d + 1, i, hd => by
    refine ev_succ ?_
    simp only [incunableref03_events.l0]
    have h0 : 1 ≤ v / 2 ^ i := Int.le_ediv_of_mul_le (pow_pos' i) (by have := pow_le' (show i ≤ c by omega); omega)
    have h3 : v / 2 ^ i ≤ v := Int.ediv_le_self _ (by have := pow_pos' c; omega)
    refine ev_pos (by omega) (ev_pos (by rw [digs_len]; omega) ?_)
    rw [tmod_id (by omega), tdiv_id (by omega), wrap_id (by omega) (by omega), div_half, ← digs_step]
    exact ref_l0 v c hc h1 h2 hv x3 x4 x5 r H d (i + 1) (by omega)
theorem ref_l1 (x4 x5 : Int) (x6 : List Int) (c : Nat) (hc : c ≤ 20) (r : List S87) (H : Ev (fun k => incunableref03_events.l2 k (evHead 0 c ++ evMid 0 c) x4 x5 x6 c 0) r) : ∀ (d i : Nat), i + d = c → Ev (fun k => incunableref03_events.l1 k (evHead 0 i) x4 x5 x6 c i) r
  | 0, i, hd => by
    obtain rfl : i = c := by omega
    refine ev_succ ?_
    simp only [incunableref03_events.l1]
    refine ev_neg (by omega) ?_
    unfold evMid at H
    by_cases h : i < 20
    · refine ev_pos (by omega) (ev_pos (by rw [evHead_len]; omega) (ev_succ ?_))
      simp only [incunableref03_events.j3]
      rw [if_pos h] at H
      rw [show wrap64 (1 + (i : Int)) = 0 + 1 + i by rw [wrap_id] <;> omega]
      exact H
    · refine ev_neg (by omega) (ev_succ ?_)
      simp only [incunableref03_events.j3]
      rw [if_neg h, List.append_nil] at H
      exact H
  | d + 1, i, hd => by
    refine ev_succ ?_
    simp only [incunableref03_events.l1]
    refine ev_pos (by omega) (ev_pos (by rw [evHead_len]; omega) ?_)
    rw [show wrap64 (1 + (i : Int)) = 0 + 1 + i by rw [wrap_id] <;> omega, show wrap64 ((i : Int) + 1) = ((i + 1 : Nat) : Int) by rw [wrap_id] <;> omega, ← evHead_step]
    exact ref_l1 x4 x5 x6 c hc r H d (i + 1) (by omega)
theorem ref_l2 (n x4 x5 : Int) (c : Nat) (hc : c ≤ 20) (hx4 : x4 = 0 ↔ n = 0) (hx5 : n ≠ 0 → x5 = if n < 0 then 1 else 0) : ∀ (d j : Nat), j + d = c → Ev (fun k => incunableref03_events.l2 k (evHead 0 c ++ evMid 0 c ++ evDig 0 n c j) x4 x5 (digs (numV n) (c + 1)) c j) (evHead 0 c ++ evMid 0 c ++ evDig 0 n c c ++ evSign 0 n)
  | 0, j, hd => by
    obtain rfl : j = c := by omega
    refine ev_succ ?_
    simp only [incunableref03_events.l2]
    refine ev_neg (by omega) ?_
    unfold evSign
    by_cases h : n = 0
    · rw [if_pos h, List.append_nil]
      exact ev_pos (hx4.2 h) (Ev.now _)
    · rw [if_neg h]
      refine ev_neg (fun e => h (hx4.1 e)) (ev_pos ?_ (ev_eq (Ev.now _) ?_))
      · have := evMid_len 0 j
        simp only [List.length_append, evHead_len, evDig_len]
        omega
      · rw [hx5 h]; rfl
  | d + 1, j, hd => by
    refine ev_succ ?_
    simp only [incunableref03_events.l2]
    have hL : (evHead 0 c ++ evMid 0 c ++ evDig 0 n c j).length < 8796093022208 := by
      have := evMid_len 0 c
      simp only [List.length_append, evHead_len, evDig_len]
      omega
    have e1 : wrap64 (wrap64 ((c : Int) - 1) - (j : Int)) = ((c - 1 - j : Nat) : Int) := by
      rw [wrap_id (n := (c : Int) - 1) (by omega) (by omega), wrap_id (by omega) (by omega)]; omega
    have e3 : wrap64 ((j : Int) + 1) = ((j + 1 : Nat) : Int) := by rw [wrap_id] <;> omega
    have e4 : wrap64 (23 + (c : Int)) = 23 + c := by rw [wrap_id] <;> omega
    have e5 : wrap64 (43 + (j : Int)) = 43 + j := by rw [wrap_id] <;> omega
    have e2 : rd (digs (numV n) (c + 1)) ((c - 1 - j : Nat) : Int) = numV n / 2 ^ (c - 1 - j) % 2 := rd_range_map (fun k => numV n / 2 ^ k % 2) (by omega)
    rw [e1, e2, e3, e4, e5]
    clear e2
    have hI := ref_l2 n x4 x5 c hc hx4 hx5 d (j + 1) (by omega)
    clear hx4 hx5
    rw [evDig_step, ← List.append_assoc, Int.zero_add] at hI
    refine ev_pos (by omega) ?_
    by_cases h : j = 0
    · refine ev_pos (by omega) (ev_pos (by omega) (ev_pos (by rw [digs_len]; omega) (ev_pos hL ?_)))
      rw [show evCtx c j = 23 + c from if_pos h] at hI
      exact hI
    · refine ev_neg (by omega) (ev_pos (by omega) (ev_pos (by rw [digs_len]; omega) (ev_pos hL ?_)))
      rw [show evCtx c j = mn (43 + (j : Int)) 47 by unfold evCtx mn; rw [if_neg h]; split <;> split <;> omega] at hI
      exact hI
theorem ref_events_ev (nn : Bool) (n : Int) (hok : okNum nn n = true) : Ev (fun k => incunableref03_events.f k nn n) (evAll 0 nn n) := by
  unfold incunableref03_events.f evAll
  cases nn
  · unfold okNum at hok
    simp only [Bool.false_eq_true, if_false, Bool.and_eq_true, decide_eq_true_eq] at hok ⊢
    have hC := numC_spec hok.1 hok.2
    have hV := numV_range hok.1 hok.2
    have hA := numA_eq n
    have key : ∀ (x4 x5 : Int), x4 = numA n → (n ≠ 0 → x5 = if n < 0 then 1 else 0) → Ev (fun k => incunableref03_events.j0 k [⟨0, 0⟩] x4 x5) (evList 0 n) := by
      intro x4 x5 h4 h5
      refine ev_succ ?_
      simp only [incunableref03_events.j0]
      rw [show wrap64 (x4 + 1) = numV n / 2 ^ 0 by rw [h4, Int.pow_zero, Int.ediv_one, wrap_id (by have := numA_range hok.1 hok.2; omega) (by have := numA_range hok.1 hok.2; omega)]; rfl]
      refine ref_l0 (numV n) (numC n) hC.2.2.1 hC.1 hC.2.1 hV.2 _ x4 x5 _ ?_ (numC n + 1) 0 (by omega)
      refine ref_l1 x4 x5 _ (numC n) hC.2.2.1 _ ?_ (numC n) 0 (by omega)
      have := ref_l2 n x4 x5 (numC n) hC.2.2.1 (by rw [h4, hA]; split <;> omega) h5 (numC n) 0 (by omega)
      rw [show evDig 0 n (numC n) 0 = [] from rfl, List.append_nil] at this
      exact this
    refine ev_some ?_
    by_cases h : n < 0
    · refine ev_pos h (key _ _ ?_ ?_)
      · rw [hA, if_pos h, wrap_id] <;> omega
      · intro _; rw [if_pos h]
    · refine ev_neg h (key _ _ ?_ ?_)
      · rw [hA, if_neg h]
      · intro _; rw [if_neg h]
  · exact ev_pos rfl (Ev.now _)
def shift (base : Int) (x : S87) : S87 := ⟨x.f0 + base, x.f1⟩
theorem evList_shift (base n : Int) : (evList 0 n).map (shift base) = evList base n := by
  unfold evList evHead evMid evDig evSign
  simp only [List.map_append, List.map_cons, List.map_map]
  congr 1
  · congr 1
    · congr 1
      · congr 1
        · simp [shift]
        · apply List.map_congr_left; intro i _; simp [shift]; omega
      · split <;> simp [shift] <;> omega
    · apply List.map_congr_left; intro i _; simp [shift]; omega
  · split
    · rfl
    · simp [shift]; omega
theorem evAll_shift (base : Int) (nn : Bool) (n : Int) : (evAll 0 nn n).map (shift base) = evAll base nn n := by
  unfold evAll
  cases nn
  · exact evList_shift base n
  · simp [shift]
theorem evAll_ctx (nn : Bool) (n : Int) (hok : okNum nn n = true) : ∀ x ∈ evAll 0 nn n, 0 ≤ x.f0 ∧ x.f0 ≤ 47 := by
  unfold evAll
  cases nn
  · unfold okNum at hok
    simp only [Bool.false_eq_true, if_false, Bool.and_eq_true, decide_eq_true_eq] at hok ⊢
    have hC := (numC_spec hok.1 hok.2).2.2.1
    intro x hx
    unfold evList evHead evMid evDig evSign at hx
    simp only [List.mem_append, List.mem_cons, List.mem_map, List.mem_range] at hx
    rcases hx with ((( rfl | ⟨i, hi, rfl⟩) | hx) | ⟨i, hi, rfl⟩) | hx
    · simp
    · simp only; omega
    · split at hx
      · simp only [List.mem_singleton] at hx; subst hx; simp only; omega
      · simp at hx
    · simp only [evCtx]; split <;> (try split) <;> omega
    · split at hx
      · simp at hx
      · simp only [List.mem_singleton] at hx; subst hx; simp only; omega
  · intro x hx
    simp only [if_true, List.mem_singleton] at hx
    subst hx; simp
theorem rd_shift {l : List S87} {i : Nat} (h : i < l.length) : rd_T87 l (i : Int) = l[i] := by
  simp [rd_T87, List.getD_eq_getElem?_getD, List.getElem?_eq_getElem h]
theorem ref_Events_l0 (base : Int) (hb0 : 0 ≤ base) (hb1 : base ≤ 8144) (l : List S87) (hl : ∀ x ∈ l, 0 ≤ x.f0 ∧ x.f0 ≤ 47) (hn : l.length ≤ 1000000) : ∀ (d i : Nat), i + d = l.length → Ev (fun k => incunableref03_Events.l0 k base ((l.take i).map (shift base) ++ l.drop i) i) (l.map (shift base), 0)
  | 0, i, hd => by
    obtain rfl : i = l.length := by omega
    refine ev_succ ?_
    simp only [incunableref03_Events.l0]
    refine ev_neg (by simp) (ev_eq (Ev.now _) ?_)
    simp
  | d + 1, i, hd => by
    refine ev_succ ?_
    simp only [incunableref03_Events.l0]
    have hi : i < l.length := by omega
    have hlen : ((l.take i).map (shift base) ++ l.drop i).length = l.length := by simp; omega
    have hel : rd_T87 ((l.take i).map (shift base) ++ l.drop i) (i : Int) = l[i] := by
      rw [rd_shift (by omega), List.getElem_append_right (by simp; omega)]
      simp [Nat.min_eq_left (Nat.le_of_lt hi)]
    have hx := hl l[i] (List.getElem_mem hi)
    refine ev_pos (by rw [hlen]; omega) (ev_pos (by omega) ?_)
    rw [hel, wrap_id (n := l[i].f0 + base) (by omega) (by omega), show wrap64 ((i : Int) + 1) = ((i + 1 : Nat) : Int) by rw [wrap_id] <;> omega, Int.toNat_natCast]
    have hI := ref_Events_l0 base hb0 hb1 l hl hn d (i + 1) (by omega)
    have e : ((l.take i).map (shift base) ++ l.drop i).set i ⟨l[i].f0 + base, l[i].f1⟩ = (l.take (i + 1)).map (shift base) ++ l.drop (i + 1) := by
      have hA : ((l.take i).map (shift base)).length = i := by simp; omega
      rw [List.set_append_right _ _ (by omega), hA, Nat.sub_self, List.drop_eq_getElem_cons hi, List.set_cons_zero, List.take_succ_eq_append_getElem hi, List.map_append, List.append_assoc]
      rfl
    rw [e]
    exact hI
theorem evAll_len (base : Int) (nn : Bool) (n : Int) (hok : okNum nn n = true) : (evAll base nn n).length ≤ 60 := by
  unfold evAll
  cases nn
  · unfold okNum at hok
    simp only [Bool.false_eq_true, if_false, Bool.and_eq_true, decide_eq_true_eq] at hok ⊢
    have hC := (numC_spec hok.1 hok.2).2.2.1
    have := evMid_len base (numC n)
    unfold evList evSign
    simp only [List.length_append, evHead_len, evDig_len]
    split <;> simp <;> omega
  · simp
theorem ref_Events_ev (base : Int) (nn : Bool) (n : Int) : Ev (fun k => incunableref03_Events.f k base nn n) (evRes base nn n) := by
  unfold incunableref03_Events.f
  refine ev_pure (ref_valid_eq nn n) ?_
  have bad : ∀ k0 : Bool, k0 = true → Ev (fun k => incunableref03_Events.j0 k base k0 nn n) ([], 2) := by
    rintro _ rfl
    refine ev_succ ?_
    simp only [incunableref03_Events.j0]
    exact ev_pos trivial (Ev.now _)
  by_cases hok : okNum nn n = true
  · refine ev_pos hok ?_
    by_cases hb0 : base < 0
    · exact ev_pos hb0 (ev_eq (bad true rfl) (if_neg (fun h => by omega)).symm)
    refine ev_neg hb0 ?_
    by_cases hb1 : base > 8144
    · exact ev_eq (bad _ (decide_eq_true hb1)) (if_neg (fun h => by omega)).symm
    refine ev_eq (r := (evAll base nn n, 0)) ?_ (if_pos ⟨hok, by omega, by omega⟩).symm
    rw [decide_eq_false hb1]
    refine ev_succ ?_
    simp only [incunableref03_Events.j0]
    refine ev_neg (by simp) (ev_bind (ref_events_ev nn n hok) ?_)
    have := ref_Events_l0 base (by omega) (by omega) (evAll 0 nn n) (evAll_ctx nn n hok) (by have := evAll_len 0 nn n hok; omega) (evAll 0 nn n).length 0 (by omega)
    rw [evAll_shift] at this
    simpa using this
  · exact ev_neg hok (ev_eq (bad true rfl) (if_neg (fun h => hok h.1)).symm)
theorem same_l0 (l : List S87) (hn : l.length ≤ 1000000) : ∀ (d i : Nat), i + d = l.length → Ev (fun k => incunablelaw03_SameEvents.l0 k l l i) true
  | 0, i, hd => by
    refine ev_succ ?_
    simp only [incunablelaw03_SameEvents.l0]
    exact ev_neg (by omega) (Ev.now _)
  | d + 1, i, hd => by
    refine ev_succ ?_
    simp only [incunablelaw03_SameEvents.l0]
    refine ev_pos (by omega) (ev_pos (by omega) (ev_pos (by omega) (ev_neg (by simp) ?_)))
    rw [show wrap64 ((i : Int) + 1) = ((i + 1 : Nat) : Int) by rw [wrap_id] <;> omega]
    exact same_l0 l hn d (i + 1) (by omega)
theorem sameEvents_ev (l : List S87) (hn : l.length ≤ 1000000) : Ev (fun k => incunablelaw03_SameEvents.f k l l) true := by
  unfold incunablelaw03_SameEvents.f
  exact ev_pos rfl (same_l0 l hn l.length 0 (by omega))
end Go.Proofs.Ytlnhahnnjbfjdaa.RefEvs
