import Derived.Test.YtnadgcdkcabdoaaMPrefixBits3
import Derived.Test.YtnadgcdkcabdoaaMPrefixBits4
import Derived.Test.YtnadgcdkcabdoaaMPrefixBits1
set_option linter.unusedVariables false
set_option linter.unusedSimpArgs false
namespace Go.Proofs.Ytnadgcdkcabdoaa.Cdy
open Go Go.RowKit Go.Proofs.YtnadgcdkcabdoaaW.PrintWords Go.Proofs.YtnadgcdkcabdoaaW.PrintLast Go.Proofs.YtnadgcdkcabdoaaW.PrintMore Go.Proofs.Ytnadgcdkcabdoaa.Aid Go.Proofs.Ytnadgcdkcabdoaa.U Go.Proofs.Ytnadgcdkcabdoaa.Tab Go.Proofs.Ytnadgcdkcabdoaa.Cdx
abbrev Cd := S84
/-- The code of line i, when the lines up to length L, and of L those in front of i, have theirs. -/
def cod (t : List Ln) (j : Nat) : Cd := ⟨cnum t j, len t j⟩
def outAt (t : List Ln) (L : Int) (i : Nat) : List Cd := (List.range t.length).map fun j => if len t j ≠ 0 ∧ (len t j < L ∨ (len t j = L ∧ j < i)) then cod t j else z84
theorem front_next {L : Int} : ∀ (t : List Ln) (n : Nat), t.length ≤ n → front L n t = front (L + 1) 0 t
  | [], _, _ => by simp [front]
  | x :: l, n, h => by
    have hn : l.length + 1 ≤ n := h
    simp only [front]
    rw [front_next l (n - 1) (by omega), show (0 : Nat) - 1 = 0 from rfl]
    congr 1
    by_cases c1 : x.f0 < L
    · rw [if_pos c1, if_pos (by omega)]
    · rw [if_neg c1]
      by_cases c2 : x.f0 = L
      · rw [if_pos c2, if_pos (by omega), if_pos (by omega)]
      · rw [if_neg c2, if_neg (by omega)]
        split <;> simp
theorem front_step {L : Int} : ∀ (t : List Ln) (i : Nat), i < t.length → front L (i + 1) t = front L i t + (if len t i = L then wS (rd_T32 t (i : Int)) else 0)
  | x :: l, 0, h => by
    have hx : rd_T32 (x :: l) ((0 : Nat) : Int) = x := rfl
    simp only [front, len, hx]
    by_cases c1 : x.f0 < L
    · rw [if_pos c1, if_pos c1, if_neg (by omega)]
      simp
    · rw [if_neg c1, if_neg c1]
      by_cases c2 : x.f0 = L
      · rw [if_pos c2, if_pos c2, if_pos c2]
        simp
        omega
      · rw [if_neg c2, if_neg c2, if_neg c2]
        simp
  | x :: l, i + 1, h => by
    have h1 : i < l.length := by simpa using h
    have hx : rd_T32 (x :: l) ((i + 1 : Nat) : Int) = rd_T32 l (i : Int) := by
      simp [rd_T32, List.getD_eq_getElem?_getD]
    have hs : front L (i + 1) l = front L i l + (if len l i = L then wS (rd_T32 l (i : Int)) else 0) := front_step l i h1
    simp only [front, len, hx, Nat.add_sub_cancel]
    rw [hs]
    simp only [len]
    rw [if_pos (show 0 < i + 1 + 1 by omega), if_pos (show 0 < i + 1 by omega), Int.add_assoc]
theorem front_one : ∀ (t : List Ln), (∀ x ∈ t, lineB x = true) → front 1 0 t = 0
  | [], _ => rfl
  | x :: l, h => by
    have hl := of_decide_eq_true (h x List.mem_cons_self)
    simp only [front]
    rw [show (0 : Nat) - 1 = 0 from rfl, front_one l (fun y hy => h y (List.mem_cons_of_mem _ hy))]
    by_cases c1 : x.f0 < 1
    · rw [if_pos c1, show wS x = 0 from if_pos (by omega)]
      rfl
    · rw [if_neg c1]
      split <;> simp
theorem outAt_len (t : List Ln) (L : Int) (i : Nat) : (outAt t L i).length = t.length := by simp [outAt]
theorem outAt_next (t : List Ln) (L : Int) (n : Nat) (h : t.length ≤ n) : outAt t L n = outAt t (L + 1) 0 := by
  unfold outAt
  refine List.map_congr_left fun j hj => ?_
  have := List.mem_range.1 hj
  by_cases c : len t j ≠ 0 ∧ (len t j < L ∨ (len t j = L ∧ j < n))
  · rw [if_pos c, if_pos ⟨c.1, .inl (by omega)⟩]
  · rw [if_neg c, if_neg (by omega)]
theorem pow_half {m : Nat} (h : 1 ≤ m) : (2 : Int) ^ m = 2 * 2 ^ (m - 1) := by
  obtain ⟨k, rfl⟩ : ∃ k, m = k + 1 := ⟨m - 1, by omega⟩
  rw [Nat.add_sub_cancel, Int.pow_succ, Int.mul_comm]
mutual
theorem codes_l0 (t : List Ln) (hv : vldP t) : ∀ (e : Nat) (L : Nat) (c p : Int), L + e = 16 → 1 ≤ L → (L ≤ 15 → p = L - 1 ∧ 2 * c * 2 ^ (15 - L) = front (L : Int) 0 t ∨ p = L ∧ c * 2 ^ (15 - L) = front (L : Int) 0 t) → 0 ≤ c → 1 ≤ p →
    Ev (fun k => prefix_codes.l0 k t (outAt t L 0) (L : Int) c p) (outAt t 16 0)
  | 0, L, c, p, hL, h1, hc, h0, hp => by
    refine ev_succ ?_
    simp only [prefix_codes.l0]
    refine ev_eq (ev_neg (by omega) (Ev.now _)) ?_
    rw [show (L : Int) = 16 by omega]
  | e + 1, L, c, p, hL, h1, hc, h0, hp => by
    have hF := front_range (L := (L : Int)) t 0 hv.2.1
    have hS := hv.2.2.2.2
    have hpw := pow15 (15 - L) (by omega)
    replace hc := hc (by omega)
    have hp1 : (L : Int) - p = 0 ∨ (L : Int) - p = 1 := by omega
    refine ev_succ ?_
    simp only [prefix_codes.l0]
    rw [wrap_id (n := (L : Int) - p) (by omega) (by omega)]
    refine ev_pos (by omega) (ev_pos (by omega) ?_)
    rcases hc with ⟨hp2, hc⟩ | ⟨hp2, hc⟩
    · have hc2 : 2 * c ≤ 32768 := by
        have : 2 * c * 1 ≤ 2 * c * 2 ^ (15 - L) := Int.mul_le_mul_of_nonneg_left hpw.1 (by omega)
        omega
      have hsh : shl .i64 c ((L : Int) - p) = 2 * c := by
        rw [show (L : Int) - p = 1 by omega]
        show IntKind.i64.wrap (c * 2 ^ 1) = 2 * c
        rw [i64_w, wrap_id (by omega) (by omega)]
        omega
      rw [hsh]
      exact codes_l1 t hv e L t.length 0 (2 * c) (by omega) h1 (by omega) (by simpa using hc) (by omega)
    · have hc2 : c ≤ 32768 := by
        have : c * 1 ≤ c * 2 ^ (15 - L) := Int.mul_le_mul_of_nonneg_left hpw.1 (by omega)
        omega
      have hsh : shl .i64 c ((L : Int) - p) = c := by
        rw [show (L : Int) - p = 0 by omega]
        show IntKind.i64.wrap (c * 2 ^ 0) = c
        rw [i64_w, wrap_id (by omega) (by omega)]
        omega
      rw [hsh]
      exact codes_l1 t hv e L t.length 0 c (by omega) h1 (by omega) (by simpa using hc) (by omega)
termination_by e _ _ _ _ _ _ _ => (e, 0)
theorem codes_l1 (t : List Ln) (hv : vldP t) : ∀ (e : Nat) (L : Nat) (d i : Nat) (c : Int), L + e = 15 → 1 ≤ L → i + d = t.length → c * 2 ^ (15 - L) = front (L : Int) i t → 0 ≤ c →
    Ev (fun k => prefix_codes.l1 k t (outAt t L i) (L : Int) t (t.length : Int) (i : Int) c (L : Int)) (outAt t 16 0)
  | e, L, 0, i, c, hL, h1, hd, hc, h0 => by
    have hF := front_range (L := (L : Int)) t i hv.2.1
    have hS := hv.2.2.2.2
    have ht := hv.1
    refine ev_succ ?_
    simp only [prefix_codes.l1]
    rw [wrap_id (n := (L : Int) + 1) (by omega) (by omega), outAt_next t L i (by omega), show (L : Int) + 1 = ((L + 1 : Nat) : Int) by omega]
    refine ev_neg (by omega) (codes_l0 t hv e (L + 1) c L (by omega) (by omega) ?_ h0 (by omega))
    intro hL15
    left
    refine ⟨by omega, ?_⟩
    have h2 := front_next (L := (L : Int)) t i (by omega)
    rw [pow_half (m := 15 - L) (by omega)] at hc
    rw [show ((L + 1 : Nat) : Int) = (L : Int) + 1 by omega, ← h2, ← hc, show 15 - (L + 1) = 15 - L - 1 by omega, Int.mul_comm 2 c, Int.mul_assoc]
  | e, L, d + 1, i, c, hL, h1, hd, hc, h0 => by
    have hi : i < t.length := by omega
    have hl := hv.2.1 _ (rdL_mem hi)
    have hl2 := of_decide_eq_true hl
    have ht := hv.1
    have hS := hv.2.2.2.2
    have hF := front_range (L := (L : Int)) t (i + 1) hv.2.1
    have hpw := pow15 (15 - L) (by omega)
    have hst := front_step (L := (L : Int)) t i hi
    have hlen : len t i = (rd_T32 t (i : Int)).f0 := rfl
    refine ev_succ ?_
    simp only [prefix_codes.l1]
    rw [wrap_id (n := (i : Int) + 1) (by omega) (by omega), outAt_len]
    refine ev_pos (by omega) (ev_pos (by omega) (ev_pos (by omega) ?_))
    by_cases cL : (rd_T32 t (i : Int)).f0 = (L : Int)
    · have hwe : wS (rd_T32 t (i : Int)) = 2 ^ (15 - L) := by
        unfold wS
        rw [if_neg (by omega), cL, show (15 - (L : Int)).toNat = 15 - L by omega]
      rw [hlen, if_pos cL, hwe, ← hc] at hst
      have hc2 : c ≤ 32768 := by
        have : c * 1 ≤ c * 2 ^ (15 - L) := Int.mul_le_mul_of_nonneg_left hpw.1 (by omega)
        omega
      refine ev_pos cL (ev_pos (by omega) ?_)
      rw [wrap_id (n := c + 1) (by omega) (by omega), Int.toNat_natCast]
      have hset : (outAt t L i).set i ⟨c, (L : Int)⟩ = outAt t L (i + 1) := by
        unfold outAt
        apply List.ext_getElem
        · simp
        intro j hj1 hj2
        simp at hj1 hj2
        rw [List.getElem_set]
        simp only [List.getElem_map, List.getElem_range]
        by_cases ej : i = j
        · subst ej
          rw [if_pos rfl, if_pos ⟨by omega, .inr ⟨by omega, by omega⟩⟩]
          unfold cod cnum
          rw [hlen, cL, show (15 - (L : Int)).toNat = 15 - L by omega, ← hc, Int.mul_ediv_cancel _ (by have := hpw.1; omega)]
        · rw [if_neg ej]
          by_cases cj : len t j ≠ 0 ∧ (len t j < L ∨ (len t j = L ∧ j < i))
          · rw [if_pos cj, if_pos ⟨cj.1, by omega⟩]
          · rw [if_neg cj, if_neg (by omega)]
      rw [hset]
      exact codes_l1 t hv e L d (i + 1) (c + 1) hL h1 (by omega) (by rw [hst, Int.add_mul]; omega) (by omega)
    · rw [hlen, if_neg cL, Int.add_zero, ← hc] at hst
      refine ev_neg cL ?_
      have hset : outAt t L i = outAt t L (i + 1) := by
        unfold outAt
        refine List.map_congr_left fun j hj => ?_
        by_cases cj : len t j ≠ 0 ∧ (len t j < L ∨ (len t j = L ∧ j < i))
        · rw [if_pos cj, if_pos ⟨cj.1, by omega⟩]
        · rw [if_neg cj, if_neg (fun hn => cj ⟨hn.1, by
            rcases hn.2 with h | ⟨h, h'⟩
            · exact .inl h
            · rcases Nat.lt_or_ge j i with h'' | h''
              · exact .inr ⟨h, h''⟩
              · have : j = i := by omega
                subst this
                exact absurd h cL⟩)]
      rw [hset]
      exact codes_l1 t hv e L d (i + 1) c hL h1 (by omega) hst.symm h0
termination_by e _ d _ _ _ _ _ _ _ => (e, d + 1)
end
end Go.Proofs.Ytnadgcdkcabdoaa.Cdy
namespace Go.Proofs.Ytnadgcdkcabdoaa.Cdz
open Go Go.RowKit Go.Proofs.YtnadgcdkcabdoaaW.PrintWords Go.Proofs.YtnadgcdkcabdoaaW.PrintLast Go.Proofs.YtnadgcdkcabdoaaW.PrintMore Go.Proofs.Ytnadgcdkcabdoaa.Aid Go.Proofs.Ytnadgcdkcabdoaa.U Go.Proofs.Ytnadgcdkcabdoaa.Tab Go.Proofs.Ytnadgcdkcabdoaa.Cdx Go.Proofs.Ytnadgcdkcabdoaa.Cdy
/-- The codes of all lines. -/
def codesL (t : List Ln) : List Cd := outAt t 16 0
theorem codes_ev (t : List Ln) (hv : vldP t) : Ev (fun k => prefix_codes.f k t) (codesL t) := by
  have ht := hv.1
  unfold prefix_codes.f
  refine ev_pos (by omega) (ev_pos (by rw [Int.toNat_natCast]; omega) ?_)
  rw [Int.toNat_natCast]
  have h := codes_l0 t hv 15 1 0 1 (by omega) (by omega) (fun _ => .inr ⟨rfl, by rw [show ((1 : Nat) : Int) = 1 from rfl, front_one t hv.2.1]; simp⟩) (by omega) (by omega)
  have e : outAt t 1 0 = List.replicate t.length z84 := by
    rw [List.eq_replicate_iff]
    refine ⟨by simp [outAt], fun b hb => ?_⟩
    obtain ⟨j, hj, rfl⟩ := List.mem_map.1 hb
    have hl := of_decide_eq_true (hv.2.1 _ (rdL_mem (List.mem_range.1 hj)))
    have hlen : len t j = (rd_T32 t (j : Int)).f0 := rfl
    rw [if_neg (by omega)]
  rw [show ((1 : Nat) : Int) = 1 from rfl, e] at h
  exact h
theorem codesL_len (t : List Ln) : (codesL t).length = t.length := outAt_len t 16 0
theorem codesL_at (t : List Ln) (hv : vldP t) (i : Nat) (hi : i < t.length) : rd_T84 (codesL t) (i : Int) = if len t i = 0 then z84 else cod t i := by
  have hl := of_decide_eq_true (hv.2.1 _ (rdL_mem hi))
  have hlen : len t i = (rd_T32 t (i : Int)).f0 := rfl
  have h1 : rd_T84 (codesL t) (i : Int) = (codesL t)[i]'(by rw [codesL_len]; exact hi) := by
    unfold rd_T84
    rw [Int.toNat_natCast, List.getD_eq_getElem?_getD, List.getElem?_eq_getElem (by rw [codesL_len]; exact hi)]
    rfl
  rw [h1]
  simp only [codesL, outAt, List.getElem_map, List.getElem_range]
  by_cases c : len t i = 0
  · rw [if_pos c, if_neg (fun h => h.1 c)]
  · rw [if_neg c, if_pos ⟨c, .inl (by omega)⟩]
/-- How far a number is from a line's. -/
def dd (x : Ln) (n : Int) : Int := if x.f3 = 1 then x.f2 - n else n - x.f2
def inB (x : Ln) (nn : Bool) (n : Int) : Bool := if nn = true ∨ x.f3 = 2 then nn && (n == 0) && (x.f3 == 2) else decide (-4194304 ≤ n ∧ n ≤ 4194304 ∧ 0 ≤ dd x n ∧ dd x n < 2 ^ x.f1.toNat)
def offV (x : Ln) (nn : Bool) (n : Int) : Int := if nn = true ∨ x.f3 = 2 then 0 else dd x n
theorem shl_b : ∀ n, n < 21 → shl .i64 1 (n : Nat) = 2 ^ n := by decide
theorem shl_bits {x : Ln} (h : lineB x = true) : shl .i64 1 x.f1 = 2 ^ x.f1.toNat := by
  have h1 := of_decide_eq_true h
  obtain ⟨n, hn⟩ : ∃ n : Nat, x.f1 = n := ⟨x.f1.toNat, by omega⟩
  rw [hn, Int.toNat_natCast]
  exact shl_b n (by omega)
theorem offset_ev (x : Ln) (nn : Bool) (n : Int) (hx : lineB x = true) (hn : -9223372036854775808 ≤ n ∧ n ≤ 9223372036854775807) : ∃ v, Ev (fun k => prefix_offset.f k x.f0 x.f1 x.f2 x.f3 nn n) (v, inB x nn n) ∧ (inB x nn n = true → v = offV x nn n) := by
  have hl := of_decide_eq_true hx
  have hs := shl_bits hx
  unfold prefix_offset.f inB offV
  by_cases c : nn = true ∨ x.f3 = 2
  · rw [if_pos c, if_pos c]
    refine ⟨0, ?_, fun _ => rfl⟩
    have key : ∀ b : Bool, b = true → Ev (fun k => prefix_offset.j0 k b x.f0 x.f1 x.f2 x.f3 nn n) ((0 : Int), nn && (n == 0) && (x.f3 == 2)) := by
      intro b hb
      subst hb
      refine ev_succ ?_
      simp only [prefix_offset.j0]
      refine ev_pos trivial ?_
      by_cases cn : nn = true
      · refine ev_pos cn ?_
        by_cases c0 : n = 0
        · exact ev_pos c0 (ev_eq (Ev.now _) (by simp [cn, c0]))
        · exact ev_neg c0 (ev_eq (Ev.now _) (by simp [c0]))
      · exact ev_neg cn (ev_eq (Ev.now _) (by simp [cn]))
    by_cases cn : nn = true
    · exact ev_pos cn (key true rfl)
    · exact ev_neg cn (key _ (by rcases c with h | h; exact absurd h cn; simp [h]))
  · rw [if_neg c, if_neg c]
    have cn : ¬ nn = true := fun h => c (.inl h)
    have c3 : ¬ x.f3 = 2 := fun h => c (.inr h)
    have e3 : (x.f3 == 2) = false := by simpa using c3
    rw [e3]
    have far : ∀ b : Bool, b = decide (n < -4194304 ∨ n > 4194304) → ∃ v, Ev (fun k => prefix_offset.j1 k b x.f0 x.f1 x.f2 x.f3 nn n) (v, decide (-4194304 ≤ n ∧ n ≤ 4194304 ∧ 0 ≤ dd x n ∧ dd x n < 2 ^ x.f1.toNat)) ∧ (decide (-4194304 ≤ n ∧ n ≤ 4194304 ∧ 0 ≤ dd x n ∧ dd x n < 2 ^ x.f1.toNat) = true → v = dd x n) := by
      intro b hb
      by_cases cf : n < -4194304 ∨ n > 4194304
      · rw [decide_eq_true cf] at hb
        subst hb
        have e : decide (-4194304 ≤ n ∧ n ≤ 4194304 ∧ 0 ≤ dd x n ∧ dd x n < 2 ^ x.f1.toNat) = false := decide_eq_false (by omega)
        rw [e]
        refine ⟨0, ev_succ ?_, fun h => by simp at h⟩
        simp only [prefix_offset.j1]
        exact ev_pos trivial (Ev.now _)
      · rw [decide_eq_false cf] at hb
        subst hb
        refine ⟨dd x n, ev_succ ?_, fun _ => rfl⟩
        simp only [prefix_offset.j1]
        refine ev_neg (by decide) ?_
        rw [hs]
        by_cases c1 : x.f3 = 1
        · have hdd : dd x n = x.f2 - n := if_pos c1
          refine ev_pos c1 ?_
          rw [wrap_id (n := n - x.f2) (by omega) (by omega), wrap_id (n := -(n - x.f2)) (by omega) (by omega), show -(n - x.f2) = dd x n by omega]
          by_cases c0 : dd x n ≥ 0
          · refine ev_pos c0 (ev_pos (by omega) (ev_eq (Ev.now _) ?_))
            congr 1
            by_cases cl : dd x n < 2 ^ x.f1.toNat
            · rw [decide_eq_true cl]; symm; exact decide_eq_true ⟨by omega, by omega, c0, cl⟩
            · rw [decide_eq_false cl]; symm; exact decide_eq_false (fun h => cl h.2.2.2)
          · refine ev_neg c0 (ev_eq (Ev.now _) ?_)
            congr 1
            symm; exact decide_eq_false (fun h => c0 h.2.2.1)
        · have hdd : dd x n = n - x.f2 := if_neg c1
          refine ev_neg c1 ?_
          rw [wrap_id (n := n - x.f2) (by omega) (by omega), ← hdd]
          by_cases c0 : dd x n ≥ 0
          · refine ev_pos c0 (ev_pos (by omega) (ev_eq (Ev.now _) ?_))
            congr 1
            by_cases cl : dd x n < 2 ^ x.f1.toNat
            · rw [decide_eq_true cl]; symm; exact decide_eq_true ⟨by omega, by omega, c0, cl⟩
            · rw [decide_eq_false cl]; symm; exact decide_eq_false (fun h => cl h.2.2.2)
          · refine ev_neg c0 (ev_eq (Ev.now _) ?_)
            congr 1
            symm; exact decide_eq_false (fun h => c0 h.2.2.1)
    by_cases cl : n < -4194304
    · obtain ⟨v, hv, hw⟩ := far true (by symm; exact decide_eq_true (.inl cl))
      refine ⟨v, ev_neg cn (ev_succ ?_), hw⟩
      simp only [prefix_offset.j0]
      exact ev_neg (by decide) (ev_pos cl hv)
    · obtain ⟨v, hv, hw⟩ := far (decide (n > 4194304)) (by
        by_cases c4 : n > 4194304
        · rw [decide_eq_true c4]; symm; exact decide_eq_true (.inr c4)
        · rw [decide_eq_false c4]; symm; exact decide_eq_false (by omega))
      refine ⟨v, ev_neg cn (ev_succ ?_), hw⟩
      simp only [prefix_offset.j0]
      exact ev_neg (by decide) (ev_neg cl hv)
theorem place_ev (x : Ln) (nn : Bool) (n : Int) (hx : lineB x = true) (hn : -9223372036854775808 ≤ n ∧ n ≤ 9223372036854775807) : ∃ v, Ev (fun k => incunableref04_Place.f k x.f0 x.f1 x.f2 x.f3 nn n) (v, inB x nn n) ∧ (inB x nn n = true → v = offV x nn n) := by
  have hl := of_decide_eq_true hx
  have hs := shl_bits hx
  unfold incunableref04_Place.f inB offV
  by_cases c : nn = true ∨ x.f3 = 2
  · rw [if_pos c, if_pos c]
    refine ⟨0, ?_, fun _ => rfl⟩
    have key : Ev (fun k => incunableref04_Place.j0 k true x.f0 x.f1 x.f2 x.f3 nn n) ((0 : Int), nn && (n == 0) && (x.f3 == 2)) := by
      refine ev_succ ?_
      simp only [incunableref04_Place.j0]
      refine ev_pos trivial ?_
      by_cases c2 : x.f3 = 2
      · refine ev_pos c2 ?_
        by_cases cn : nn = true
        · exact ev_pos cn (ev_eq (Ev.now _) (by simp [cn, c2]))
        · exact ev_neg cn (ev_eq (Ev.now _) (by simp [cn]))
      · exact ev_neg c2 (ev_eq (Ev.now _) (by simp [c2]))
    by_cases c2 : x.f3 = 2
    · exact ev_pos c2 key
    · have cn : nn = true := c.resolve_right c2
      rw [cn] at key ⊢
      exact ev_neg c2 key
  · rw [if_neg c, if_neg c]
    have cn : nn = false := by cases nn; rfl; exact absurd (.inl rfl) c
    have c3 : ¬ x.f3 = 2 := fun h => c (.inr h)
    subst cn
    by_cases cf : n < -4194304 ∨ n > 4194304
    · have e : decide (-4194304 ≤ n ∧ n ≤ 4194304 ∧ 0 ≤ dd x n ∧ dd x n < 2 ^ x.f1.toNat) = false := decide_eq_false (by omega)
      rw [e]
      by_cases c1 : x.f3 = 1
      · refine ⟨wrap64 (x.f2 - n), ev_neg c3 (ev_succ ?_), fun h => by simp at h⟩
        simp only [incunableref04_Place.j0]
        refine ev_neg (by decide) (ev_pos c1 ?_)
        by_cases cl : n < -4194304
        · exact ev_pos cl (Ev.now _)
        · exact ev_neg cl (ev_pos (by omega) (Ev.now _))
      · refine ⟨wrap64 (n - x.f2), ev_neg c3 (ev_succ ?_), fun h => by simp at h⟩
        simp only [incunableref04_Place.j0]
        refine ev_neg (by decide) (ev_neg c1 ?_)
        by_cases cl : n < -4194304
        · exact ev_pos cl (Ev.now _)
        · exact ev_neg cl (ev_pos (by omega) (Ev.now _))
    · refine ⟨dd x n, ev_neg c3 (ev_succ ?_), fun _ => rfl⟩
      simp only [incunableref04_Place.j0]
      refine ev_neg (by decide) ?_
      rw [hs]
      by_cases c1 : x.f3 = 1
      · have hdd : dd x n = x.f2 - n := if_pos c1
        refine ev_pos c1 (ev_neg (by omega) (ev_neg (by omega) ?_))
        rw [wrap_id (n := x.f2 - n) (by omega) (by omega), ← hdd]
        by_cases c0 : dd x n ≥ 0
        · refine ev_pos c0 (ev_pos (by omega) (ev_eq (Ev.now _) ?_))
          congr 1
          by_cases cl : dd x n < 2 ^ x.f1.toNat
          · rw [decide_eq_true cl]; symm; exact decide_eq_true ⟨by omega, by omega, c0, cl⟩
          · rw [decide_eq_false cl]; symm; exact decide_eq_false (fun h => cl h.2.2.2)
        · refine ev_neg c0 (ev_eq (Ev.now _) ?_)
          congr 1
          symm; exact decide_eq_false (fun h => c0 h.2.2.1)
      · have hdd : dd x n = n - x.f2 := if_neg c1
        refine ev_neg c1 (ev_neg (by omega) (ev_neg (by omega) ?_))
        rw [wrap_id (n := n - x.f2) (by omega) (by omega), ← hdd]
        by_cases c0 : dd x n ≥ 0
        · refine ev_pos c0 (ev_pos (by omega) (ev_eq (Ev.now _) ?_))
          congr 1
          by_cases cl : dd x n < 2 ^ x.f1.toNat
          · rw [decide_eq_true cl]; symm; exact decide_eq_true ⟨by omega, by omega, c0, cl⟩
          · rw [decide_eq_false cl]; symm; exact decide_eq_false (fun h => cl h.2.2.2)
        · refine ev_neg c0 (ev_eq (Ev.now _) ?_)
          congr 1
          symm; exact decide_eq_false (fun h => c0 h.2.2.1)
/-- The line by which a number is coded, among the first i: one more than its place; 0: none. -/
def pick (t : List Ln) (nn : Bool) (n : Int) : Nat → Option Nat
  | 0 => none
  | i + 1 => if inB (rd_T32 t (i : Int)) nn n = true ∧ (rd_T32 t (i : Int)).f0 > 0 ∧ (∀ b, pick t nn n i = some b → (rd_T32 t (i : Int)).f0 + (rd_T32 t (i : Int)).f1 < (rd_T32 t (b : Int)).f0 + (rd_T32 t (b : Int)).f1) then some i else pick t nn n i
theorem pick_lt (t : List Ln) (nn : Bool) (n : Int) : ∀ i b, pick t nn n i = some b → b < i ∧ inB (rd_T32 t (b : Int)) nn n = true ∧ (rd_T32 t (b : Int)).f0 > 0
  | 0, b, h => by simp [pick] at h
  | i + 1, b, h => by
    unfold pick at h
    split at h
    · rename_i hc
      injection h with h
      subst h
      exact ⟨Nat.lt_succ_self _, hc.1, hc.2.1⟩
    · have := pick_lt t nn n i b h
      exact ⟨by omega, this.2⟩
def enc (o : Option Nat) : Int := match o with | none => -1 | some b => (b : Int)
def encD (t : List Ln) (nn : Bool) (n : Int) (o : Option Nat) : Int := match o with | none => 0 | some b => offV (rd_T32 t (b : Int)) nn n
end Go.Proofs.Ytnadgcdkcabdoaa.Cdz
namespace Go.Proofs.Ytnadgcdkcabdoaa.Cdb
open Go Go.RowKit Go.Proofs.YtnadgcdkcabdoaaW.PrintWords Go.Proofs.YtnadgcdkcabdoaaW.PrintLast Go.Proofs.YtnadgcdkcabdoaaW.PrintMore Go.Proofs.Ytnadgcdkcabdoaa.Aid Go.Proofs.Ytnadgcdkcabdoaa.U Go.Proofs.Ytnadgcdkcabdoaa.Tab Go.Proofs.Ytnadgcdkcabdoaa.Cdx Go.Proofs.Ytnadgcdkcabdoaa.Cdy Go.Proofs.Ytnadgcdkcabdoaa.Cdz
theorem sb_loop (l l' : List Int) (hn : l.length ≤ 9223372036854775807) (he : l.length = l'.length) : ∀ (d i : Nat), i + d = l.length → Ev (fun k => incunableref02_SameBytes.l0 k l l' (l.length : Int) (i : Int)) (decide (l.drop i = l'.drop i))
  | 0, i, hd => by
    refine ev_succ ?_
    simp only [incunableref02_SameBytes.l0]
    refine ev_neg (by omega) (ev_eq (Ev.now _) ?_)
    rw [List.drop_of_length_le (by omega), List.drop_of_length_le (by omega)]
    rfl
  | d + 1, i, hd => by
    have h1 : i < l.length := by omega
    have h2 : i < l'.length := by omega
    refine ev_succ ?_
    simp only [incunableref02_SameBytes.l0]
    rw [wrap_id (n := (i : Int) + 1) (by omega) (by omega)]
    refine ev_pos (by omega) (ev_pos (by omega) (ev_pos (by omega) (ev_pos (by omega) ?_)))
    rw [drop_rd h1, drop_rd h2]
    by_cases c : rd l i = rd l' i
    · refine ev_pos c (ev_eq (sb_loop l l' hn he d (i + 1) (by omega)) ?_)
      simp [c]
    · exact ev_neg c (ev_eq (Ev.now _) (by simp [c]))
theorem sb_ev (l l' : List Int) (hn : l.length ≤ 9223372036854775807) : Ev (fun k => incunableref02_SameBytes.f k l l') (decide (l = l')) := by
  unfold incunableref02_SameBytes.f
  by_cases c : (l.length : Int) = (l'.length : Int)
  · refine ev_pos c (ev_eq (sb_loop l l' hn (by omega) l.length 0 (by omega)) (by simp))
  · refine ev_neg c (ev_eq (Ev.now _) ?_)
    symm
    exact decide_eq_false (fun h => c (by rw [h]))
theorem sb_true (l : List Int) (hn : l.length ≤ 9223372036854775807) : Ev (fun k => incunableref02_SameBytes.f k l l) true := ev_eq (sb_ev l l hn) (decide_eq_true rfl)
abbrev wf64 (n : Int) : Prop := -9223372036854775808 ≤ n ∧ n ≤ 9223372036854775807
theorem line_loop (t : List Ln) (hv : vldP t) (nn : Bool) (n : Int) (hn : wf64 n) : ∀ (d i : Nat), i + d = t.length →
    Ev (fun k => prefix_line.l0 k t (enc (pick t nn n i)) (encD t nn n (pick t nn n i)) t (t.length : Int) (i : Int) nn n) (enc (pick t nn n t.length), encD t nn n (pick t nn n t.length))
  | 0, i, hd => by
    refine ev_succ ?_
    simp only [prefix_line.l0]
    refine ev_neg (by omega) (ev_eq (Ev.now _) ?_)
    rw [show i = t.length by omega]
  | d + 1, i, hd => by
    have hi : i < t.length := by omega
    have ht := hv.1
    have hl := hv.2.1 _ (rdL_mem hi)
    have hl2 := of_decide_eq_true hl
    obtain ⟨v, hve, hvi⟩ := offset_ev _ nn n hl hn
    have ih := line_loop t hv nn n hn d (i + 1) (by omega)
    have hlt := pick_lt t nn n i
    refine ev_succ ?_
    simp only [prefix_line.l0]
    rw [wrap_id (n := (i : Int) + 1) (by omega) (by omega)]
    refine ev_pos (by omega) (ev_pos (by omega) (ev_pos (by omega) (ev_bind hve ?_)))
    dsimp only
    have stay : ¬ (inB (rd_T32 t (i : Int)) nn n = true ∧ (rd_T32 t (i : Int)).f0 > 0 ∧ (∀ b, pick t nn n i = some b → (rd_T32 t (i : Int)).f0 + (rd_T32 t (i : Int)).f1 < (rd_T32 t (b : Int)).f0 + (rd_T32 t (b : Int)).f1)) →
        Ev (fun k => prefix_line.l0 k t (enc (pick t nn n i)) (encD t nn n (pick t nn n i)) t (t.length : Int) ((i : Int) + 1) nn n) (enc (pick t nn n t.length), encD t nn n (pick t nn n t.length)) := fun h => by
      have e : pick t nn n (i + 1) = pick t nn n i := if_neg h
      rw [e] at ih
      exact ih
    have take : (inB (rd_T32 t (i : Int)) nn n = true ∧ (rd_T32 t (i : Int)).f0 > 0 ∧ (∀ b, pick t nn n i = some b → (rd_T32 t (i : Int)).f0 + (rd_T32 t (i : Int)).f1 < (rd_T32 t (b : Int)).f0 + (rd_T32 t (b : Int)).f1)) →
        Ev (fun k => prefix_line.l0 k t (i : Int) v t (t.length : Int) ((i : Int) + 1) nn n) (enc (pick t nn n t.length), encD t nn n (pick t nn n t.length)) := fun h => by
      have e : pick t nn n (i + 1) = some i := if_pos h
      rw [e] at ih
      rw [hvi h.1]
      exact ih
    by_cases c1 : inB (rd_T32 t (i : Int)) nn n = true
    · refine ev_pos c1 ?_
      by_cases c2 : (rd_T32 t (i : Int)).f0 > 0
      · refine ev_pos c2 ?_
        cases hp : pick t nn n i with
        | none =>
          rw [hp] at take
          exact ev_pos (show enc none < 0 by decide) (take ⟨c1, c2, fun b hb => by simp at hb⟩)
        | some b =>
          rw [hp] at take stay
          have hb := hlt b hp
          have hbl := of_decide_eq_true (hv.2.1 _ (rdL_mem (show b < t.length by omega)))
          show Ev (fun k => if (b : Int) < 0 then _ else _) _
          refine ev_neg (by omega) (ev_pos (show (0 : Int) ≤ (b : Int) by omega) (ev_pos (show (b : Int) < (t.length : Int) by omega) ?_))
          show Ev (fun k => if wrap64 ((rd_T32 t (i : Int)).f0 + (rd_T32 t (i : Int)).f1) < wrap64 ((rd_T32 t (b : Int)).f0 + (rd_T32 t (b : Int)).f1) then _ else _) _
          rw [wrap_id (n := (rd_T32 t (i : Int)).f0 + (rd_T32 t (i : Int)).f1) (by omega) (by omega), wrap_id (n := (rd_T32 t (b : Int)).f0 + (rd_T32 t (b : Int)).f1) (by omega) (by omega)]
          by_cases c3 : (rd_T32 t (i : Int)).f0 + (rd_T32 t (i : Int)).f1 < (rd_T32 t (b : Int)).f0 + (rd_T32 t (b : Int)).f1
          · exact ev_pos c3 (take ⟨c1, c2, fun b' hb' => by injection hb' with hb'; subst hb'; exact c3⟩)
          · exact ev_neg c3 (stay (fun h => c3 (h.2.2 b rfl)))
      · exact ev_neg c2 (stay (fun h => c2 h.2.1))
    · exact ev_neg c1 (stay (fun h => c1 h.1))
theorem line_ev (t : List Ln) (hv : vldP t) (nn : Bool) (n : Int) (hn : wf64 n) : Ev (fun k => prefix_line.f k t nn n) (enc (pick t nn n t.length), encD t nn n (pick t nn n t.length)) := by
  unfold prefix_line.f
  exact line_loop t hv nn n hn t.length 0 (by omega)
/-- A number's bits. -/
def bitsR (t : List Ln) (nn : Bool) (n : Int) : Option (List Int) := (pick t nn n t.length).map fun b => digs (cnum t b) (len t b).toNat ++ digs (offV (rd_T32 t (b : Int)) nn n) (rd_T32 t (b : Int)).f1.toNat
theorem pow20 : ∀ n, n < 21 → (2 : Int) ^ n ≤ 1048576 := by decide
theorem offV_range {x : Ln} {nn : Bool} {n : Int} (hl : lineB x = true) (h : inB x nn n = true) : 0 ≤ offV x nn n ∧ offV x nn n ≤ 1048576 := by
  have h2 := of_decide_eq_true hl
  unfold offV inB at *
  by_cases c : nn = true ∨ x.f3 = 2
  · rw [if_pos c]; omega
  · rw [if_neg c] at h ⊢
    have h1 := of_decide_eq_true h
    have := pow20 x.f1.toNat (by omega)
    omega
theorem cnum_range (t : List Ln) (hv : vldP t) (i : Nat) : 0 ≤ cnum t i ∧ cnum t i ≤ 32768 := by
  have hF := front_range (L := len t i) t i hv.2.1
  have := div_pos_le hF.1 (15 - len t i).toNat
  have := hv.2.2.2.2
  unfold cnum
  omega
theorem put_ev (t : List Ln) (hv : vldP t) (nn : Bool) (n : Int) (hn : wf64 n) : Ev (fun k => prefix_put.f k t (codesL t) nn n) (match bitsR t nn n with | none => ([], 5) | some b => (b, 0)) := by
  have ht := hv.1
  unfold prefix_put.f bitsR
  refine ev_bind (line_ev t hv nn n hn) ?_
  dsimp only
  cases hp : pick t nn n t.length with
  | none => exact ev_pos (show enc none < 0 by decide) (Ev.now _)
  | some b =>
    have hb := pick_lt t nn n _ b hp
    have hl := hv.2.1 _ (rdL_mem hb.1)
    have hbl := of_decide_eq_true hl
    have ho := offV_range hl hb.2.1
    have hc := cnum_range t hv b
    have hlen : len t b = (rd_T32 t (b : Int)).f0 := rfl
    have hat := codesL_at t hv b hb.1
    rw [if_neg (by omega)] at hat
    refine ev_neg (show ¬ ((b : Int) < 0) by omega) (ev_pos (show (0 : Int) ≤ (b : Int) by omega) (ev_pos (show (b : Int) < ((codesL t).length : Int) by rw [codesL_len]; omega) ?_))
    show Ev (fun k => (prefix_digits.f k (rd_T84 (codesL t) (b : Int)).f0 (rd_T84 (codesL t) (b : Int)).f1).bind _) _
    rw [hat]
    have h1 := pdig_ev (cnum t b) (len t b).toNat hc.1 (by omega) (by omega)
    rw [Int.toNat_of_nonneg (show 0 ≤ len t b by omega)] at h1
    refine ev_bind h1 (ev_pos (show (b : Int) < (t.length : Int) by omega) ?_)
    have h2 := pdig_ev (offV (rd_T32 t (b : Int)) nn n) (rd_T32 t (b : Int)).f1.toNat ho.1 (by omega) (by omega)
    rw [Int.toNat_of_nonneg (show 0 ≤ (rd_T32 t (b : Int)).f1 by omega)] at h2
    refine ev_bind h2 (ev_pos ?_ (Ev.now _))
    rw [digs_len, digs_len]
    omega
theorem pbits_ev (t : List Ln) (nn : Bool) (n : Int) (hn : wf64 n) : Ev (fun k => prefix_Bits.f k t nn n) (if vldP t then (match bitsR t nn n with | none => ([], 5) | some b => (b, 0)) else ([], 20)) := by
  unfold prefix_Bits.f
  by_cases c : vldP t
  · rw [if_pos c]
    exact ev_bind (ev_eq (pvalid_ev t) (decide_eq_true c)) (ev_pos rfl (ev_bind (codes_ev t c) (ev_bind (put_ev t c nn n hn) (Ev.now _))))
  · rw [if_neg c]
    exact ev_bind (ev_eq (pvalid_ev t) (decide_eq_false c)) (ev_neg (by decide) (Ev.now _))
theorem rbits_loop (t : List Ln) (hv : vldP t) (nn : Bool) (n : Int) (hn : wf64 n) : ∀ (d i : Nat), i + d = t.length →
    Ev (fun k => incunableref04_Bits.l0 k t (enc (pick t nn n i)) t (t.length : Int) (i : Int) nn n) (match bitsR t nn n with | none => ([], false) | some b => (b, true))
  | 0, i, hd => by
    have ht := hv.1
    refine ev_succ ?_
    simp only [incunableref04_Bits.l0]
    refine ev_neg (by omega) ?_
    rw [show i = t.length by omega]
    unfold bitsR
    cases hp : pick t nn n t.length with
    | none => exact ev_pos (show enc none < 0 by decide) (Ev.now _)
    | some b =>
      have hb := pick_lt t nn n _ b hp
      have hl := hv.2.1 _ (rdL_mem hb.1)
      have hbl := of_decide_eq_true hl
      have ho := offV_range hl hb.2.1
      obtain ⟨v, hve, hvi⟩ := place_ev _ nn n hl hn
      have hve2 := hvi hb.2.1
      subst hve2
      refine ev_neg (show ¬ ((b : Int) < 0) by omega) (ev_pos (show (0 : Int) ≤ (b : Int) by omega) (ev_pos (show (b : Int) < (t.length : Int) by omega) ?_))
      refine ev_bind hve (ev_bind (code_ev t b hb.1 hv) ?_)
      have h2 := rdig_ev (offV (rd_T32 t (b : Int)) nn n) (rd_T32 t (b : Int)).f1.toNat ho.1 (by omega) (by omega)
      rw [Int.toNat_of_nonneg (show 0 ≤ (rd_T32 t (b : Int)).f1 by omega)] at h2
      refine ev_bind h2 (ev_pos ?_ (Ev.now _))
      have hlen : len t b = (rd_T32 t (b : Int)).f0 := rfl
      rw [digs_len, digs_len]
      omega
  | d + 1, i, hd => by
    have hi : i < t.length := by omega
    have ht := hv.1
    have hl := hv.2.1 _ (rdL_mem hi)
    have hl2 := of_decide_eq_true hl
    obtain ⟨v, hve, hvi⟩ := place_ev _ nn n hl hn
    have ih := rbits_loop t hv nn n hn d (i + 1) (by omega)
    have hlt := pick_lt t nn n i
    refine ev_succ ?_
    simp only [incunableref04_Bits.l0, incunableref04_used.f, Option.bind_some]
    rw [wrap_id (n := (i : Int) + 1) (by omega) (by omega)]
    refine ev_pos (by omega) (ev_pos (by omega) (ev_pos (by omega) (ev_bind hve ?_)))
    dsimp only
    have stay : ¬ (inB (rd_T32 t (i : Int)) nn n = true ∧ (rd_T32 t (i : Int)).f0 > 0 ∧ (∀ b, pick t nn n i = some b → (rd_T32 t (i : Int)).f0 + (rd_T32 t (i : Int)).f1 < (rd_T32 t (b : Int)).f0 + (rd_T32 t (b : Int)).f1)) →
        Ev (fun k => incunableref04_Bits.l0 k t (enc (pick t nn n i)) t (t.length : Int) ((i : Int) + 1) nn n) (match bitsR t nn n with | none => ([], false) | some b => (b, true)) := fun h => by
      have e : pick t nn n (i + 1) = pick t nn n i := if_neg h
      rw [e] at ih
      exact ih
    have take : (inB (rd_T32 t (i : Int)) nn n = true ∧ (rd_T32 t (i : Int)).f0 > 0 ∧ (∀ b, pick t nn n i = some b → (rd_T32 t (i : Int)).f0 + (rd_T32 t (i : Int)).f1 < (rd_T32 t (b : Int)).f0 + (rd_T32 t (b : Int)).f1)) →
        Ev (fun k => incunableref04_Bits.l0 k t (i : Int) t (t.length : Int) ((i : Int) + 1) nn n) (match bitsR t nn n with | none => ([], false) | some b => (b, true)) := fun h => by
      have e : pick t nn n (i + 1) = some i := if_pos h
      rw [e] at ih
      exact ih
    by_cases c2 : (rd_T32 t (i : Int)).f0 > 0
    · refine ev_pos (decide_eq_true c2) ?_
      by_cases c1 : inB (rd_T32 t (i : Int)) nn n = true
      · refine ev_pos c1 ?_
        cases hp : pick t nn n i with
        | none =>
          rw [hp] at take
          exact ev_pos (show enc none < 0 by decide) (take ⟨c1, c2, fun b hb => by simp at hb⟩)
        | some b =>
          rw [hp] at take stay
          have hb := hlt b hp
          have hbl := of_decide_eq_true (hv.2.1 _ (rdL_mem (show b < t.length by omega)))
          show Ev (fun k => if (b : Int) < 0 then _ else _) _
          refine ev_neg (by omega) (ev_pos (show (0 : Int) ≤ (b : Int) by omega) (ev_pos (show (b : Int) < (t.length : Int) by omega) ?_))
          show Ev (fun k => if wrap64 ((rd_T32 t (i : Int)).f0 + (rd_T32 t (i : Int)).f1) < wrap64 ((rd_T32 t (b : Int)).f0 + (rd_T32 t (b : Int)).f1) then _ else _) _
          rw [wrap_id (n := (rd_T32 t (i : Int)).f0 + (rd_T32 t (i : Int)).f1) (by omega) (by omega), wrap_id (n := (rd_T32 t (b : Int)).f0 + (rd_T32 t (b : Int)).f1) (by omega) (by omega)]
          by_cases c3 : (rd_T32 t (i : Int)).f0 + (rd_T32 t (i : Int)).f1 < (rd_T32 t (b : Int)).f0 + (rd_T32 t (b : Int)).f1
          · exact ev_pos c3 (take ⟨c1, c2, fun b' hb' => by injection hb' with hb'; subst hb'; exact c3⟩)
          · exact ev_neg c3 (stay (fun h => c3 (h.2.2 b rfl)))
      · exact ev_neg c1 (stay (fun h => c1 h.1))
    · exact ev_neg (by simpa using c2) (stay (fun h => c2 h.2.1))
theorem rbits_ev (t : List Ln) (hv : vldP t) (nn : Bool) (n : Int) (hn : wf64 n) : Ev (fun k => incunableref04_Bits.f k t nn n) (match bitsR t nn n with | none => ([], false) | some b => (b, true)) := by
  unfold incunableref04_Bits.f
  exact rbits_loop t hv nn n hn t.length 0 (by omega)
theorem bitsR_len {t : List Ln} {nn : Bool} {n : Int} {b : List Int} (hv : vldP t) (h : bitsR t nn n = some b) : b.length ≤ 35 := by
  unfold bitsR at h
  cases hp : pick t nn n t.length with
  | none => rw [hp] at h; simp at h
  | some j =>
    rw [hp] at h
    simp only [Option.map_some, Option.some.injEq] at h
    have hb := pick_lt t nn n _ j hp
    have hbl := of_decide_eq_true (hv.2.1 _ (rdL_mem hb.1))
    have hlen : len t j = (rd_T32 t (j : Int)).f0 := rfl
    rw [← h, List.length_append, digs_len, digs_len]
    omega
end Go.Proofs.Ytnadgcdkcabdoaa.Cdb
