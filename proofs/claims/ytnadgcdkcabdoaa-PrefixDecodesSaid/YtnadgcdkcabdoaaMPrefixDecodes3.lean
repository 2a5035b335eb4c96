import Derived.Test.YtnadgcdkcabdoaaMPrefixDecodes2
import Derived.Test.YtnadgcdkcabdoaaMPrefixDecodes1
import Derived.Maps.OwnOps
import Derived.Maps.OwnSet
import Derived.DeepKeys3
import Derived.StillTailTactics
import Derived.Laws.ResultCell
import Derived.Laws.Strings
set_option linter.unusedVariables false
set_option linter.unusedSimpArgs false
namespace Go.Proofs.Ytnadgcdkcabdoaa.Cdy
open Go Go.RowKit Go.Proofs.YtnadgcdkcabdoaaW.PrintWords Go.Proofs.YtnadgcdkcabdoaaW.PrintLast Go.Proofs.YtnadgcdkcabdoaaW.PrintMore Go.Proofs.Ytnadgcdkcabdoaa.Aid Go.Proofs.Ytnadgcdkcabdoaa.U Go.Proofs.Ytnadgcdkcabdoaa.Tab Go.Proofs.Ytnadgcdkcabdoaa.Cdx
abbrev Cd := S84
/-- The code of line i, when the lines up to length L, and of L those in front of i, have theirs. -/
def cod (t : List Ln) (j : Nat) : Cd := ⟨cnum t j, len t j⟩
def outAt (t : List Ln) (L : Int) (i : Nat) : List Cd := (List.range t.length).map fun j => if len t j ≠ 0 ∧ (len t j < L ∨ (len t j = L ∧ j < i)) then cod t j else z84
theorem front_next {L : Int} : ∀ (t : List Ln) (n : Nat), t.length ≤ n → front L n t = front (L + 1) 0 t
  | [], _, _ => by simp [front]
  | x :: l, n, h => by
    have hn : l.length + 1 ≤ n := h
    simp only [front]
    rw [front_next l (n - 1) (by omega), show (0 : Nat) - 1 = 0 from rfl]
    congr 1
    by_cases c1 : x.f0 < L
    · rw [if_pos c1, if_pos (by omega)]
    · rw [if_neg c1]
      by_cases c2 : x.f0 = L
      · rw [if_pos c2, if_pos (by omega), if_pos (by omega)]
      · rw [if_neg c2, if_neg (by omega)]
        split <;> simp
theorem front_step {L : Int} : ∀ (t : List Ln) (i : Nat), i < t.length → front L (i + 1) t = front L i t + (if len t i = L then wS (rd_T32 t (i : Int)) else 0)
  | x :: l, 0, h => by
    have hx : rd_T32 (x :: l) ((0 : Nat) : Int) = x := rfl
    simp only [front, len, hx]
    by_cases c1 : x.f0 < L
    · rw [if_pos c1, if_pos c1, if_neg (by omega)]
      simp
    · rw [if_neg c1, if_neg c1]
      by_cases c2 : x.f0 = L
      · rw [if_pos c2, if_pos c2, if_pos c2]
        simp
        omega
      · rw [if_neg c2, if_neg c2, if_neg c2]
        simp
  | x :: l, i + 1, h => by
    have h1 : i < l.length := by simpa using h
    have hx : rd_T32 (x :: l) ((i + 1 : Nat) : Int) = rd_T32 l (i : Int) := by
      simp [rd_T32, List.getD_eq_getElem?_getD]
    have hs : front L (i + 1) l = front L i l + (if len l i = L then wS (rd_T32 l (i : Int)) else 0) := front_step l i h1
    simp only [front, len, hx, Nat.add_sub_cancel]
    rw [hs]
    simp only [len]
    rw [if_pos (show 0 < i + 1 + 1 by omega), if_pos (show 0 < i + 1 by omega), Int.add_assoc]
theorem front_one : ∀ (t : List Ln), (∀ x ∈ t, lineB x = true) → front 1 0 t = 0
  | [], _ => rfl
  | x :: l, h => by
    have hl := of_decide_eq_true (h x List.mem_cons_self)
    simp only [front]
    rw [show (0 : Nat) - 1 = 0 from rfl, front_one l (fun y hy => h y (List.mem_cons_of_mem _ hy))]
    by_cases c1 : x.f0 < 1
    · rw [if_pos c1, show wS x = 0 from if_pos (by omega)]
      rfl
    · rw [if_neg c1]
      split <;> simp
theorem outAt_len (t : List Ln) (L : Int) (i : Nat) : (outAt t L i).length = t.length := by simp [outAt]
theorem outAt_next (t : List Ln) (L : Int) (n : Nat) (h : t.length ≤ n) : outAt t L n = outAt t (L + 1) 0 := by
  unfold outAt
  refine List.map_congr_left fun j hj => ?_
  have := List.mem_range.1 hj
  by_cases c : len t j ≠ 0 ∧ (len t j < L ∨ (len t j = L ∧ j < n))
  · rw [if_pos c, if_pos ⟨c.1, .inl (by omega)⟩]
  · rw [if_neg c, if_neg (by omega)]
theorem pow_half {m : Nat} (h : 1 ≤ m) : (2 : Int) ^ m = 2 * 2 ^ (m - 1) := by
  obtain ⟨k, rfl⟩ : ∃ k, m = k + 1 := ⟨m - 1, by omega⟩
  rw [Nat.add_sub_cancel, Int.pow_succ, Int.mul_comm]
mutual
theorem codes_l0 (t : List Ln) (hv : vldP t) : ∀ (e : Nat) (L : Nat) (c p : Int), L + e = 16 → 1 ≤ L → (L ≤ 15 → p = L - 1 ∧ 2 * c * 2 ^ (15 - L) = front (L : Int) 0 t ∨ p = L ∧ c * 2 ^ (15 - L) = front (L : Int) 0 t) → 0 ≤ c → 1 ≤ p →
    Ev (fun k => prefix_codes.l0 k t (outAt t L 0) (L : Int) c p) (outAt t 16 0)
  | 0, L, c, p, hL, h1, hc, h0, hp => by
    refine ev_succ ?_
    simp only [prefix_codes.l0]
    refine ev_eq (ev_neg (by omega) (Ev.now _)) ?_
    rw [show (L : Int) = 16 by omega]
  | e + 1, L, c, p, hL, h1, hc, h0, hp => by
    have hF := front_range (L := (L : Int)) t 0 hv.2.1
    have hS := hv.2.2.2.2
    have hpw := pow15 (15 - L) (by omega)
    replace hc := hc (by omega)
    have hp1 : (L : Int) - p = 0 ∨ (L : Int) - p = 1 := by omega
    refine ev_succ ?_
    simp only [prefix_codes.l0]
    rw [wrap_id (n := (L : Int) - p) (by omega) (by omega)]
    refine ev_pos (by omega) (ev_pos (by omega) ?_)
    rcases hc with ⟨hp2, hc⟩ | ⟨hp2, hc⟩
    · have hc2 : 2 * c ≤ 32768 := by
        have : 2 * c * 1 ≤ 2 * c * 2 ^ (15 - L) := Int.mul_le_mul_of_nonneg_left hpw.1 (by omega)
        omega
      have hsh : shl .i64 c ((L : Int) - p) = 2 * c := by
        rw [show (L : Int) - p = 1 by omega]
        show IntKind.i64.wrap (c * 2 ^ 1) = 2 * c
        rw [i64_w, wrap_id (by omega) (by omega)]
        omega
      rw [hsh]
      exact codes_l1 t hv e L t.length 0 (2 * c) (by omega) h1 (by omega) (by simpa using hc) (by omega)
    · have hc2 : c ≤ 32768 := by
        have : c * 1 ≤ c * 2 ^ (15 - L) := Int.mul_le_mul_of_nonneg_left hpw.1 (by omega)
        omega
      have hsh : shl .i64 c ((L : Int) - p) = c := by
        rw [show (L : Int) - p = 0 by omega]
        show IntKind.i64.wrap (c * 2 ^ 0) = c
        rw [i64_w, wrap_id (by omega) (by omega)]
        omega
      rw [hsh]
      exact codes_l1 t hv e L t.length 0 c (by omega) h1 (by omega) (by simpa using hc) (by omega)
termination_by e _ _ _ _ _ _ _ => (e, 0)
theorem codes_l1 (t : List Ln) (hv : vldP t) : ∀ (e : Nat) (L : Nat) (d i : Nat) (c : Int), L + e = 15 → 1 ≤ L → i + d = t.length → c * 2 ^ (15 - L) = front (L : Int) i t → 0 ≤ c →
    Ev (fun k => prefix_codes.l1 k t (outAt t L i) (L : Int) t (t.length : Int) (i : Int) c (L : Int)) (outAt t 16 0)
  | e, L, 0, i, c, hL, h1, hd, hc, h0 => by
    have hF := front_range (L := (L : Int)) t i hv.2.1
    have hS := hv.2.2.2.2
    have ht := hv.1
    refine ev_succ ?_
    simp only [prefix_codes.l1]
    rw [wrap_id (n := (L : Int) + 1) (by omega) (by omega), outAt_next t L i (by omega), show (L : Int) + 1 = ((L + 1 : Nat) : Int) by omega]
    refine ev_neg (by omega) (codes_l0 t hv e (L + 1) c L (by omega) (by omega) ?_ h0 (by omega))
    intro hL15
    left
    refine ⟨by omega, ?_⟩
    have h2 := front_next (L := (L : Int)) t i (by omega)
    rw [pow_half (m := 15 - L) (by omega)] at hc
    rw [show ((L + 1 : Nat) : Int) = (L : Int) + 1 by omega, ← h2, ← hc, show 15 - (L + 1) = 15 - L - 1 by omega, Int.mul_comm 2 c, Int.mul_assoc]
  | e, L, d + 1, i, c, hL, h1, hd, hc, h0 => by
    have hi : i < t.length := by omega
    have hl := hv.2.1 _ (rdL_mem hi)
    have hl2 := of_decide_eq_true hl
    have ht := hv.1
    have hS := hv.2.2.2.2
    have hF := front_range (L := (L : Int)) t (i + 1) hv.2.1
    have hpw := pow15 (15 - L) (by omega)
    have hst := front_step (L := (L : Int)) t i hi
    have hlen : len t i = (rd_T32 t (i : Int)).f0 := rfl
    refine ev_succ ?_
    simp only [prefix_codes.l1]
    rw [wrap_id (n := (i : Int) + 1) (by omega) (by omega), outAt_len]
    refine ev_pos (by omega) (ev_pos (by omega) (ev_pos (by omega) ?_))
    by_cases cL : (rd_T32 t (i : Int)).f0 = (L : Int)
    · have hwe : wS (rd_T32 t (i : Int)) = 2 ^ (15 - L) := by
        unfold wS
        rw [if_neg (by omega), cL, show (15 - (L : Int)).toNat = 15 - L by omega]
      rw [hlen, if_pos cL, hwe, ← hc] at hst
      have hc2 : c ≤ 32768 := by
        have : c * 1 ≤ c * 2 ^ (15 - L) := Int.mul_le_mul_of_nonneg_left hpw.1 (by omega)
        omega
      refine ev_pos cL (ev_pos (by omega) ?_)
      rw [wrap_id (n := c + 1) (by omega) (by omega), Int.toNat_natCast]
      have hset : (outAt t L i).set i ⟨c, (L : Int)⟩ = outAt t L (i + 1) := by
        unfold outAt
        apply List.ext_getElem
        · simp
        intro j hj1 hj2
        simp at hj1 hj2
        rw [List.getElem_set]
        simp only [List.getElem_map, List.getElem_range]
        by_cases ej : i = j
        · subst ej
          rw [if_pos rfl, if_pos ⟨by omega, .inr ⟨by omega, by omega⟩⟩]
          unfold cod cnum
          rw [hlen, cL, show (15 - (L : Int)).toNat = 15 - L by omega, ← hc, Int.mul_ediv_cancel _ (by have := hpw.1; omega)]
        · rw [if_neg ej]
          by_cases cj : len t j ≠ 0 ∧ (len t j < L ∨ (len t j = L ∧ j < i))
          · rw [if_pos cj, if_pos ⟨cj.1, by omega⟩]
          · rw [if_neg cj, if_neg (by omega)]
      rw [hset]
      exact codes_l1 t hv e L d (i + 1) (c + 1) hL h1 (by omega) (by rw [hst, Int.add_mul]; omega) (by omega)
    · rw [hlen, if_neg cL, Int.add_zero, ← hc] at hst
      refine ev_neg cL ?_
      have hset : outAt t L i = outAt t L (i + 1) := by
        unfold outAt
        refine List.map_congr_left fun j hj => ?_
        by_cases cj : len t j ≠ 0 ∧ (len t j < L ∨ (len t j = L ∧ j < i))
        · rw [if_pos cj, if_pos ⟨cj.1, by omega⟩]
        · rw [if_neg cj, if_neg (fun hn => cj ⟨hn.1, by
            rcases hn.2 with h | ⟨h, h'⟩
            · exact .inl h
            · rcases Nat.lt_or_ge j i with h'' | h''
              · exact .inr ⟨h, h''⟩
              · have : j = i := by omega
                subst this
                exact absurd h cL⟩)]
      rw [hset]
      exact codes_l1 t hv e L d (i + 1) c hL h1 (by omega) hst.symm h0
termination_by e _ d _ _ _ _ _ _ _ => (e, d + 1)
end
end Go.Proofs.Ytnadgcdkcabdoaa.Cdy
namespace Go.Proofs.Ytnadgcdkcabdoaa.Cdz
open Go Go.RowKit Go.Proofs.YtnadgcdkcabdoaaW.PrintWords Go.Proofs.YtnadgcdkcabdoaaW.PrintLast Go.Proofs.YtnadgcdkcabdoaaW.PrintMore Go.Proofs.Ytnadgcdkcabdoaa.Aid Go.Proofs.Ytnadgcdkcabdoaa.U Go.Proofs.Ytnadgcdkcabdoaa.Tab Go.Proofs.Ytnadgcdkcabdoaa.Cdx Go.Proofs.Ytnadgcdkcabdoaa.Cdy
/-- The codes of all lines. -/
def codesL (t : List Ln) : List Cd := outAt t 16 0
theorem codes_ev (t : List Ln) (hv : vldP t) : Ev (fun k => prefix_codes.f k t) (codesL t) := by
  have ht := hv.1
  unfold prefix_codes.f
  refine ev_pos (by omega) (ev_pos (by rw [Int.toNat_natCast]; omega) ?_)
  rw [Int.toNat_natCast]
  have h := codes_l0 t hv 15 1 0 1 (by omega) (by omega) (fun _ => .inr ⟨rfl, by rw [show ((1 : Nat) : Int) = 1 from rfl, front_one t hv.2.1]; simp⟩) (by omega) (by omega)
  have e : outAt t 1 0 = List.replicate t.length z84 := by
    rw [List.eq_replicate_iff]
    refine ⟨by simp [outAt], fun b hb => ?_⟩
    obtain ⟨j, hj, rfl⟩ := List.mem_map.1 hb
    have hl := of_decide_eq_true (hv.2.1 _ (rdL_mem (List.mem_range.1 hj)))
    have hlen : len t j = (rd_T32 t (j : Int)).f0 := rfl
    rw [if_neg (by omega)]
  rw [show ((1 : Nat) : Int) = 1 from rfl, e] at h
  exact h
theorem codesL_len (t : List Ln) : (codesL t).length = t.length := outAt_len t 16 0
theorem codesL_at (t : List Ln) (hv : vldP t) (i : Nat) (hi : i < t.length) : rd_T84 (codesL t) (i : Int) = if len t i = 0 then z84 else cod t i := by
  have hl := of_decide_eq_true (hv.2.1 _ (rdL_mem hi))
  have hlen : len t i = (rd_T32 t (i : Int)).f0 := rfl
  have h1 : rd_T84 (codesL t) (i : Int) = (codesL t)[i]'(by rw [codesL_len]; exact hi) := by
    unfold rd_T84
    rw [Int.toNat_natCast, List.getD_eq_getElem?_getD, List.getElem?_eq_getElem (by rw [codesL_len]; exact hi)]
    rfl
  rw [h1]
  simp only [codesL, outAt, List.getElem_map, List.getElem_range]
  by_cases c : len t i = 0
  · rw [if_pos c, if_neg (fun h => h.1 c)]
  · rw [if_neg c, if_pos ⟨c, .inl (by omega)⟩]
def enc (o : Option Nat) : Int := match o with | none => -1 | some b => (b : Int)
end Go.Proofs.Ytnadgcdkcabdoaa.Cdz
namespace Go.Proofs.Ytnadgcdkcabdoaa.Rdp
open Go Go.RowKit Go.Proofs.YtnadgcdkcabdoaaW.PrintWords Go.Proofs.YtnadgcdkcabdoaaW.PrintLast Go.Proofs.YtnadgcdkcabdoaaW.PrintMore Go.Proofs.Ytnadgcdkcabdoaa.Aid Go.Proofs.Ytnadgcdkcabdoaa.HandAid
/-- A reader at block g of W: its bytes, and how many bits are read. -/
def IsRdr (W : World) (g : Nat) (b : List Int) (at' : Int) : Prop := ∃ v, W.heap[g]? = some (.cells #[v, .int .i64 at', .bool true] 114 (0, 0)) ∧ Kd.R (Kd.int .u8) 5 W 0 (fun _ => True) v b
theorem none_cell (w : World) (g : Nat) (real : Bool) (h2 : w.cell? ⟨g, 2, none⟩ = some (.bool real)) : Calls Try.prog 68 #[.pointer (some ⟨g, 0, none⟩)] w fun e w' => e = .returned (.bool (!real)) ∧ w = w' := by
  go_enter Try.func68, Try.ntmps68
  go_wp2
  go_ret
  exact ⟨rfl, rfl⟩
theorem left_real (w : World) (g : Nat) (A : Option Addr) (n c : Nat) (at' : Int) (h0 : w.cell? ⟨g, 0, none⟩ = some (.slice A n c)) (h1 : w.cell? ⟨g, 1, none⟩ = some (.int .i64 at')) (h2 : w.cell? ⟨g, 2, none⟩ = some (.bool true)) (hn : n ≤ 140737488355328) (ha : 0 ≤ at') (hb : at' ≤ 1125899906842624) :
    Calls Try.prog 75 #[.pointer (some ⟨g, 0, none⟩)] w fun e w' => e = .returned (.int .i64 (8 * (n : Int) - at')) ∧ ∃ m, w' = w.drewN m := by
  go_enter Try.func75, Try.ntmps75
  go_wp2_with (go_at_call 68; refine (none_cell _ _ _ h2).mono ?_; rintro e w' ⟨rfl, rfl⟩)
  go_quiet (fail)
  go_wp2
  go_ret
  exact ⟨rfl, _, rfl⟩
/-- The number that the bits from a place on are. -/
def bitsAt (b : List Int) (i : Int) : Nat → Int
  | 0 => 0
  | d + 1 => 2 * bitsAt b i d + bitOf b (i + d)
theorem bitsAt_range (b : List Int) (i : Int) : ∀ d : Nat, 0 ≤ bitsAt b i d ∧ bitsAt b i d < 2 ^ d
  | 0 => by simp [bitsAt]
  | d + 1 => by
    have := bitsAt_range b i d
    have h := bitOf_range b (i + d)
    rw [Int.pow_succ]
    unfold bitsAt
    omega
theorem bits_real (n : Int) (w : World) (g : Nat) (b : List Int) (at' : Int) (h : IsRdr w g b at') (hb : Bytes b) (hn0 : 0 ≤ n) (hn1 : n ≤ 32) (hl : b.length ≤ 140737488355328) (ha : 0 ≤ at') (hfit : at' + n ≤ 8 * b.length) :
    Calls Try.prog 67 #[.pointer (some ⟨g, 0, none⟩), .int .i64 n] w fun e w' => e = .returned (.tuple #[.int .i64 (bitsAt b at' n.toNat), .int .i64 0]) ∧ IsRdr w' g b (at' + n) ∧ w.grownBy w' (some g) := by
  obtain ⟨v, hblk, hR⟩ := h
  obtain ⟨A, c, rfl⟩ := Kd.R_slice hR
  have h0 : w.cell? ⟨g, 0, none⟩ = some (.slice A b.length c) := (blk_cell hblk 0).trans rfl
  have h1 : w.cell? ⟨g, 1, none⟩ = some (.int .i64 at') := (blk_cell hblk 1).trans rfl
  have h2 : w.cell? ⟨g, 2, none⟩ = some (.bool true) := (blk_cell hblk 2).trans rfl
  have hn2 : ¬ n < 0 := by omega
  have hn3 : ¬ n > 32 := by omega
  have hn4 : ¬ n > 8 * (b.length : Int) - at' := by omega
  have HBLK := Aside0.mk hblk
  clear hblk
  go_enter Try.func67, Try.ntmps67
  go_wp2_with (first | (go_at_call 68; refine (none_cell _ _ _ h2).mono ?_; rintro e w' ⟨rfl, rfl⟩) | (go_at_call 75; refine (left_real _ _ _ _ _ _ h0 h1 h2 hl ha (by omega)).mono ?_; rintro e w1 ⟨rfl, m, rfl⟩))
  go_loopw [6, 23] (fun x i wr => ∃ j : Nat, (j : Int) ≤ n ∧ x = .int .i64 (bitsAt b at' j) ∧ i = .int .i64 j ∧ Aside0 (wr.heap[g]? = some (.cells #[.slice A b.length c, .int .i64 (at' + j), .bool true] 114 (0, 0))) ∧ Aside0 (Kd.R (Kd.int .u8) 5 wr 0 (fun _ => True) (.slice A b.length c) b) ∧ Aside0 (w.grownBy wr (some g))) (fun _ i _ => (n - intOf i).toNat)
  case atStart => exact ⟨0, by omega, rfl, rfl, ⟨by simpa using HBLK.out⟩, ⟨Kd.R_drewN hR m⟩, ⟨rfl, rfl, rfl, Nat.le_refl _, fun _ _ _ => rfl⟩⟩
  case round =>
    obtain ⟨j, hj, rfl, rfl, hq, hR', hg⟩ := hrel
    by_cases hlt : (j : Int) < n
    · have q0 : wr.cell? ⟨g, 0, none⟩ = some (.slice A b.length c) := (blk_cell hq.out 0).trans rfl
      have q1 : wr.cell? ⟨g, 1, none⟩ = some (.int .i64 (at' + j)) := (blk_cell hq.out 1).trans rfl
      obtain ⟨ad, rfl, hd⟩ := Kd.at_int (Kd.R_reads' hR'.out).2.2 ((at' + j) / 8) (by omega) (by omega)
      have hbr := bytes_rdI hb (i := (at' + j) / 8) (by omega) (by omega)
      have hx := bitsAt_range b at' j
      have hp : (2 : Int) ^ j ≤ 2 ^ 32 := by
        have : j ≤ 32 := by omega
        exact_mod_cast Nat.pow_le_pow_right (by omega) this
      have hfz := blk_frozen hq.out 1
      have hbo := bitOf_range b (at' + j)
      have he : Go.bits .and .u8 (rd b ((at' + j) / 8) / 2 ^ (7 - (at' + j) % 8).toNat) 1 = bitOf b (at' + j) := and_one (Int.ediv_nonneg hbr.1 (Int.pow_nonneg (by decide))) (Int.lt_of_le_of_lt (Int.ediv_le_self _ hbr.1) (by omega))
      go_wp2
      go_quiet (fail)
      go_wp2
      go_roundw
      case rel =>
        refine ⟨j + 1, by omega, ?_, by go_num, ⟨?_⟩, ⟨?_⟩, ⟨?_⟩⟩
        · rfl
        · rw [show (at' + ((j + 1 : Nat) : Int)) = at' + j + 1 by omega]
          simpa using blk_set (w := wr.drewN nq) hq.out 1 (.int .i64 (at' + j + 1))
        · exact Kd.R_set hR'.out hq.out (by decide) _ _
        · exact grown_set (grown_drewN hg.out nq)
      case measure => simp [intOf]; omega
    · have hj' : n = (j : Int) := by omega
      subst hj'
      go_wp2
      go_ret2
      exact ⟨ret2_int (by simp) rfl, ⟨_, hq.out, hR'.out⟩, hg.out⟩
theorem bits_end (n : Int) (w : World) (g : Nat) (b : List Int) (at' : Int) (h : IsRdr w g b at') (hn0 : 0 ≤ n) (hn1 : n ≤ 32) (hl : b.length ≤ 140737488355328) (ha : 0 ≤ at') (ha2 : at' ≤ 8 * b.length) (hfit : 8 * b.length < at' + n) :
    Calls Try.prog 67 #[.pointer (some ⟨g, 0, none⟩), .int .i64 n] w fun e w' => e = .returned (.tuple #[.int .i64 0, .int .i64 6]) ∧ ∃ m, w' = w.drewN m := by
  obtain ⟨v, hblk, hR⟩ := h
  obtain ⟨A, c, rfl⟩ := Kd.R_slice hR
  have h0 : w.cell? ⟨g, 0, none⟩ = some (.slice A b.length c) := (blk_cell hblk 0).trans rfl
  have h1 : w.cell? ⟨g, 1, none⟩ = some (.int .i64 at') := (blk_cell hblk 1).trans rfl
  have h2 : w.cell? ⟨g, 2, none⟩ = some (.bool true) := (blk_cell hblk 2).trans rfl
  have hn2 : ¬ n < 0 := by omega
  have hn3 : ¬ n > 32 := by omega
  have hn4 : n > 8 * (b.length : Int) - at' := by omega
  go_enter Try.func67, Try.ntmps67
  go_wp2_with (first | (go_at_call 68; refine (none_cell _ _ _ h2).mono ?_; rintro e w' ⟨rfl, rfl⟩) | (go_at_call 75; refine (left_real _ _ _ _ _ _ h0 h1 h2 hl ha (by omega)).mono ?_; rintro e w1 ⟨rfl, m, rfl⟩))
  go_ret2
  exact ⟨rfl, _, rfl⟩
theorem at_real (w : World) (g : Nat) (at' : Int) (h1 : w.cell? ⟨g, 1, none⟩ = some (.int .i64 at')) (h2 : w.cell? ⟨g, 2, none⟩ = some (.bool true)) : Calls Try.prog 60 #[.pointer (some ⟨g, 0, none⟩)] w fun e w' => e = .returned (.int .i64 at') ∧ w = w' := by
  go_enter Try.func60, Try.ntmps60
  go_wp2_with (go_at_call 68; refine (none_cell _ _ _ h2).mono ?_; rintro e w' ⟨rfl, rfl⟩)
  go_ret
  exact ⟨rfl, rfl⟩
theorem new_reader (A0 : Option Addr) (c0 : Nat) (l0 : List Int) (w : World) (hr0 : Kd.C (Kd.int .u8) w A0 l0.length l0) (hc0 : l0.length ≤ c0) (hl : l0.length ≤ 140737488355328) :
    Calls Try.prog 66 #[.slice A0 l0.length c0] w fun e w' => ∃ g, e = .returned (.pointer (some ⟨g, 0, none⟩)) ∧ w.heap.size ≤ g ∧ IsRdr w' g l0 0 ∧ Below w.heap.size w w' := by
  have HR0 := Aside0.mk hr0
  have HC0 := Aside0.mk hc0
  clear hr0 hc0
  have HB := Aside0.mk (Below.refl w.heap.size w)
  go_enter Try.func66, Try.ntmps66
  go_wp2_with (first | ((with_reducible refine gate_dst (N := 3) rfl ?_); refine Kd.R_lit (Kd.int .u8) _ 5 ?hg (N := 3) ?hd (xs := ([] : List Int)) (inner := []) (ok := fun _ => True) (okp := fun _ => True) ?hr ?hp (fun _ hk => hk) trivial (Below.refl _ _) (Nat.le_refl _) (by simp) ?_; (case hd => rfl); (case hg => rfl); (case hr => first | (go_simp; done) | (go_simp; rfl)); (case hp => exact (Reps.none _ _)); intro v140 w3 ho4 hb hg_ hnew_; clear hg_ hnew_; have HO := Aside0.mk (Kd.R_lower ho4 (Nat.le_refl _)); have HB1 := Aside0.mk hb; clear hb ho4) | ((with_reducible refine gate_builtin (b := .append) (xs := #[.tmp 3, .tmp 4]) rfl ?_); at_builtin; refine Kd.R_append_rows (Kd.int .u8) (w0 := w) w.heap.size rfl (.tmp 3) (.tmp 4) 46 5 (.int .u8 0) 1 rfl Try.underlying46 infoU8 rfl (by decide) (by omega) v140 ([] : List Int) l0 _ _ _ (fun _ => True) (fun _ => False) rfl rfl ?aO ?aR (fun _ _ h => h) (fun _ h => h.elim) (fun _ _ => trivial) ?aB ?aS ?aL ?_; (case aR => exact Kd.C_below HR0.out HB1.out); (case aB => exact HB1.out); (case aO => exact HO.out); (case aS => exact HB1.out.size); (case aL => have hz : ([] : List Int).length = 0 := rfl; omega); intro v143 w5 ho hb hg hat; obtain ⟨A1, c1, rfl⟩ := Kd.R_slice ho; have HO2 := Aside0.mk ho; have HB2 := Aside0.mk hb; clear ho hb hg hat HO HB1))
  go_ret
  exact ⟨_, rfl, HB2.out.size, ⟨_, by simpa using heap_alloc_new _ _, Kd.R_lower (Kd.R_alloc HO2.out _) (Nat.zero_le _)⟩, below_alloc HB2.out _⟩
theorem IsRdr.drewN {W : World} {g : Nat} {b : List Int} {at' : Int} (h : IsRdr W g b at') (m : Nat) : IsRdr (W.drewN m) g b at' := by
  obtain ⟨v, hblk, hR⟩ := h
  exact ⟨v, hblk, Kd.R_drewN hR m⟩
theorem IsRdr.below {W W' : World} {g : Nat} {b : List Int} {at' : Int} (h : IsRdr W g b at') (hB : Below W.heap.size W W') : IsRdr W' g b at' := by
  obtain ⟨v, hblk, hR⟩ := h
  exact ⟨v, (hB.block g (blk_lt hblk)).trans hblk, Kd.R_below hR hB⟩
theorem IsRdr.cells {W : World} {g : Nat} {b : List Int} {at' : Int} (h : IsRdr W g b at') : ∃ A c, W.cell? ⟨g, 0, none⟩ = some (.slice A b.length c) ∧ W.cell? ⟨g, 1, none⟩ = some (.int .i64 at') ∧ W.cell? ⟨g, 2, none⟩ = some (.bool true) := by
  obtain ⟨v, hblk, hR⟩ := h
  obtain ⟨A, c, rfl⟩ := Kd.R_slice hR
  exact ⟨A, c, (blk_cell hblk 0).trans rfl, (blk_cell hblk 1).trans rfl, (blk_cell hblk 2).trans rfl⟩
end Go.Proofs.Ytnadgcdkcabdoaa.Rdp
namespace Go.Proofs.Ytnadgcdkcabdoaa.Mpp
open Go Go.RowKit Go.Proofs.YtnadgcdkcabdoaaW.PrintWords Go.Proofs.YtnadgcdkcabdoaaW.PrintLast Go.Proofs.YtnadgcdkcabdoaaW.PrintMore Go.Proofs.Ytnadgcdkcabdoaa.Aid Go.Proofs.Ytnadgcdkcabdoaa.HandAid
/-- The key of bits and how many. -/
abbrev kv (v m : Int) : Value := .agg #[.int .i64 v, .int .i64 m]
theorem keyed : Maps.Keyed Try.prog 84 := Maps.Keyed.of_law (deep_law (m := 4) (by omega) (by kernel_rfl) (by kernel_rfl) (by kernel_rfl))
noncomputable def kl (v m : Int) : Lit := @Classical.epsilon Lit ⟨.bool true⟩ (fun l => keyOf Try.prog 84 (kv v m) = some l)
theorem wf64_of {v : Int} (h : -9223372036854775808 ≤ v ∧ v ≤ 9223372036854775807) : (Lit.int .i64 v).wf = true := by
  show (decide (IntKind.i64.min ≤ v) && decide (v ≤ IntKind.i64.max)) = true
  rw [show IntKind.i64.min = -9223372036854775808 from by decide, show IntKind.i64.max = 9223372036854775807 from by decide]
  simpa using h
theorem kl_key {v m : Int} (hv : (Lit.int .i64 v).wf = true) (hm : (Lit.int .i64 m).wf = true) : keyOf Try.prog 84 (kv v m) = some (kl v m) := by
  have h : ∃ l, keyOf Try.prog 84 (kv v m) = some l := by
    have hk : Try.prog.keyType 84 = true := by kernel_rfl
    have hu := Try.underlying84
    have hc : Try.prog.cellsOf 84 = 2 := by kernel_rfl
    have hci : Try.prog.cellsOf 3 = 1 := by kernel_rfl
    have hui := Try.underlying3
    have hf : (kv v m).formed Try.prog 84 = true := by
      simp [Value.formed, hu, hc]
    have hl : Try.prog.keyLits (Try.prog.types.size + 1) 84 (kv v m).cells.toList = some [.int .i64 v, .int .i64 m] := by
      obtain ⟨d, hd⟩ : ∃ d, Try.prog.types.size + 1 = d + 2 := ⟨Try.prog.types.size - 1, by have := of_decide_eq_true (show decide (1 ≤ Try.prog.types.size) = true by kernel_rfl); omega⟩
      rw [hd]
      simp [Program.keyLits, hu, hui, hc, hci, Value.cells, hv, hm]
    unfold keyOf
    rw [hu]
    simp only
    rw [hk, hf, hl]
    exact ⟨_, rfl⟩
  exact Classical.epsilon_spec h
theorem kl_inj {v m v' m' : Int} (hv : (Lit.int .i64 v).wf = true) (hm : (Lit.int .i64 m).wf = true) (hv' : (Lit.int .i64 v').wf = true) (hm' : (Lit.int .i64 m').wf = true) (h : kl v m = kl v' m') : v = v' ∧ m = m' := by
  have h1 := kl_key hv hm
  rw [h] at h1
  have h2 := keyed.inj h1 (kl_key hv' hm')
  injection h2 with h2
  have h3 := congrArg Array.toList h2
  simpa using h3
/-- Block b of w is a map, made here, that has at the keys (bits, how many) just the values that g tells. -/
def InMap (e : TypeId) (w : World) (b n : Nat) (g : Int → Int → Option Lit) : Prop :=
  ∃ D : DataW Unit, w.ownsMap Try.prog 84 (plainElem Try.prog e) b n D ∧ ∀ v m, (Lit.int .i64 v).wf = true → (Lit.int .i64 m).wf = true → ∀ zd, D.atKey (kl v m) zd = (match g v m with | none => zd | some x => .lit x)
theorem InMap.heap {e : TypeId} {w w' : World} {b n : Nat} {g : Int → Int → Option Lit} (h : InMap e w b n g) (hh : w'.heap[b]? = w.heap[b]?) : InMap e w' b n g := by
  obtain ⟨D, ⟨es, clock, hb, F, hs, hD⟩, ha⟩ := h
  exact ⟨D, ⟨es, clock, hh.trans hb, F, hs, hD⟩, ha⟩
theorem InMap.blk {e : TypeId} {w : World} {b n : Nat} {g : Int → Int → Option Lit} (h : InMap e w b n g) : ∃ es clock, w.heap[b]? = some (.map es clock) := by
  obtain ⟨D, ⟨es, clock, hb, F, hs, hD⟩, ha⟩ := h
  exact ⟨es, clock, hb⟩
theorem InMap.same {e : TypeId} {w : World} {b n : Nat} {g g' : Int → Int → Option Lit} (h : InMap e w b n g) (hg : ∀ v m, g v m = g' v m) : InMap e w b n g' := by
  obtain rfl : g = g' := funext fun v => funext fun m => hg v m
  exact h
theorem InMap.made (e : TypeId) (w : World) : InMap e (w.alloc (.map #[] 0)) w.heap.size 0 (fun _ _ => none) := by
  refine ⟨.map [], World.ownsMap_made w _ _ _, fun v m _ _ zd => ?_⟩
  rfl
theorem look {e t : TypeId} {w : World} {b n : Nat} {g : Int → Int → Option Lit} (h : InMap e w b n g) (ht : Try.prog.underlying t = some (.map 84 e)) {z : Value} (hz : ∀ w : World, (zeroValue e).run Try.prog w = .ok z w) {v m : Int} (hv : (Lit.int .i64 v).wf = true) (hm : (Lit.int .i64 m).wf = true) (c : Bool) :
    (g v m = none ∧ (Instr.lookup t (.map (some b)) (kv v m) c).run Try.prog w = .ok (if c then .tuple #[z, .bool false] else z) w) ∨
    ∃ x val ps, g v m = some x ∧ plainElem (H := Unit) Try.prog e val = some (.lit x, ps) ∧ (Instr.lookup t (.map (some b)) (kv v m) c).run Try.prog w = .ok (if c then .tuple #[val, .bool true] else val) w := by
  obtain ⟨D, ⟨es, clock, hb, F, hs, rfl⟩, ha⟩ := h
  have hat := ha v m hv hm
  rcases Maps.fit_look c keyed ht (hz w) hb F (kl_key hv hm) with ⟨hrun, _, hat2⟩ | ⟨e0, y, _, _, hrun, hRv, hat2, _⟩
  · refine .inl ⟨?_, hrun⟩
    have h1 := hat2 .nil
    rw [hat .nil] at h1
    cases hg : g v m with
    | none => rfl
    | some x => rw [hg] at h1; cases h1
  · refine .inr ?_
    cases hg : g v m with
    | none =>
      have h1 := hat2 .nil
      have h2 := hat2 (.lit (.bool true))
      rw [hat, hg] at h1
      rw [hat, hg, ← h1] at h2
      cases h2
    | some x =>
      have h1 := hat2 .nil
      rw [hat, hg] at h1
      obtain ⟨y1, y2⟩ := y
      simp only at h1
      subst h1
      exact ⟨x, e0.val, y2, rfl, hRv, hrun⟩
theorem store {e t : TypeId} {w : World} {b n : Nat} {g : Int → Int → Option Lit} (h : InMap e w b n g) (ht : Try.prog.underlying t = some (.map 84 e)) (hn : n < maxLen) {v m : Int} (hv : (Lit.int .i64 v).wf = true) (hm : (Lit.int .i64 m).wf = true) {val : Value} {x : Lit} {ps : List MemPlace} (hval : plainElem (H := Unit) Try.prog e val = some (.lit x, ps)) :
    ∃ w', (Instr.mapUpdate t (.map (some b)) (kv v m) val).run Try.prog w = .ok () w' ∧ InMap e w' b (n + 1) (fun v' m' => if v' = v ∧ m' = m then some x else g v' m') ∧ w.grownBy w' (some b) := by
  obtain ⟨D, ho, ha⟩ := h
  obtain ⟨w', hrun, ho', hg⟩ := ho.update keyed ht hn (kl_key hv hm) hval
  have hmap : Maps.IsMap D := by
    obtain ⟨es, clock, hb, F, hs, rfl⟩ := ho
    exact ⟨_, rfl⟩
  have hkey := keyed.key (kl_key hv hm)
  refine ⟨w', hrun, ⟨_, ho', fun v' m' hv' hm' zd => ?_⟩, hg⟩
  simp only
  by_cases c : v' = v ∧ m' = m
  · obtain ⟨rfl, rfl⟩ := c
    rw [Maps.atKey_put_same hmap hkey, if_pos ⟨rfl, rfl⟩]
  · rw [Maps.atKey_put_other (fun e => c (kl_inj hv' hm' hv hm e)), ha v' m' hv' hm']
    rw [if_neg c]
end Go.Proofs.Ytnadgcdkcabdoaa.Mpp
namespace Go.Proofs.Ytnadgcdkcabdoaa.Dcm
open Go Go.RowKit Go.Proofs.YtnadgcdkcabdoaaW.PrintWords Go.Proofs.YtnadgcdkcabdoaaW.PrintLast Go.Proofs.YtnadgcdkcabdoaaW.PrintMore Go.Proofs.Ytnadgcdkcabdoaa.Aid Go.Proofs.Ytnadgcdkcabdoaa.HandAid Go.Proofs.Ytnadgcdkcabdoaa.U Go.Proofs.Ytnadgcdkcabdoaa.Tab Go.Proofs.Ytnadgcdkcabdoaa.Cdx Go.Proofs.Ytnadgcdkcabdoaa.Cdy Go.Proofs.Ytnadgcdkcabdoaa.Cdz Go.Proofs.Ytnadgcdkcabdoaa.Rdp Go.Proofs.Ytnadgcdkcabdoaa.Mpp
/-- The lines of the first codes. -/
def gW (t : List Ln) : Nat → Int → Int → Option Lit
  | 0 => fun _ _ => none
  | q + 1 => if len t q = 0 then gW t q else fun v m => if v = cnum t q ∧ m = len t q then some (.int .i64 (q : Int)) else gW t q v m
/-- The beginnings of a code of up to j digits, beside others. -/
def gI (c L : Int) (g : Int → Int → Option Lit) : Nat → Int → Int → Option Lit
  | 0 => g
  | j + 1 => fun v m => if v = c / 2 ^ (L - j).toNat ∧ m = (j : Int) then some (.bool true) else gI c L g j v m
/-- The beginnings of the first codes. -/
def gB (t : List Ln) : Nat → Int → Int → Option Lit
  | 0 => fun _ _ => none
  | q + 1 => if len t q = 0 then gB t q else gI (cnum t q) (len t q) (gB t q) (len t q).toNat
theorem map_off {e : TypeId} {w w' : World} {b n g : Nat} {f : Int → Int → Option Lit} (h : InMap e w b n f) (hg : w.grownBy w' (some g)) (hne : b ≠ g) : InMap e w' b n f := by
  obtain ⟨es, clock, hb⟩ := h.blk
  exact h.heap (hg.block b (Array.getElem?_eq_some_iff.1 hb).1 (fun e => hne (by injection e)))
theorem map_below {e : TypeId} {w w' : World} {b n : Nat} {f : Int → Int → Option Lit} (h : InMap e w b n f) (hB : Below w.heap.size w w') : InMap e w' b n f := by
  obtain ⟨es, clock, hb⟩ := h.blk
  exact h.heap (hB.block b (Array.getElem?_eq_some_iff.1 hb).1)
/-- A row of values that lead nowhere, beside a map that is written. -/
theorem R_map {α : Type} {d : Kd α} {e base b n : Nat} {et : TypeId} {w w1 : World} {ok : Nat → Prop} {v : Value} {xs : List α} {f : Int → Int → Option Lit} (h : d.R e w base ok v xs) (hE : d.E = []) (hm : InMap et w b n f) (hg : w.grownBy w1 (some b)) : d.R e w1 base ok v xs :=
  Kd.R_grown1 h hE hg (fun he => by
    obtain ⟨es, clock, hb⟩ := hm.blk
    obtain ⟨c, hc⟩ := Kd.R_typed h b he.symm
    rw [hb] at hc
    cases hc)
theorem blk_map {e : TypeId} {w w1 : World} {b n g : Nat} {f : Int → Int → Option Lit} {cs : Array Value} {t : TypeId} (h : w.heap[g]? = some (.cells cs t (0, 0))) (hm : InMap e w b n f) (hg : w.grownBy w1 (some b)) : w1.heap[g]? = some (.cells cs t (0, 0)) := by
  refine (hg.block g (Array.getElem?_eq_some_iff.1 h).1 (fun e => ?_)).trans h
  obtain ⟨es, clock, hb⟩ := hm.blk
  injection e with e
  rw [e, hb] at h
  cases h
theorem rdr_map {e : TypeId} {w w1 : World} {b n g : Nat} {f : Int → Int → Option Lit} {l : List Int} {a : Int} (h : IsRdr w g l a) (hm : InMap e w b n f) (hg : w.grownBy w1 (some b)) : IsRdr w1 g l a := by
  obtain ⟨v, hblk, hR⟩ := h
  exact ⟨v, blk_map hblk hm hg, R_map hR rfl hm hg⟩
theorem wpList_put {e t : TypeId} {w : World} {b n : Nat} {f : Int → Int → Option Lit} {ops : Array Oper} {rest : List Oper} {o : Oper} {a : Act} {Q : Exit → Act → World → Prop}
    (hg : o.guard = none) (hd : o.dst = none) (m x v : Operand) (hop : o.op = Op.mapUpdate t m x v) (ht : Try.prog.underlying t = some (.map 84 e)) (hm : a.eval m = .map (some b)) (h : InMap e w b n f) (hn : n < maxLen)
    (p q : Int) (hx : a.eval x = kv p q) (hp : (Lit.int .i64 p).wf = true) (hq : (Lit.int .i64 q).wf = true) (val : Value) (hv : a.eval v = val) (y : Lit) (ps : List MemPlace) (hval : plainElem (H := Unit) Try.prog e val = some (.lit y, ps))
    (hK : ∀ w', InMap e w' b (n + 1) (fun v' m' => if v' = p ∧ m' = q then some y else f v' m') → w.grownBy w' (some b) → wpList Try.prog ops Q rest a w') :
    wpList Try.prog ops Q (o :: rest) a w := by
  refine wpList_plain hg fun K' hK' => ?_
  obtain ⟨w', hrun, r1, r2⟩ := Mpp.store h ht hn hp hq hval
  unfold Oper.wp
  simp [execOp, hop, hm, hx, hv, hrun, Result.andThen]
  show K' (a.put o.dst undef) w'
  rw [hd]
  exact hK' _ _ (hK w' r1 r2)
theorem plain_int (n : Nat) (h : n ≤ 64) : plainElem (H := Unit) Try.prog 3 (.int .i64 (n : Int)) = some (.lit (.int .i64 (n : Int)), []) := plainElem_int Try.underlying3 (wf64_of (by omega))
theorem plain_true : plainElem (H := Unit) Try.prog 4 (.bool true) = some (.lit (.bool true), []) := plainElem_bool Try.underlying4 true
/-- What newReader's loop keeps. -/
structure St (w wr : World) (gx : Nat) (A : Option Addr) (c b1 b2 g : Nat) (Ac : Option Addr) (cc : Nat) (t : List Ln) (b : List Int) (q : Nat) (f : Int → Int → Option Lit) (n1 n2 : Nat) : Prop where
  obj : wr.heap[gx]? = some (.cells #[.slice A t.length c, .map (some b1), .map (some b2), .pointer (some ⟨g, 0, none⟩)] 100 (0, 0))
  m1 : InMap 3 wr b1 n1 (gW t q)
  m2 : InMap 4 wr b2 n2 f
  rdr : IsRdr wr g b 0
  row : Kd.R k84 84 wr 0 (fun _ => True) (.slice Ac t.length cc) (codesL t)
  bel : Below w.heap.size w wr
theorem St.below {w wr w1 : World} {gx : Nat} {A : Option Addr} {c b1 b2 g : Nat} {Ac : Option Addr} {cc : Nat} {t : List Ln} {b : List Int} {q : Nat} {f : Int → Int → Option Lit} {n1 n2 : Nat} (h : St w wr gx A c b1 b2 g Ac cc t b q f n1 n2) (hB : Below wr.heap.size wr w1) : St w w1 gx A c b1 b2 g Ac cc t b q f n1 n2 :=
  ⟨(hB.block gx (Array.getElem?_eq_some_iff.1 h.obj).1).trans h.obj, map_below h.m1 hB, map_below h.m2 hB, h.rdr.below hB, Kd.R_below h.row hB, below_then h.bel h.bel.size hB⟩
theorem St.put1 {w wr w1 : World} {gx : Nat} {A : Option Addr} {c b1 b2 g : Nat} {Ac : Option Addr} {cc : Nat} {t : List Ln} {b : List Int} {q q' : Nat} {f : Int → Int → Option Lit} {n1 n2 n1' : Nat} (h : St w wr gx A c b1 b2 g Ac cc t b q f n1 n2) (hne : b1 ≠ b2) (hb : w.heap.size ≤ b1) (hm : InMap 3 w1 b1 n1' (gW t q')) (hg : wr.grownBy w1 (some b1)) : St w w1 gx A c b1 b2 g Ac cc t b q' f n1' n2 :=
  ⟨blk_map h.obj h.m1 hg, hm, map_off h.m2 hg (fun e => hne e.symm), rdr_map h.rdr h.m1 hg, R_map h.row rfl h.m1 hg, below_grown1 h.bel h.bel.size hg hb⟩
theorem St.put2 {w wr w1 : World} {gx : Nat} {A : Option Addr} {c b1 b2 g : Nat} {Ac : Option Addr} {cc : Nat} {t : List Ln} {b : List Int} {q : Nat} {f f' : Int → Int → Option Lit} {n1 n2 n2' : Nat} (h : St w wr gx A c b1 b2 g Ac cc t b q f n1 n2) (hne : b1 ≠ b2) (hb : w.heap.size ≤ b2) (hm : InMap 4 w1 b2 n2' f') (hg : wr.grownBy w1 (some b2)) : St w w1 gx A c b1 b2 g Ac cc t b q f' n1 n2' :=
  ⟨blk_map h.obj h.m2 hg, map_off h.m1 hg hne, hm, rdr_map h.rdr h.m2 hg, R_map h.row rfl h.m2 hg, below_grown1 h.bel h.bel.size hg hb⟩
end Go.Proofs.Ytnadgcdkcabdoaa.Dcm
namespace Go.Proofs.Ytnadgcdkcabdoaa.Nrd
open Go Go.RowKit Go.Proofs.YtnadgcdkcabdoaaW.PrintWords Go.Proofs.YtnadgcdkcabdoaaW.PrintLast Go.Proofs.YtnadgcdkcabdoaaW.PrintMore Go.Proofs.Ytnadgcdkcabdoaa.Aid Go.Proofs.Ytnadgcdkcabdoaa.HandAid Go.Proofs.Ytnadgcdkcabdoaa.U Go.Proofs.Ytnadgcdkcabdoaa.Tab Go.Proofs.Ytnadgcdkcabdoaa.Cdx Go.Proofs.Ytnadgcdkcabdoaa.Cdy Go.Proofs.Ytnadgcdkcabdoaa.Cdz Go.Proofs.Ytnadgcdkcabdoaa.Rdp Go.Proofs.Ytnadgcdkcabdoaa.Mpp Go.Proofs.Ytnadgcdkcabdoaa.Dcm
/-- A new reader of numbers. -/
def Made (w w' : World) (gx : Nat) (A : Option Addr) (c : Nat) (t : List Ln) (b : List Int) : Prop := w.heap.size ≤ gx ∧ ∃ b1 b2 g Ac cc n1 n2, w.heap.size ≤ g ∧ St w w' gx A c b1 b2 g Ac cc t b t.length (gB t t.length) n1 n2
set_option maxHeartbeats 8000000 in
set_option maxRecDepth 100000 in
theorem newreader_calls (A : Option Addr) (c : Nat) (t : List Ln) (A2 : Option Addr) (c2 : Nat) (b : List Int) (w : World) (hv : vldP t) (hC : Kd.C k32 w A t.length t) (hc : t.length ≤ c) (hC2 : Kd.C (Kd.int .u8) w A2 b.length b) (hc2 : b.length ≤ c2) (hl : b.length ≤ 140737488355328) :
    Calls Try.prog 58 #[.slice A t.length c, .slice A2 b.length c2] w fun e w' => ∃ gx, e = .returned (.pointer (some ⟨gx, 0, none⟩)) ∧ Made w w' gx A c t b := by
  obtain ⟨K0, hcodes⟩ := Ev.rounds (codes_ev t hv)
  have HCO := Aside0.mk hcodes
  have HV := Aside0.mk hv
  have HC := Aside0.mk hC
  have HC2 := Aside0.mk hC2
  clear hcodes hv hC hC2
  have hum1 := Try.underlying96
  have hum2 := Try.underlying97
  have hmk1 : ∀ w : World, (Instr.makeMap 96 none).run Try.prog w = .ok (.map (some w.heap.size)) (w.alloc (.map #[] 0)) := fun w => run_makeMap _ w
  have hmk2 : ∀ w : World, (Instr.makeMap 97 none).run Try.prog w = .ok (.map (some w.heap.size)) (w.alloc (.map #[] 0)) := fun w => run_makeMap _ w
  have hu84 := Try.underlying84
  have hu100 := Try.underlying100
  go_enter Try.func58, Try.ntmps58
  go_wp2_with (first
    | (go_at_call 66; with_reducible refine (new_reader A2 c2 b _ (Kd.C_alloc (Kd.C_alloc HC2.out _) _) hc2 hl).mono ?_; rintro e w1 ⟨g, rfl, hg, hr1, hb1⟩; have HR1 := Aside0.mk hr1; have HG1 := Aside0.mk hg; have HB1 := Aside0.mk hb1; clear hr1 hb1 hg)
    | (go_at_call 49; with_reducible refine (prefix_codes.calls K0 A c t (codesL t) _ ?hs hc HCO.out).mono ?_; (case hs => exact Kd.C_below HC.out (below_alloc (below_then (below_alloc (below_alloc (Below.refl w.heap.size w) _) _) (by rw [World.size_alloc, World.size_alloc]; omega) HB1.out) _)); rintro e w2 ⟨v2, rfl, hr2, hb2⟩; obtain ⟨Ac, cc, rfl⟩ := Kd.R_slice hr2; have HR2 := Aside0.mk hr2; have HB2 := Aside0.mk hb2; clear hr2 hb2))
  have hsz : (w.alloc (.map #[] 0)).heap.size = w.heap.size + 1 := World.size_alloc _ _
  have hsz2 : ((w.alloc (.map #[] 0)).alloc (.map #[] 0)).heap.size = w.heap.size + 2 := by rw [World.size_alloc, hsz]
  obtain ⟨gx, hgx⟩ : ∃ gx, w1.heap.size = gx := ⟨_, rfl⟩
  obtain ⟨b1, hb1⟩ : ∃ b1, w.heap.size = b1 := ⟨_, rfl⟩
  have hgxlt : b1 + 2 ≤ gx := by rw [← hb1, ← hgx, ← hsz2]; exact HB1.out.size
  have hglt : b1 + 2 ≤ g := by rw [← hb1, ← hsz2]; exact HG1.out
  have HS0 : Aside0 (St w w2 gx A c b1 (b1 + 1) g Ac cc t b 0 (gB t 0) 0 0) := by
    refine ⟨⟨?_, ?_, ?_, ?_, (codesL_len t) ▸ Kd.R_lower HR2.out (Nat.zero_le _), ?_⟩⟩
    · exact (HB2.out.block gx (by rw [World.size_alloc, hgx]; omega)).trans (by rw [← hgx, ← hb1]; exact heap_new w1 _)
    · have h := map_below (map_below (map_below (map_below (InMap.made 3 w) (below_alloc (Below.refl _ _) (.map #[] 0))) HB1.out) (below_alloc (Below.refl _ _) (.cells #[.slice A t.length c, .map (some w.heap.size), .map (some (w.heap.size + 1)), .pointer (some ⟨g, 0, none⟩)] 100))) HB2.out
      rw [hb1] at h
      exact h
    · have h := map_below (map_below (map_below (InMap.made 4 (w.alloc (.map #[] 0))) HB1.out) (below_alloc (Below.refl _ _) (.cells #[.slice A t.length c, .map (some w.heap.size), .map (some (w.heap.size + 1)), .pointer (some ⟨g, 0, none⟩)] 100))) HB2.out
      rw [hsz, hb1] at h
      exact h
    · exact (HR1.out.below (below_alloc (Below.refl _ _) _)).below HB2.out
    · exact below_then (below_alloc (below_then (below_alloc (below_alloc (Below.refl w.heap.size w) _) _) (by rw [hsz2]; omega) HB1.out) _) (by rw [World.size_alloc, hgx, hb1]; omega) HB2.out
  clear HR1 HG1 HB1 HR2 HB2
  rw [codesL_len, hgx, hb1]
  clear hsz hsz2 hgx w1
  have hb1' : w.heap.size ≤ b1 := by omega
  have hb2' : w.heap.size ≤ b1 + 1 := by omega
  have hq1 : w.heap.size ≤ gx := by omega
  have hq2 : w.heap.size ≤ g := by omega
  clear hb1
  have hn64 := HV.out.1
  obtain ⟨N, hN⟩ : ∃ N, t.length = N := ⟨_, rfl⟩
  rw [hN]
  go_loopw [19] (fun x wr => ∃ q n1 n2 : Nat, q ≤ N ∧ x = .int .i64 q ∧ n1 ≤ q ∧ n2 ≤ 16 * q ∧ Aside0 (St w wr gx A c b1 (b1 + 1) g Ac cc t b q (gB t q) n1 n2)) (fun x _ => ((N : Int) - intOf x).toNat)
  case atStart => exact ⟨0, 0, 0, by omega, rfl, by omega, by omega, HS0⟩
  case round =>
    obtain ⟨q, n1, n2, hqN, rfl, hn1, hn2, HS⟩ := hrel
    by_cases hlt : (q : Int) < (N : Int)
    · have hq : q < t.length := by omega
      have hx := codesL_at t HV.out q hq
      obtain ⟨ad, hA, h0, h1⟩ := at_T84 (Kd.R_reads' HS.out.row).2.2 (q : Int) (by omega) (by rw [codesL_len]; omega)
      subst hA
      rw [hx] at h0 h1
      have hl := of_decide_eq_true (HV.out.2.1 _ (rdL_mem hq))
      have hlen : len t q = (rd_T32 t (q : Int)).f0 := rfl
      by_cases z : len t q = 0
      · rw [if_pos z] at h0 h1
        have e1 : gW t (q + 1) = gW t q := by simp only [gW]; exact if_pos z
        have e2 : gB t (q + 1) = gB t q := by simp only [gB]; exact if_pos z
        simp only [Int.toNat_natCast] at h0 h1
        rw [show z84.f0 = 0 from rfl] at h0
        rw [show z84.f1 = 0 from rfl] at h1
        clear hx
        go_wp2
        refine ⟨⟨q + 1, n1, n2, by omega, rfl, by omega, by omega, ⟨?_⟩⟩, ?_⟩
        · have h' := HS.out.below (below_alloc (Below.refl _ _) (.cells #[.int .i64 0, .int .i64 0] 84))
          exact ⟨h'.obj, by rw [e1]; exact h'.m1, by rw [e2]; exact h'.m2, h'.rdr, h'.row, h'.bel⟩
        · simp [intOf]; omega
      · rw [if_neg z] at h0 h1
        have e1 : gW t (q + 1) = fun v m => if v = cnum t q ∧ m = len t q then some (.int .i64 (q : Int)) else gW t q v m := by simp only [gW]; exact if_neg z
        have e2 : gB t (q + 1) = gI (cnum t q) (len t q) (gB t q) (len t q).toNat := by simp only [gB]; exact if_neg z
        have hcn : 0 ≤ cnum t q ∧ cnum t q ≤ 32768 := by
          have h1 := front_range (L := len t q) t q HV.out.2.1
          have h2 := HV.out.2.2.2.2
          have h3 := div_pos_le h1.1 (15 - len t q).toNat
          unfold cnum
          omega
        simp only [Int.toNat_natCast] at h0 h1
        rw [show (cod t q).f0 = cnum t q from rfl] at h0
        rw [show (cod t q).f1 = len t q from rfl] at h1
        obtain ⟨L, hL⟩ : ∃ L : Nat, len t q = L := ⟨(len t q).toNat, by omega⟩
        obtain ⟨C, hC⟩ : ∃ C, cnum t q = C := ⟨_, rfl⟩
        have hL1 : 1 ≤ L := by omega
        have hL2 : L ≤ 15 := by omega
        rw [hL] at h1 e1 e2
        rw [hC] at h0 e1 e2 hcn
        rw [Int.toNat_natCast] at e2
        have hz : ((L : Int) == 0) = false := by simpa using (show (L : Int) ≠ 0 by omega)
        clear hx hl hlen z hL hC
        go_wp2
        obtain ⟨gc, hgc⟩ : ∃ gc, wr.heap.size = gc := ⟨_, rfl⟩
        have HS1 := Aside0.mk (HS.out.below (below_alloc (Below.refl _ _) (.cells #[.int .i64 C, .int .i64 (L : Int)] 84)))
        have HC1 := Aside0.mk (show (wr.alloc (.cells #[.int .i64 C, .int .i64 (L : Int)] 84)).heap[gc]? = some (.cells #[.int .i64 C, .int .i64 (L : Int)] 84 (0, 0)) from hgc ▸ heap_new wr _)
        obtain ⟨W, hW⟩ : ∃ W, wr.alloc (.cells #[.int .i64 C, .int .i64 (L : Int)] 84) = W := ⟨_, rfl⟩
        rw [hW] at HS1 HC1 ⊢
        rw [hgc]
        clear HS hgc hW h0 h1
        have k0 : W.cell? ⟨gc, 0, none⟩ = some (.int .i64 C) := (blk_cell HC1.out 0).trans rfl
        have k1 : W.cell? ⟨gc, 1, none⟩ = some (.int .i64 (L : Int)) := (blk_cell HC1.out 1).trans rfl
        have x1 : W.cell? ⟨gx, 1, none⟩ = some (.map (some b1)) := (blk_cell HS1.out.obj 1).trans rfl
        go_still_tail 6, (by kernel_rfl)
        change wpList _ _ _ _ _ W.drew
        refine wpList_put rfl rfl (.tmp 30) (.tmp 31) (.tmp 32) rfl hum1 rfl (HS1.out.m1.heap (w' := W.drew) rfl) (Nat.lt_of_le_of_lt (show n1 ≤ 64 by omega) (by decide)) C L rfl (wf64_of (by omega)) (wf64_of (by omega)) _ rfl _ _ (plain_int q (by omega)) ?_
        intro W2 hm2 hg2
        have hg2' : W.grownBy W2 (some b1) := ⟨hg2.os, hg2.tape, hg2.output, hg2.size, hg2.block⟩
        have HC2' := Aside0.mk (blk_map HC1.out HS1.out.m1 hg2')
        have HS2 := Aside0.mk (HS1.out.put1 (q' := q + 1) (by omega) hb1' (e1 ▸ hm2) hg2')
        clear HS1 HC1 k0 k1 x1 hg2 hg2' hm2
        have k1 : W2.cell? ⟨gc, 1, none⟩ = some (.int .i64 (L : Int)) := (blk_cell HC2'.out 1).trans rfl
        go_wp2
        go_loopw [35] (fun x Wr => ∃ j m2 : Nat, j ≤ L ∧ x = .int .i64 j ∧ m2 ≤ 16 * q + j ∧ Aside0 (St w Wr gx A c b1 (b1 + 1) g (some ad) cc t b (q + 1) (gI C L (gB t q) j) (n1 + 1) m2) ∧ Aside0 (Wr.heap[gc]? = some (.cells #[.int .i64 C, .int .i64 (L : Int)] 84 (0, 0)))) (fun x _ => ((L : Int) - intOf x).toNat)
        case atStart => exact ⟨0, n2, by omega, rfl, by omega, HS2, HC2'⟩
        case round =>
          obtain ⟨j, m2, hj, rfl, hm2, HT, HCC⟩ := hrel
          by_cases hlt2 : (j : Int) < (L : Int)
          · have k0 : wr.cell? ⟨gc, 0, none⟩ = some (.int .i64 C) := (blk_cell HCC.out 0).trans rfl
            have k1 : wr.cell? ⟨gc, 1, none⟩ = some (.int .i64 (L : Int)) := (blk_cell HCC.out 1).trans rfl
            have x2 : wr.cell? ⟨gx, 2, none⟩ = some (.map (some (b1 + 1))) := (blk_cell HT.out.obj 2).trans rfl
            have hwr : IntKind.i64.wrap ((L : Int) - j) = (L : Int) - j := by rw [i64_w]; exact wrap_id (by omega) (by omega)
            have hng : ¬ ((L : Int) - j < 0) := by omega
            go_wp2
            go_still_tail 13, (by kernel_rfl)
            change wpList _ _ _ _ _ wr.drew
            have hmin : L - j = ((L : Int) - j).toNat := by omega
            have hdv : 0 ≤ C / 2 ^ ((L : Int) - j).toNat ∧ C / 2 ^ ((L : Int) - j).toNat ≤ 32768 := by
              have := div_pos_le hcn.1 ((L : Int) - j).toNat
              omega
            refine wpList_put rfl rfl (.tmp 41) (.tmp 50) (.const (.bool true)) rfl hum2 rfl (HT.out.m2.heap (w' := wr.drew) rfl) (Nat.lt_of_le_of_lt (show m2 ≤ 1040 by omega) (by decide)) (C / 2 ^ (L - j)) j rfl (wf64_of (by rw [hmin]; omega)) (wf64_of (by omega)) _ rfl _ _ plain_true ?_
            intro W3 hm3 hg3
            rw [hmin] at hm3
            have hg3' : wr.grownBy W3 (some (b1 + 1)) := ⟨hg3.os, hg3.tape, hg3.output, hg3.size, hg3.block⟩
            have HCC3 := Aside0.mk (blk_map HCC.out HT.out.m2 hg3')
            have HT3 := Aside0.mk (HT.out.put2 (f' := gI C L (gB t q) (j + 1)) (by omega) hb2' hm3 hg3')
            clear HT HCC k0 k1 x2 hg3 hg3' hm3
            go_wp2
            exact ⟨⟨j + 1, m2 + 1, by omega, rfl, by omega, HT3, HCC3⟩, by simp [intOf]; omega⟩
          · have ej : j = L := by omega
            rw [ej] at HT
            go_wp2
            refine ⟨⟨q + 1, n1 + 1, m2, by omega, rfl, by omega, by omega, ⟨?_⟩⟩, by simp [intOf]; omega⟩
            have h' := HT.out
            exact ⟨h'.obj, h'.m1, by rw [e2]; exact h'.m2, h'.rdr, h'.row, h'.bel⟩
    · have eq' : q = N := by omega
      subst eq'
      go_wp2
      go_ret
      subst hN
      exact ⟨gx, rfl, hq1, b1, b1 + 1, g, Ac, cc, n1, n2, hq2, HS.out⟩
end Go.Proofs.Ytnadgcdkcabdoaa.Nrd
namespace Go.Proofs.Ytnadgcdkcabdoaa.Nbr
open Go Go.RowKit Go.Proofs.YtnadgcdkcabdoaaW.PrintWords Go.Proofs.YtnadgcdkcabdoaaW.PrintLast Go.Proofs.YtnadgcdkcabdoaaW.PrintMore Go.Proofs.Ytnadgcdkcabdoaa.Aid Go.Proofs.Ytnadgcdkcabdoaa.HandAid Go.Proofs.Ytnadgcdkcabdoaa.U Go.Proofs.Ytnadgcdkcabdoaa.Tab Go.Proofs.Ytnadgcdkcabdoaa.Cdx Go.Proofs.Ytnadgcdkcabdoaa.Cdy Go.Proofs.Ytnadgcdkcabdoaa.Cdz Go.Proofs.Ytnadgcdkcabdoaa.Rdp Go.Proofs.Ytnadgcdkcabdoaa.Mpp Go.Proofs.Ytnadgcdkcabdoaa.Dcm
theorem gI_some (c L : Int) (g : Int → Int → Option Lit) (v m : Int) : ∀ j : Nat, (∀ x, g v m = some x → x = .bool true ∧ 0 ≤ m ∧ m < 15) → (j : Int) ≤ 15 → ∀ x, gI c L g j v m = some x → x = .bool true ∧ 0 ≤ m ∧ m < 15
  | 0, h, _, x, hx => h x hx
  | j + 1, h, hj, x, hx => by
    simp only [gI] at hx
    split at hx
    · rename_i c
      injection hx with hx
      exact ⟨hx.symm, by omega, by omega⟩
    · exact gI_some c L g v m j h (by omega) x hx
theorem gB_some (t : List Ln) (hv : vldP t) (v m : Int) : ∀ q, q ≤ t.length → ∀ x, gB t q v m = some x → x = .bool true ∧ 0 ≤ m ∧ m < 15
  | 0, _, x, hx => by simp [gB] at hx
  | q + 1, hq, x, hx => by
    have hl := of_decide_eq_true (hv.2.1 _ (rdL_mem (show q < t.length by omega)))
    have hlen : len t q = (rd_T32 t (q : Int)).f0 := rfl
    have ih := gB_some t hv v m q (by omega)
    simp only [gB] at hx
    split at hx
    · exact ih x hx
    · exact gI_some _ _ _ v m _ ih (by omega) x hx
theorem gW_some (t : List Ln) (hv : vldP t) (v m : Int) : ∀ q, q ≤ t.length → ∀ x, gW t q v m = some x → ∃ i : Nat, i < t.length ∧ x = .int .i64 (i : Int) ∧ len t i = m ∧ cnum t i = v ∧ len t i ≠ 0
  | 0, _, x, hx => by simp [gW] at hx
  | q + 1, hq, x, hx => by
    have ih := gW_some t hv v m q (by omega)
    simp only [gW] at hx
    split at hx
    · exact ih x hx
    · dsimp only at hx
      split at hx
      · rename_i c
        injection hx with hx
        exact ⟨q, by omega, hx.symm, c.2.symm, c.1.symm, by assumption⟩
      · exact ih x hx
/-- The number of a line at a place in its range. -/
def numAt (x : Ln) (d : Int) : Bool × Int := if x.f3 = 2 then (true, 0) else (false, if x.f3 = 1 then x.f2 - d else x.f2 + d)
/-- What number tells behind n bits of a code: the number, the error, the place behind. -/
def numG (t : List Ln) (b : List Int) (a : Int) : Nat → Nat → (Bool × Int) × Int × Int
  | 0, _ => ((false, 0), 3, 0)
  | f + 1, n => if (gB t t.length (bitsAt b a n) n).isSome then (if a + n + 1 ≤ 8 * b.length then numG t b a f (n + 1) else ((false, 0), 6, 0))
    else match gW t t.length (bitsAt b a n) n with
      | some (.int _ i) => if a + n + (rd_T32 t i).f1 ≤ 8 * b.length then (numAt (rd_T32 t i) (bitsAt b (a + n) (rd_T32 t i).f1.toNat), 0, a + n + (rd_T32 t i).f1) else ((false, 0), 6, 0)
      | _ => ((false, 0), 3, 0)
theorem grown_trans {a b c : World} {row : Option Nat} (h : a.grownBy b row) (k : b.grownBy c row) : a.grownBy c row :=
  ⟨k.os.trans h.os, k.tape.trans h.tape, k.output.trans h.output, Nat.le_trans h.size k.size, fun i hi hn => (k.block i (Nat.lt_of_lt_of_le hi h.size) hn).trans (h.block i hi hn)⟩
theorem grown_new {a b c : World} {row : Option Nat} {j : Nat} (h : a.grownBy b row) (k : b.grownBy c (some j)) (hj : a.heap.size ≤ j) : a.grownBy c row :=
  ⟨k.os.trans h.os, k.tape.trans h.tape, k.output.trans h.output, Nat.le_trans h.size k.size, fun i hi hn => (k.block i (Nat.lt_of_lt_of_le hi h.size) (fun e => by injection e with e; omega)).trans (h.block i hi hn)⟩
/-- A reader of numbers at block gx, behind some bits. -/
structure Rs (w0 ws wr : World) (gx : Nat) (A : Option Addr) (c b1 b2 g : Nat) (t : List Ln) (b : List Int) (a : Int) : Prop where
  obj : wr.heap[gx]? = some (.cells #[.slice A t.length c, .map (some b1), .map (some b2), .pointer (some ⟨g, 0, none⟩)] 100 (0, 0))
  m1 : ∃ n, InMap 3 wr b1 n (gW t t.length)
  m2 : ∃ n, InMap 4 wr b2 n (gB t t.length)
  rdr : IsRdr wr g b a
  bel : Below w0.heap.size w0 wr
  gro : ws.grownBy wr (some g)
theorem Rs.drewN {w0 ws wr : World} {gx : Nat} {A : Option Addr} {c b1 b2 g : Nat} {t : List Ln} {b : List Int} {a : Int} (h : Rs w0 ws wr gx A c b1 b2 g t b a) (m : Nat) : Rs w0 ws (wr.drewN m) gx A c b1 b2 g t b a :=
  ⟨h.obj, h.m1.imp fun _ h => h.heap rfl, h.m2.imp fun _ h => h.heap rfl, h.rdr.drewN m, pw_below_drewN h.bel m, grown_drewN h.gro m⟩
theorem Rs.below {w0 ws wr w1 : World} {gx : Nat} {A : Option Addr} {c b1 b2 g : Nat} {t : List Ln} {b : List Int} {a : Int} (h : Rs w0 ws wr gx A c b1 b2 g t b a) (hB : Below wr.heap.size wr w1) : Rs w0 ws w1 gx A c b1 b2 g t b a :=
  ⟨(hB.block gx (Array.getElem?_eq_some_iff.1 h.obj).1).trans h.obj, h.m1.imp fun _ h => map_below h hB, h.m2.imp fun _ h => map_below h hB, h.rdr.below hB, below_then h.bel h.bel.size hB, grown_trans h.gro (grown_of_below hB _)⟩
theorem map_cells {e : TypeId} {w w1 : World} {b n g t : Nat} {f : Int → Int → Option Lit} {cs : Array Value} (h : InMap e w b n f) (hb : w.heap[g]? = some (.cells cs t (0, 0))) (hg : w.grownBy w1 (some g)) : InMap e w1 b n f :=
  map_off h hg (fun he => by
    obtain ⟨es, clock, hm⟩ := h.blk
    rw [he, hb] at hm
    cases hm)
theorem blk_cells {w w1 : World} {g g' t t' : Nat} {cs cs' : Array Value} (h : w.heap[g]? = some (.cells cs t (0, 0))) (h' : w.heap[g']? = some (.cells cs' t' (0, 0))) (hne : t ≠ t') (hg : w.grownBy w1 (some g')) : w1.heap[g]? = some (.cells cs t (0, 0)) := by
  refine (hg.block g (Array.getElem?_eq_some_iff.1 h).1 (fun e => ?_)).trans h
  injection e with e
  rw [e, h'] at h
  injection h with h
  injection h with _ h2
  exact hne h2.symm
/-- The reader has moved. -/
theorem Rs.moved {w0 ws wr w1 : World} {gx : Nat} {A : Option Addr} {c b1 b2 g : Nat} {t : List Ln} {b : List Int} {a a' : Int} (h : Rs w0 ws wr gx A c b1 b2 g t b a) (hr : IsRdr w1 g b a') (hg : wr.grownBy w1 (some g)) (hb : w0.heap.size ≤ g) : Rs w0 ws w1 gx A c b1 b2 g t b a' := by
  obtain ⟨v, hblk, _⟩ := h.rdr
  exact ⟨blk_cells h.obj hblk (by decide) hg, h.m1.imp fun _ h => map_cells h hblk hg, h.m2.imp fun _ h => map_cells h hblk hg, hr, below_grown1 h.bel h.bel.size hg hb, grown_trans h.gro hg⟩
/-- A cell beside it has been written. -/
theorem Rs.beside {w0 ws wr w1 : World} {gx : Nat} {A : Option Addr} {c b1 b2 g : Nat} {t : List Ln} {b : List Int} {a : Int} (h : Rs w0 ws wr gx A c b1 b2 g t b a) {k T : Nat} {cs : Array Value} (hk : wr.heap[k]? = some (.cells cs T (0, 0))) (h1 : 100 ≠ T) (h2 : 114 ≠ T) (h3 : 5 ≠ T) (hg : wr.grownBy w1 (some k)) (hb : w0.heap.size ≤ k) (hs : ws.heap.size ≤ k) : Rs w0 ws w1 gx A c b1 b2 g t b a := by
  obtain ⟨v, hblk, hR⟩ := h.rdr
  exact ⟨blk_cells h.obj hk h1 hg, h.m1.imp fun _ h => map_cells h hk hg, h.m2.imp fun _ h => map_cells h hk hg, ⟨v, blk_cells hblk hk h2 hg, Kd.R_grown1 hR rfl hg (Kd.R_ne hR hk h3)⟩, below_grown1 h.bel h.bel.size hg hb, grown_new h.gro hg hs⟩
theorem plain_bool_inv {v : Value} {z : DataW Unit × List MemPlace} (h : plainElem (H := Unit) Try.prog 4 v = some z) : ∃ x, v = .bool x ∧ z = (.lit (.bool x), []) := by
  have hu := Try.underlying4
  cases v <;> simp [plainElem, hu] at h
  exact ⟨_, rfl, h.symm⟩
/-- The look-ups, in whatever world that has only drawn. -/
theorem ask {w : World} {b n : Nat} {t : List Ln} (hv : vldP t) (h : InMap 4 w b n (gB t t.length)) {v m : Int} (h1 : (Lit.int .i64 v).wf = true) (h2 : (Lit.int .i64 m).wf = true) (k : Nat) :
    (Instr.lookup 97 (.map (some b)) (kv v m) false).run Try.prog (w.drewN k) = .ok (.bool (gB t t.length v m).isSome) (w.drewN k) := by
  rcases Mpp.look (h.heap (w' := w.drewN k) rfl) Try.underlying97 (z := .bool false) (fun w => by kernel_rfl) h1 h2 false with ⟨e, hr⟩ | ⟨x, val, ps, e, hval, hr⟩
  · rw [e]; exact hr
  · obtain ⟨rfl, _⟩ := gB_some t hv v m _ (Nat.le_refl _) x e
    obtain ⟨y, rfl, hy⟩ := plain_bool_inv hval
    simp only [Prod.mk.injEq, DataW.lit.injEq, Lit.bool.injEq] at hy
    obtain ⟨rfl, _⟩ := hy
    rw [e]
    exact hr
theorem ask_which {w : World} {b n : Nat} {t : List Ln} (hv : vldP t) (h : InMap 3 w b n (gW t t.length)) {v m : Int} (h1 : (Lit.int .i64 v).wf = true) (h2 : (Lit.int .i64 m).wf = true) :
    (gW t t.length v m = none ∧ ∀ k : Nat, (Instr.lookup 96 (.map (some b)) (kv v m) true).run Try.prog (w.drewN k) = .ok (.tuple #[.int .i64 0, .bool false]) (w.drewN k)) ∨
    ∃ i : Nat, i < t.length ∧ gW t t.length v m = some (.int .i64 (i : Int)) ∧ ∀ k : Nat, (Instr.lookup 96 (.map (some b)) (kv v m) true).run Try.prog (w.drewN k) = .ok (.tuple #[.int .i64 (i : Int), .bool true]) (w.drewN k) := by
  have key := fun k : Nat => Mpp.look (h.heap (w' := w.drewN k) rfl) Try.underlying96 (z := .int .i64 0) (fun w => by kernel_rfl) h1 h2 true
  cases e : gW t t.length v m with
  | none =>
    refine .inl ⟨rfl, fun k => ?_⟩
    rcases key k with ⟨_, hr⟩ | ⟨x, val, ps, e2, _⟩
    · exact hr
    · rw [e] at e2; cases e2
  | some x =>
    obtain ⟨i, hi, rfl, _⟩ := gW_some t hv v m _ (Nat.le_refl _) x e
    refine .inr ⟨i, hi, rfl, fun k => ?_⟩
    rcases key k with ⟨e2, hr⟩ | ⟨x, val, ps, e2, hval, hr⟩
    · rw [e] at e2; exact absurd e2 (by simp)
    · rw [e] at e2
      obtain rfl := Option.some.inj e2
      obtain ⟨a, rfl, hz, _⟩ := plainElem_int_inv Try.underlying3 hval
      simp only [Prod.mk.injEq, DataW.lit.injEq, Lit.int.injEq] at hz
      obtain ⟨⟨_, rfl⟩, _⟩ := hz
      exact hr
end Go.Proofs.Ytnadgcdkcabdoaa.Nbr
namespace Go.Proofs.Ytnadgcdkcabdoaa.Nbw
open Go Go.RowKit Go.Proofs.YtnadgcdkcabdoaaW.PrintWords Go.Proofs.YtnadgcdkcabdoaaW.PrintLast Go.Proofs.YtnadgcdkcabdoaaW.PrintMore Go.Proofs.Ytnadgcdkcabdoaa.Aid Go.Proofs.Ytnadgcdkcabdoaa.HandAid Go.Proofs.Ytnadgcdkcabdoaa.U Go.Proofs.Ytnadgcdkcabdoaa.Tab Go.Proofs.Ytnadgcdkcabdoaa.Cdx Go.Proofs.Ytnadgcdkcabdoaa.Cdy Go.Proofs.Ytnadgcdkcabdoaa.Cdz Go.Proofs.Ytnadgcdkcabdoaa.Rdp Go.Proofs.Ytnadgcdkcabdoaa.Mpp Go.Proofs.Ytnadgcdkcabdoaa.Dcm Go.Proofs.Ytnadgcdkcabdoaa.Nbr
def left (wr : World) (gc : Nat) : Nat := match wr.cell? ⟨gc, 1, none⟩ with | some (.int _ n) => (16 - n).toNat | _ => 0
/-- The reader behind a number. -/
def Behind (w0 ws w' : World) (gx : Nat) (A : Option Addr) (c b1 b2 g : Nat) (t : List Ln) (b : List Int) (R : (Bool × Int) × Int × Int) : Prop := ∃ a', (R.2.1 = 0 → a' = R.2.2) ∧ 0 ≤ a' ∧ a' ≤ 8 * b.length ∧ Rs w0 ws w' gx A c b1 b2 g t b a'
theorem zset {W : World} {gz : Nat} {u v : Value} (h : W.heap[gz]? = some (.cells #[u, v] 48 (0, 0))) (p q : Value) :
    ((W.setCell ⟨gz, 0, none⟩ p).setCell ⟨gz, 1, none⟩ q).heap[gz]? = some (.cells #[p, q] 48 (0, 0)) ∧ W.grownBy ((W.setCell ⟨gz, 0, none⟩ p).setCell ⟨gz, 1, none⟩ q) (some gz) :=
  ⟨by simpa using blk_set (blk_set h 0 p) 1 q, grown_set (grown_set ⟨rfl, rfl, rfl, Nat.le_refl _, fun _ _ _ => rfl⟩)⟩
theorem zret {W : World} {gz : Nat} {nn : Bool} {N err : Int} {tmps : Array Value} (hz : W.heap[gz]? = some (.cells #[.bool nn, .int .i64 N] 48 (0, 0))) (h2 : tmps.getD 2 undef = .pointer (some ⟨gz, 0, none⟩)) (h3 : tmps.getD 3 undef = .int .i64 err) :
    (results Try.f59 tmps).run Try.prog W = .ok (.tuple #[.agg #[.bool nn, .int .i64 N], .int .i64 err]) W := by
  have y0 : W.cell? ⟨gz, 0, none⟩ = some (.bool nn) := (blk_cell hz 0).trans rfl
  have y1 : W.cell? ⟨gz, 1, none⟩ = some (.int .i64 N) := (blk_cell hz 1).trans rfl
  have hu48 := Try.underlying48
  rw [results_cell_tmp rfl, h2, h3]
  go_simp
theorem zend {w0 ws wr : World} {gx : Nat} {A : Option Addr} {c b1 b2 g : Nat} {t : List Ln} {b : List Int} {a : Int} {gz : Nat} {u v : Value} (h : Rs w0 ws wr gx A c b1 b2 g t b a) (hz : wr.heap[gz]? = some (.cells #[u, v] 48 (0, 0))) (hb : w0.heap.size ≤ gz) (hs : ws.heap.size ≤ gz) (p q : Value) (k : Nat) :
    (((wr.drewN k).setCell ⟨gz, 0, none⟩ p).setCell ⟨gz, 1, none⟩ q).heap[gz]? = some (.cells #[p, q] 48 (0, 0)) ∧ Rs w0 ws (((wr.drewN k).setCell ⟨gz, 0, none⟩ p).setCell ⟨gz, 1, none⟩ q) gx A c b1 b2 g t b a :=
  have hz' : (wr.drewN k).heap[gz]? = some (.cells #[u, v] 48 (0, 0)) := hz
  ⟨(zset hz' p q).1, (h.drewN k).beside hz' (by decide) (by decide) (by decide) (zset hz' p q).2 hb hs⟩
theorem zend0 {w0 ws wr : World} {gx : Nat} {A : Option Addr} {c b1 b2 g : Nat} {t : List Ln} {b : List Int} {a : Int} {gz : Nat} {u v : Value} (h : Rs w0 ws wr gx A c b1 b2 g t b a) (hz : wr.heap[gz]? = some (.cells #[u, v] 48 (0, 0))) (hb : w0.heap.size ≤ gz) (hs : ws.heap.size ≤ gz) (p q : Value) :
    ((wr.setCell ⟨gz, 0, none⟩ p).setCell ⟨gz, 1, none⟩ q).heap[gz]? = some (.cells #[p, q] 48 (0, 0)) ∧ Rs w0 ws ((wr.setCell ⟨gz, 0, none⟩ p).setCell ⟨gz, 1, none⟩ q) gx A c b1 b2 g t b a :=
  ⟨(zset hz p q).1, h.beside hz (by decide) (by decide) (by decide) (zset hz p q).2 hb hs⟩
set_option maxHeartbeats 8000000 in
set_option maxRecDepth 100000 in
theorem number_calls (w0 w : World) (gx : Nat) (A : Option Addr) (c b1 b2 g : Nat) (t : List Ln) (b : List Int) (a : Int) (hv : vldP t) (hb : Bytes b) (hl : b.length ≤ 140737488355328) (hC : Kd.C k32 w0 A t.length t) (hS : Rs w0 w w gx A c b1 b2 g t b a) (ha : 0 ≤ a) (ha2 : a ≤ 8 * b.length) (hg : w0.heap.size ≤ g)
    (R : (Bool × Int) × Int × Int) (hR : numG t b a 16 0 = R) :
    Calls Try.prog 59 #[.pointer (some ⟨gx, 0, none⟩)] w fun e w' => e = .returned (.tuple #[.agg #[.bool R.1.1, .int .i64 R.1.2], .int .i64 R.2.1]) ∧ Behind w0 w w' gx A c b1 b2 g t b R := by
  have HV := Aside0.mk hv
  have HC := Aside0.mk hC
  have HS := Aside0.mk hS
  have HB := Aside0.mk hb
  clear hv hC hS hb
  have hum1 := Try.underlying96
  have hum2 := Try.underlying97
  have hu84 := Try.underlying84
  have hu48 := Try.underlying48
  have hu32 := Try.underlying32
  have hu100 := Try.underlying100
  go_enter Try.func59, Try.ntmps59
  go_wp2_with (fail)
  obtain ⟨gz, hgz⟩ : ∃ gz, w.heap.size = gz := ⟨_, rfl⟩
  have HS1 := Aside0.mk ((HS.out.below (below_alloc (Below.refl _ _) (.cells #[.bool false, .int .i64 0] 48))).below (below_alloc (Below.refl _ _) (.cells #[.int .i64 0, .int .i64 0] 84)))
  have HZ1 := Aside0.mk (blk_alloc (heap_new w (.cells #[.bool false, .int .i64 0] 48)) (.cells #[.int .i64 0, .int .i64 0] 84))
  have HC1 := Aside0.mk (heap_new (w.alloc (.cells #[.bool false, .int .i64 0] 48)) (.cells #[.int .i64 0, .int .i64 0] 84))
  rw [World.size_alloc] at HC1
  rw [hgz] at HZ1 HC1 ⊢
  have hgb : w0.heap.size ≤ gz := by rw [← hgz]; exact HS.out.bel.size
  have hgs : w.heap.size ≤ gz := by omega
  clear HS hgz
  go_loopw [5, 6] (fun x y wr => ∃ n : Nat, n ≤ 15 ∧ numG t b a (16 - n) n = R ∧ a + n ≤ 8 * b.length ∧ Aside0 (Rs w0 w wr gx A c b1 b2 g t b (a + n)) ∧ Aside0 (wr.heap[gz + 1]? = some (.cells #[.int .i64 (bitsAt b a n), .int .i64 (n : Int)] 84 (0, 0))) ∧ Aside0 (wr.heap[gz]? = some (.cells #[.bool false, .int .i64 0] 48 (0, 0)))) (fun _ _ wr => left wr (gz + 1))
  case atStart => exact ⟨0, by omega, hR, by omega, ⟨by simpa using HS1.out⟩, HC1, HZ1⟩
  case round =>
    obtain ⟨n, hn, hRn, hfit, HT, HCC, HZZ⟩ := hrel
    obtain ⟨m1, hm1⟩ := HT.out.m1
    obtain ⟨m2, hm2⟩ := HT.out.m2
    have hbr := bitsAt_range b a n
    have hp : (2 : Int) ^ n ≤ 2 ^ 15 := by exact_mod_cast Nat.pow_le_pow_right (by omega) hn
    have hp2 : (2 : Int) ^ 15 = 32768 := by decide
    have wv : (Lit.int .i64 (bitsAt b a n)).wf = true := wf64_of (by omega)
    have wn : (Lit.int .i64 (n : Int)).wf = true := wf64_of (by omega)
    have hask := Nbr.ask HV.out hm2 wv wn
    have hwhich := Nbr.ask_which HV.out hm1 wv wn
    obtain ⟨V, hVe⟩ : ∃ V, bitsAt b a n = V := ⟨_, rfl⟩
    rw [hVe] at HCC hbr wv hask hwhich
    have k0 : wr.cell? ⟨gz + 1, 0, none⟩ = some (.int .i64 V) := (blk_cell HCC.out 0).trans rfl
    have k1 : wr.cell? ⟨gz + 1, 1, none⟩ = some (.int .i64 (n : Int)) := (blk_cell HCC.out 1).trans rfl
    have x0 : wr.cell? ⟨gx, 0, none⟩ = some (.slice A t.length c) := (blk_cell HT.out.obj 0).trans rfl
    have x1 : wr.cell? ⟨gx, 1, none⟩ = some (.map (some b1)) := (blk_cell HT.out.obj 1).trans rfl
    have x2 : wr.cell? ⟨gx, 2, none⟩ = some (.map (some b2)) := (blk_cell HT.out.obj 2).trans rfl
    have x3 : wr.cell? ⟨gx, 3, none⟩ = some (.pointer (some ⟨g, 0, none⟩)) := (blk_cell HT.out.obj 3).trans rfl
    have hleft : left wr (gz + 1) = 16 - n := by unfold left; rw [k1]; simp only; omega
    cases hB : (gB t t.length V n).isSome with
    | true =>
      rw [hB] at hask
      clear hwhich
      obtain ⟨y, hy⟩ := Option.isSome_iff_exists.1 hB
      have hn15 := (gB_some t HV.out V n _ (Nat.le_refl _) y hy).2.2
      have hnum : numG t b a (16 - n) n = if a + n + 1 ≤ 8 * b.length then numG t b a (16 - (n + 1)) (n + 1) else ((false, 0), 6, 0) := by
        rw [show 16 - n = (16 - (n + 1)) + 1 by omega]
        simp only [numG]
        rw [hVe, if_pos hB]
      by_cases fit : a + n + 1 ≤ 8 * b.length
      · rw [if_pos fit] at hnum
        go_wp2
        go_quiet (fail)
        go_wp2_with (fail)
        refine (bits_real 1 _ g b (a + n) (HT.out.rdr.drewN _) HB.out (by omega) (by omega) hl (by omega) (by omega)).mono ?_
        rintro e W ⟨rfl, hr, hgr⟩
        obtain ⟨vr, hrb, _⟩ := (HT.out.rdr.drewN nq)
        have HT2 := Aside0.mk ((HT.out.drewN nq).moved hr hgr hg)
        have HCC2 := Aside0.mk (blk_cells (w := wr.drewN nq) HCC.out hrb (by decide) hgr)
        have HZZ2 := Aside0.mk (blk_cells (w := wr.drewN nq) HZZ.out hrb (by decide) hgr)
        have hq := bitOf_range b (a + n)
        have hbit : bitsAt b (a + n) (1 : Int).toNat = bitOf b (a + n) := by
          show 2 * 0 + bitOf b (a + n + (0 : Nat)) = _
          simp
        have hnext : bitsAt b a (n + 1) = 2 * V + bitOf b (a + n) := by rw [← hVe]; rfl
        rw [hbit]
        obtain ⟨q, hqe⟩ : ∃ q, bitOf b (a + n) = q := ⟨_, rfl⟩
        rw [hqe] at hq hnext ⊢
        clear HT HCC HZZ hr hgr hrb k0 k1 x0 x1 x2 x3 hask hm1 hm2
        have k0 : W.cell? ⟨gz + 1, 0, none⟩ = some (.int .i64 V) := (blk_cell HCC2.out 0).trans rfl
        have k1 : W.cell? ⟨gz + 1, 1, none⟩ = some (.int .i64 (n : Int)) := (blk_cell HCC2.out 1).trans rfl
        have hfz := blk_frozen HCC2.out 0
        have hfz1 := blk_frozen HCC2.out 1
        go_wp2
        have hG : W.grownBy ((W.setCell ⟨gz + 1, 0, none⟩ (.int .i64 (2 * V + q))).setCell ⟨gz + 1, 1, none⟩ (.int .i64 ((n : Int) + 1))) (some (gz + 1)) := grown_set (grown_set ⟨rfl, rfl, rfl, Nat.le_refl _, fun _ _ _ => rfl⟩)
        have hH : ((W.setCell ⟨gz + 1, 0, none⟩ (.int .i64 (2 * V + q))).setCell ⟨gz + 1, 1, none⟩ (.int .i64 ((n : Int) + 1))).heap[gz + 1]? = some (.cells #[.int .i64 (2 * V + q), .int .i64 ((n : Int) + 1)] 84 (0, 0)) := by simpa using blk_set (blk_set HCC2.out 0 (.int .i64 (2 * V + q))) 1 (.int .i64 ((n : Int) + 1))
        refine ⟨⟨n + 1, by omega, hnum.symm.trans hRn, by omega, ⟨?_⟩, ⟨?_⟩, ⟨blk_cells HZZ2.out HCC2.out (by decide) hG⟩⟩, ?_⟩
        · have h := HT2.out.beside HCC2.out (by decide) (by decide) (by decide) hG (by omega) (by omega)
          rw [show a + ((n + 1 : Nat) : Int) = a + n + 1 by omega]
          exact h
        · rw [hH, hnext]
          rfl
        · rw [hleft]
          unfold left
          rw [(blk_cell hH 1).trans rfl]
          show (16 - ((n : Int) + 1)).toNat < 16 - n
          omega
      · rw [if_neg fit] at hnum
        rw [hnum] at hRn
        subst hRn
        go_wp2
        go_quiet (fail)
        go_wp2_with (fail)
        refine (bits_end 1 _ g b (a + n) (HT.out.rdr.drewN _) (by omega) (by omega) hl (by omega) (by omega) (by omega)).mono ?_
        rintro e W ⟨rfl, m, rfl⟩
        have HT2 := Aside0.mk ((HT.out.drewN nq).drewN m)
        have zc0 : wr.cell? ⟨gz, 0, none⟩ = some (.bool false) := (blk_cell HZZ.out 0).trans rfl
        have zc1 : wr.cell? ⟨gz, 1, none⟩ = some (.int .i64 0) := (blk_cell HZZ.out 1).trans rfl
        have zf0 := blk_frozen HZZ.out 0
        have zf1 := blk_frozen HZZ.out 1
        clear k0 k1 x0 x1 x2 x3
        go_wp2
        obtain ⟨hz, hzg⟩ := zset (W := wr.drewN (nq + m)) HZZ.out (.bool false) (.int .i64 0)
        have HT3 := Aside0.mk ((HT.out.drewN (nq + m)).beside (k := gz) (T := 48) (cs := #[.bool false, .int .i64 0]) HZZ.out (by decide) (by decide) (by decide) hzg (by omega) (by omega))
        obtain ⟨W2, hW2⟩ : ∃ W2, ((wr.drewN (nq + m)).setCell ⟨gz, 0, none⟩ (.bool false)).setCell ⟨gz, 1, none⟩ (.int .i64 0) = W2 := ⟨_, rfl⟩
        rw [hW2] at hz HT3 ⊢
        clear hzg hW2
        exact bodyPost_ret (zret hz rfl rfl) rfl ⟨rfl, _, (fun h => by cases h), by omega, hfit, HT3.out⟩
    | false =>
      rw [hB] at hask
      have hnum : numG t b a (16 - n) n = match gW t t.length V n with
          | some (.int _ i) => if a + n + (rd_T32 t i).f1 ≤ 8 * b.length then (numAt (rd_T32 t i) (bitsAt b (a + n) (rd_T32 t i).f1.toNat), 0, a + n + (rd_T32 t i).f1) else ((false, 0), 6, 0)
          | _ => ((false, 0), 3, 0) := by
        rw [show 16 - n = (15 - n) + 1 by omega]
        simp only [numG]
        rw [hVe, hB, if_neg (by simp)]
        try rfl
      rcases hwhich with ⟨hnone, hwhich⟩ | ⟨i, hi, hsome, hwhich⟩
      · rw [hnone] at hnum
        rw [hnum] at hRn
        subst hRn
        have zc0 : wr.cell? ⟨gz, 0, none⟩ = some (.bool false) := (blk_cell HZZ.out 0).trans rfl
        have zc1 : wr.cell? ⟨gz, 1, none⟩ = some (.int .i64 0) := (blk_cell HZZ.out 1).trans rfl
        have zf0 := blk_frozen HZZ.out 0
        have zf1 := blk_frozen HZZ.out 1
        go_wp2
        go_quiet (fail)
        go_wp2_with (fail)
        go_quiet (fail)
        go_wp2_with (fail)
        exact bodyPost_ret (zret (zend HT.out HZZ.out hgb hgs (.bool false) (.int .i64 0) _).1 rfl rfl) rfl ⟨rfl, _, (fun h => by cases h), by omega, hfit, (zend HT.out HZZ.out hgb hgs (.bool false) (.int .i64 0) _).2⟩
      · rw [hsome] at hnum
        have hnum := hnum.symm.trans hRn
        have hl2 := of_decide_eq_true (HV.out.2.1 _ (rdL_mem hi))
        obtain ⟨ad, hA, l0, l1, l2, l3⟩ := at_T32 (Kd.C_below HC.out HT.out.bel) (i : Int) (by omega) (by omega)
        obtain ⟨x, hx⟩ : ∃ x, rd_T32 t (i : Int) = x := ⟨_, rfl⟩
        simp only at hnum
        rw [hx] at hnum hl2 l0 l1 l2 l3
        subst hA
        simp only [Int.toNat_natCast] at l0 l1 l2 l3
        have hi0 : (0 : Int) ≤ (i : Int) := by omega
        have hi1 : (i : Int) < (t.length : Int) := by omega
        go_wp2
        go_quiet (fail)
        obtain ⟨n1, hn1⟩ : ∃ n1, n1 = nq := ⟨_, rfl⟩
        rw [← hn1]
        clear hn1
        go_wp2_with (fail)
        go_quiet (fail)
        go_wp2_with (fail)
        have hdr : ∀ W : World, Below W.heap.size W W.drew := fun W => below_drew (Below.refl _ _)
        have HT0 := Aside0.mk ((HT.out.drewN (n1 + nq)).below (hdr _))
        have HZ0 := Aside0.mk (show (wr.drewN (n1 + nq)).drew.heap[gz]? = some (.cells #[.bool false, .int .i64 0] 48 (0, 0)) from HZZ.out)
        obtain ⟨vr, hrb, _⟩ := HT0.out.rdr
        have hf0 : 0 ≤ x.f1 := by omega
        have hf1 : x.f1 ≤ 32 := by omega
        have hf2 : 0 ≤ a + n := by omega
        have hf3 : a + n ≤ 8 * b.length := hfit
        by_cases hfit2 : a + n + x.f1 ≤ 8 * b.length
        · rw [if_pos hfit2] at hnum
          refine start_ (n := 18) (S := fun w' => w'.cell? ⟨gx, 3, none⟩ = some (.pointer (some ⟨g, 0, none⟩)) ∧ w'.cell? ⟨gx, 0, none⟩ = some (.slice (some ad) t.length c) ∧ w'.cell? { block := (ad.add (i * 4)).block, off := (ad.add (i * 4)).off + 1 } = some (.int .i64 x.f1)) (ds := []) #[false, false, false, false, false, false, false, false, false, false, false, false, false, false, false, false, false, false] (by kernel_rfl) rfl rfl ⟨x3, x0, l1⟩ (fun hHeld => ?_)
          refine pure_ (i := 0) (N := some 52) (v := ?_) (a' := ?_) #[true, false, false, false, false, false, false, false, false, false, false, false, false, false, false, false, false, false] rfl rfl (by kernel_rfl) (fun _ _ _ h => h) (Or.inl ⟨by rfl, ?_⟩) ?_ ?_
          rotate_left
          · intro w'
            go_simp
            with_reducible rfl
          rotate_left
          · simp only [Act.put, List.setIfInBounds_toArray, List.set_cons_zero, List.set_cons_succ, i64_w, i32_w]
            rfl
          refine pure_ (i := 1) (N := some 53) (v := ?_) (a' := ?_) #[true, true, false, false, false, false, false, false, false, false, false, false, false, false, false, false, false, false] rfl rfl (by kernel_rfl) (fun _ _ _ h => h) (Or.inl ⟨by rfl, ?_⟩) ?_ ?_
          rotate_left
          · intro w'
            go_simp
            with_reducible rfl
          rotate_left
          · simp only [Act.put, List.setIfInBounds_toArray, List.set_cons_zero, List.set_cons_succ, i64_w, i32_w]
            rfl
          refine pure_ (i := 2) (N := some 54) (v := ?_) (a' := ?_) #[true, true, true, false, false, false, false, false, false, false, false, false, false, false, false, false, false, false] rfl rfl (by kernel_rfl) (fun _ _ _ h => h) (Or.inl ⟨by rfl, ?_⟩) ?_ ?_
          rotate_left
          · intro w'
            go_simp
            with_reducible rfl
          rotate_left
          · simp only [Act.put, List.setIfInBounds_toArray, List.set_cons_zero, List.set_cons_succ, i64_w, i32_w]
            rfl
          refine pure_ (i := 4) (N := some 56) (v := ?_) (a' := ?_) #[true, true, true, false, true, false, false, false, false, false, false, false, false, false, false, false, false, false] rfl rfl (by kernel_rfl) (fun _ _ _ h => h) (Or.inl ⟨by rfl, ?_⟩) ?_ ?_
          rotate_left
          · intro w'
            go_simp
            with_reducible rfl
          rotate_left
          · simp only [Act.put, List.setIfInBounds_toArray, List.set_cons_zero, List.set_cons_succ, i64_w, i32_w]
            rfl
          refine pure_ (i := 5) (N := some 57) (v := ?_) (a' := ?_) #[true, true, true, false, true, true, false, false, false, false, false, false, false, false, false, false, false, false] rfl rfl (by kernel_rfl) (fun _ _ _ h => h) (Or.inl ⟨by rfl, ?_⟩) ?_ ?_
          rotate_left
          · intro w'
            go_simp
            with_reducible rfl
          rotate_left
          · simp only [Act.put, List.setIfInBounds_toArray, List.set_cons_zero, List.set_cons_succ, i64_w, i32_w]
            rfl
          refine pure_ (i := 6) (N := some 58) (v := ?_) (a' := ?_) #[true, true, true, false, true, true, true, false, false, false, false, false, false, false, false, false, false, false] rfl rfl (by kernel_rfl) (fun _ _ _ h => h) (Or.inl ⟨by rfl, ?_⟩) ?_ ?_
          rotate_left
          · intro w'
            go_simp
            with_reducible rfl
          rotate_left
          · simp only [Act.put, List.setIfInBounds_toArray, List.set_cons_zero, List.set_cons_succ, i64_w, i32_w]
            rfl
          refine pure_ (i := 8) (N := some 60) (v := ?_) (a' := ?_) #[true, true, true, false, true, true, true, false, true, false, false, false, false, false, false, false, false, false] rfl rfl (by kernel_rfl) (fun _ _ _ h => h) (Or.inl ⟨by rfl, ?_⟩) ?_ ?_
          rotate_left
          · intro w'
            go_simp
            with_reducible rfl
          rotate_left
          · simp only [Act.put, List.setIfInBounds_toArray, List.set_cons_zero, List.set_cons_succ, i64_w, i32_w]
            rfl
          refine take_ (i := 3) (N := some 55) (v := ?_) (a' := ?_) #[true, true, true, true, true, true, true, false, true, false, false, false, false, false, false, false, false, false] rfl rfl (by kernel_rfl) (fun _ _ _ h => h) (Or.inl ⟨by rfl, ?_⟩) hHeld ?_ ?_
          rotate_left
          · rintro w' ⟨s0, s1, s2⟩
            go_simp
            with_reducible rfl
          rotate_left
          · simp only [Act.put, List.setIfInBounds_toArray, List.set_cons_zero, List.set_cons_succ, i64_w, i32_w]
            rfl
          refine take_ (i := 7) (N := some 59) (v := ?_) (a' := ?_) #[true, true, true, true, true, true, true, true, true, false, false, false, false, false, false, false, false, false] rfl rfl (by kernel_rfl) (fun _ _ _ h => h) (Or.inl ⟨by rfl, ?_⟩) hHeld ?_ ?_
          rotate_left
          · rintro w' ⟨s0, s1, s2⟩
            go_simp
            with_reducible rfl
          rotate_left
          · simp only [Act.put, List.setIfInBounds_toArray, List.set_cons_zero, List.set_cons_succ, i64_w, i32_w]
            rfl
          refine pure_ (i := 9) (N := some 61) (v := ?_) (a' := ?_) #[true, true, true, true, true, true, true, true, true, true, false, false, false, false, false, false, false, false] rfl rfl (by kernel_rfl) (fun _ _ _ h => h) (Or.inl ⟨by rfl, ?_⟩) ?_ ?_
          rotate_left
          · intro w'
            go_simp
            with_reducible rfl
          rotate_left
          · simp only [Act.put, List.setIfInBounds_toArray, List.set_cons_zero, List.set_cons_succ, i64_w, i32_w]
            rfl
          refine pure_ (i := 10) (N := some 62) (v := ?_) (a' := ?_) #[true, true, true, true, true, true, true, true, true, true, true, false, false, false, false, false, false, false] rfl rfl (by kernel_rfl) (fun _ _ _ h => h) (Or.inl ⟨by rfl, ?_⟩) ?_ ?_
          rotate_left
          · intro w'
            go_simp
            with_reducible rfl
          rotate_left
          · simp only [Act.put, List.setIfInBounds_toArray, List.set_cons_zero, List.set_cons_succ, i64_w, i32_w]
            rfl
          refine take_ (i := 11) (N := some 63) (v := ?_) (a' := ?_) #[true, true, true, true, true, true, true, true, true, true, true, true, false, false, false, false, false, false] rfl rfl (by kernel_rfl) (fun _ _ _ h => h) (Or.inl ⟨by rfl, ?_⟩) hHeld ?_ ?_
          rotate_left
          · rintro w' ⟨s0, s1, s2⟩
            go_simp
            with_reducible rfl
          rotate_left
          · simp only [Act.put, List.setIfInBounds_toArray, List.set_cons_zero, List.set_cons_succ, i64_w, i32_w]
            rfl
          refine one_ (i := 12) (N := some 64) #[true, true, true, true, true, true, true, true, true, true, true, true, true, false, false, false, false, false] rfl rfl (by kernel_rfl) (by decide) (fun K hK => ?_)
          refine goes_ Try.func67 (by kernel_rfl) rfl #[.pointer (some ⟨g, 0, none⟩), .int .i64 x.f1] (by rfl) rfl rfl (by simp only [List.map_toArray, List.map_cons, List.map_nil]; rfl) ?_
          with_reducible refine (bits_real x.f1 _ g b (a + n) HT0.out.rdr HB.out hf0 hf1 hl hf2 hfit2).mono ?_
          rintro e W2 ⟨rfl, hr, hgr⟩
          refine ⟨_, rfl, ?_⟩
          have HT2 := Aside0.mk (HT0.out.moved hr hgr hg)
          have HZ2 := Aside0.mk (blk_cells HZ0.out hrb (by decide) hgr)
          obtain ⟨ad', hA', l0', l1', l2', l3'⟩ := at_T32 (Kd.C_below HC.out HT2.out.bel) (i : Int) hi0 hi1
          obtain rfl : ad = ad' := by injection hA'
          rw [hx] at l0' l1' l2' l3'
          simp only [Int.toNat_natCast] at l0' l1' l2' l3'
          refine hK.out _ _ ⟨(blk_cell HT2.out.obj 3).trans rfl, (blk_cell HT2.out.obj 0).trans rfl, l1'⟩ (fun hHeld => ?_)
          clear hK K
          refine norm_ (a' := ?_) ?_ ?_
          rotate_left
          · show Act.put _ (some 64) _ = _
            simp only [Act.put, List.setIfInBounds_toArray, List.set_cons_zero, List.set_cons_succ, i64_w, i32_w]
            rfl
          refine pure_ (i := 13) (N := some 51) (v := ?_) (a' := ?_) #[true, true, true, true, true, true, true, true, true, true, true, true, true, true, false, false, false, false] rfl rfl (by kernel_rfl) (fun _ _ _ h => h) (Or.inl ⟨by rfl, ?_⟩) ?_ ?_
          rotate_left
          · intro w'
            go_simp
            with_reducible rfl
          rotate_left
          · simp only [Act.put, List.setIfInBounds_toArray, List.set_cons_zero, List.set_cons_succ, i64_w, i32_w]
            rfl
          refine pure_ (i := 14) (N := some 65) (v := ?_) (a' := ?_) #[true, true, true, true, true, true, true, true, true, true, true, true, true, true, true, false, false, false] rfl rfl (by kernel_rfl) (fun _ _ _ h => h) (Or.inl ⟨by rfl, ?_⟩) ?_ ?_
          rotate_left
          · intro w'
            go_simp
            with_reducible rfl
          rotate_left
          · simp only [Act.put, List.setIfInBounds_toArray, List.set_cons_zero, List.set_cons_succ, i64_w, i32_w]
            rfl
          refine pure_ (i := 15) (N := some 66) (v := ?_) (a' := ?_) #[true, true, true, true, true, true, true, true, true, true, true, true, true, true, true, true, false, false] rfl rfl (by kernel_rfl) (fun _ _ _ h => h) (Or.inl ⟨by rfl, ?_⟩) ?_ ?_
          rotate_left
          · intro w'
            go_simp
            with_reducible rfl
          rotate_left
          · simp only [Act.put, List.setIfInBounds_toArray, List.set_cons_zero, List.set_cons_succ, i64_w, i32_w]
            rfl
          refine pure_ (i := 16) (N := some 9) (v := ?_) (a' := ?_) #[true, true, true, true, true, true, true, true, true, true, true, true, true, true, true, true, true, false] rfl rfl (by kernel_rfl) (fun _ _ _ h => h) (Or.inl ⟨by rfl, ?_⟩) ?_ ?_
          rotate_left
          · intro w'
            go_simp
            with_reducible rfl
          rotate_left
          · simp only [Act.put, List.setIfInBounds_toArray, List.set_cons_zero, List.set_cons_succ, i64_w, i32_w]
            rfl
          refine pure_ (i := 17) (N := some 10) (v := ?_) (a' := ?_) #[true, true, true, true, true, true, true, true, true, true, true, true, true, true, true, true, true, true] rfl rfl (by kernel_rfl) (fun _ _ _ h => h) (Or.inl ⟨by rfl, ?_⟩) ?_ ?_
          rotate_left
          · intro w'
            go_simp
            with_reducible rfl
          rotate_left
          · simp only [Act.put, List.setIfInBounds_toArray, List.set_cons_zero, List.set_cons_succ, i64_w, i32_w]
            rfl
          refine done_ (by kernel_rfl) ?_
          have hdr2 := bitsAt_range b (a + n) x.f1.toNat
          have hp20 : (2 : Int) ^ x.f1.toNat ≤ 2 ^ 20 := by exact_mod_cast Nat.pow_le_pow_right (by omega) (show x.f1.toNat ≤ 20 by omega)
          have hp20' : (2 : Int) ^ 20 = 1048576 := by decide
          obtain ⟨d, hd⟩ : ∃ d, bitsAt b (a + n) x.f1.toNat = d := ⟨_, rfl⟩
          rw [hd] at hnum hdr2 ⊢
          have x0' : W2.cell? ⟨gx, 0, none⟩ = some (.slice (some ad) t.length c) := (blk_cell HT2.out.obj 0).trans rfl
          have z0 : W2.cell? ⟨gz, 0, none⟩ = some (.bool false) := (blk_cell HZ2.out 0).trans rfl
          have z1 : W2.cell? ⟨gz, 1, none⟩ = some (.int .i64 0) := (blk_cell HZ2.out 1).trans rfl
          have zf0 := blk_frozen HZ2.out 0
          have zf1 := blk_frozen HZ2.out 1
          clear hHeld k0 k1 x0 x1 x2 x3 l0 l1 l2 l3 hask hwhich
          by_cases c2 : x.f3 = 2
          · have c2b : (x.f3 == 2) = true := by rw [c2]; rfl
            have hx1 : x.f1 = 0 := (hl2.2.2.2.2.2.2.2.2 c2).1
            have hnA : numAt x d = (true, 0) := by unfold numAt; rw [if_pos c2]
            rw [hnA] at hnum
            subst hnum
            go_wp2
            exact bodyPost_ret (zret (zend0 HT2.out HZ2.out hgb hgs (.bool true) (.int .i64 0)).1 rfl rfl) rfl ⟨rfl, a + n, (fun h => rfl), by omega, by omega, by have h := (zend0 HT2.out HZ2.out hgb hgs (.bool true) (.int .i64 0)).2; rwa [hx1, Int.add_zero] at h⟩
          · have c2b : (x.f3 == 2) = false := by simpa using c2
            by_cases c1 : x.f3 = 1
            · have c1b : (x.f3 == 1) = true := by rw [c1]; rfl
              have hnA : numAt x d = (false, x.f2 + -d) := by unfold numAt; rw [if_neg c2, if_pos c1, Int.sub_eq_add_neg]
              rw [hnA] at hnum
              subst hnum
              go_wp2
              exact bodyPost_ret (zret (zend0 HT2.out HZ2.out hgb hgs (.bool false) (.int .i64 (x.f2 + -d))).1 rfl rfl) rfl ⟨rfl, a + n + x.f1, (fun h => rfl), by omega, hfit2, (zend0 HT2.out HZ2.out hgb hgs (.bool false) (.int .i64 (x.f2 + -d))).2⟩
            · have c1b : (x.f3 == 1) = false := by simpa using c1
              have hnA : numAt x d = (false, x.f2 + d) := by unfold numAt; rw [if_neg c2, if_neg c1]
              rw [hnA] at hnum
              subst hnum
              go_wp2
              exact bodyPost_ret (zret (zend0 HT2.out HZ2.out hgb hgs (.bool false) (.int .i64 (x.f2 + d))).1 rfl rfl) rfl ⟨rfl, a + n + x.f1, (fun h => rfl), by omega, hfit2, (zend0 HT2.out HZ2.out hgb hgs (.bool false) (.int .i64 (x.f2 + d))).2⟩
        · rw [if_neg hfit2] at hnum
          have hfit2 : 8 * (b.length : Int) < a + n + x.f1 := by omega
          refine start_ (n := 18) (S := fun w' => w'.cell? ⟨gx, 3, none⟩ = some (.pointer (some ⟨g, 0, none⟩)) ∧ w'.cell? ⟨gx, 0, none⟩ = some (.slice (some ad) t.length c) ∧ w'.cell? { block := (ad.add (i * 4)).block, off := (ad.add (i * 4)).off + 1 } = some (.int .i64 x.f1)) (ds := []) #[false, false, false, false, false, false, false, false, false, false, false, false, false, false, false, false, false, false] (by kernel_rfl) rfl rfl ⟨x3, x0, l1⟩ (fun hHeld => ?_)
          refine pure_ (i := 0) (N := some 52) (v := ?_) (a' := ?_) #[true, false, false, false, false, false, false, false, false, false, false, false, false, false, false, false, false, false] rfl rfl (by kernel_rfl) (fun _ _ _ h => h) (Or.inl ⟨by rfl, ?_⟩) ?_ ?_
          rotate_left
          · intro w'
            go_simp
            with_reducible rfl
          rotate_left
          · simp only [Act.put, List.setIfInBounds_toArray, List.set_cons_zero, List.set_cons_succ, i64_w, i32_w]
            rfl
          refine pure_ (i := 1) (N := some 53) (v := ?_) (a' := ?_) #[true, true, false, false, false, false, false, false, false, false, false, false, false, false, false, false, false, false] rfl rfl (by kernel_rfl) (fun _ _ _ h => h) (Or.inl ⟨by rfl, ?_⟩) ?_ ?_
          rotate_left
          · intro w'
            go_simp
            with_reducible rfl
          rotate_left
          · simp only [Act.put, List.setIfInBounds_toArray, List.set_cons_zero, List.set_cons_succ, i64_w, i32_w]
            rfl
          refine pure_ (i := 2) (N := some 54) (v := ?_) (a' := ?_) #[true, true, true, false, false, false, false, false, false, false, false, false, false, false, false, false, false, false] rfl rfl (by kernel_rfl) (fun _ _ _ h => h) (Or.inl ⟨by rfl, ?_⟩) ?_ ?_
          rotate_left
          · intro w'
            go_simp
            with_reducible rfl
          rotate_left
          · simp only [Act.put, List.setIfInBounds_toArray, List.set_cons_zero, List.set_cons_succ, i64_w, i32_w]
            rfl
          refine pure_ (i := 4) (N := some 56) (v := ?_) (a' := ?_) #[true, true, true, false, true, false, false, false, false, false, false, false, false, false, false, false, false, false] rfl rfl (by kernel_rfl) (fun _ _ _ h => h) (Or.inl ⟨by rfl, ?_⟩) ?_ ?_
          rotate_left
          · intro w'
            go_simp
            with_reducible rfl
          rotate_left
          · simp only [Act.put, List.setIfInBounds_toArray, List.set_cons_zero, List.set_cons_succ, i64_w, i32_w]
            rfl
          refine pure_ (i := 5) (N := some 57) (v := ?_) (a' := ?_) #[true, true, true, false, true, true, false, false, false, false, false, false, false, false, false, false, false, false] rfl rfl (by kernel_rfl) (fun _ _ _ h => h) (Or.inl ⟨by rfl, ?_⟩) ?_ ?_
          rotate_left
          · intro w'
            go_simp
            with_reducible rfl
          rotate_left
          · simp only [Act.put, List.setIfInBounds_toArray, List.set_cons_zero, List.set_cons_succ, i64_w, i32_w]
            rfl
          refine pure_ (i := 6) (N := some 58) (v := ?_) (a' := ?_) #[true, true, true, false, true, true, true, false, false, false, false, false, false, false, false, false, false, false] rfl rfl (by kernel_rfl) (fun _ _ _ h => h) (Or.inl ⟨by rfl, ?_⟩) ?_ ?_
          rotate_left
          · intro w'
            go_simp
            with_reducible rfl
          rotate_left
          · simp only [Act.put, List.setIfInBounds_toArray, List.set_cons_zero, List.set_cons_succ, i64_w, i32_w]
            rfl
          refine pure_ (i := 8) (N := some 60) (v := ?_) (a' := ?_) #[true, true, true, false, true, true, true, false, true, false, false, false, false, false, false, false, false, false] rfl rfl (by kernel_rfl) (fun _ _ _ h => h) (Or.inl ⟨by rfl, ?_⟩) ?_ ?_
          rotate_left
          · intro w'
            go_simp
            with_reducible rfl
          rotate_left
          · simp only [Act.put, List.setIfInBounds_toArray, List.set_cons_zero, List.set_cons_succ, i64_w, i32_w]
            rfl
          refine take_ (i := 3) (N := some 55) (v := ?_) (a' := ?_) #[true, true, true, true, true, true, true, false, true, false, false, false, false, false, false, false, false, false] rfl rfl (by kernel_rfl) (fun _ _ _ h => h) (Or.inl ⟨by rfl, ?_⟩) hHeld ?_ ?_
          rotate_left
          · rintro w' ⟨s0, s1, s2⟩
            go_simp
            with_reducible rfl
          rotate_left
          · simp only [Act.put, List.setIfInBounds_toArray, List.set_cons_zero, List.set_cons_succ, i64_w, i32_w]
            rfl
          refine take_ (i := 7) (N := some 59) (v := ?_) (a' := ?_) #[true, true, true, true, true, true, true, true, true, false, false, false, false, false, false, false, false, false] rfl rfl (by kernel_rfl) (fun _ _ _ h => h) (Or.inl ⟨by rfl, ?_⟩) hHeld ?_ ?_
          rotate_left
          · rintro w' ⟨s0, s1, s2⟩
            go_simp
            with_reducible rfl
          rotate_left
          · simp only [Act.put, List.setIfInBounds_toArray, List.set_cons_zero, List.set_cons_succ, i64_w, i32_w]
            rfl
          refine pure_ (i := 9) (N := some 61) (v := ?_) (a' := ?_) #[true, true, true, true, true, true, true, true, true, true, false, false, false, false, false, false, false, false] rfl rfl (by kernel_rfl) (fun _ _ _ h => h) (Or.inl ⟨by rfl, ?_⟩) ?_ ?_
          rotate_left
          · intro w'
            go_simp
            with_reducible rfl
          rotate_left
          · simp only [Act.put, List.setIfInBounds_toArray, List.set_cons_zero, List.set_cons_succ, i64_w, i32_w]
            rfl
          refine pure_ (i := 10) (N := some 62) (v := ?_) (a' := ?_) #[true, true, true, true, true, true, true, true, true, true, true, false, false, false, false, false, false, false] rfl rfl (by kernel_rfl) (fun _ _ _ h => h) (Or.inl ⟨by rfl, ?_⟩) ?_ ?_
          rotate_left
          · intro w'
            go_simp
            with_reducible rfl
          rotate_left
          · simp only [Act.put, List.setIfInBounds_toArray, List.set_cons_zero, List.set_cons_succ, i64_w, i32_w]
            rfl
          refine take_ (i := 11) (N := some 63) (v := ?_) (a' := ?_) #[true, true, true, true, true, true, true, true, true, true, true, true, false, false, false, false, false, false] rfl rfl (by kernel_rfl) (fun _ _ _ h => h) (Or.inl ⟨by rfl, ?_⟩) hHeld ?_ ?_
          rotate_left
          · rintro w' ⟨s0, s1, s2⟩
            go_simp
            with_reducible rfl
          rotate_left
          · simp only [Act.put, List.setIfInBounds_toArray, List.set_cons_zero, List.set_cons_succ, i64_w, i32_w]
            rfl
          refine one_ (i := 12) (N := some 64) #[true, true, true, true, true, true, true, true, true, true, true, true, true, false, false, false, false, false] rfl rfl (by kernel_rfl) (by decide) (fun K hK => ?_)
          refine goes_ Try.func67 (by kernel_rfl) rfl #[.pointer (some ⟨g, 0, none⟩), .int .i64 x.f1] (by rfl) rfl rfl (by simp only [List.map_toArray, List.map_cons, List.map_nil]; rfl) ?_
          with_reducible refine (bits_end x.f1 _ g b (a + n) HT0.out.rdr hf0 hf1 hl hf2 hf3 hfit2).mono ?_
          rintro e W2 ⟨rfl, m, hW2⟩
          refine ⟨_, rfl, ?_⟩
          have HT2 := Aside0.mk (show Rs w0 w W2 gx (some ad) c b1 b2 g t b (a + n) from hW2 ▸ HT0.out.drewN m)
          have HZ2 := Aside0.mk (show W2.heap[gz]? = some (.cells #[.bool false, .int .i64 0] 48 (0, 0)) from hW2 ▸ HZ0.out)
          clear hW2
          obtain ⟨ad', hA', l0', l1', l2', l3'⟩ := at_T32 (Kd.C_below HC.out HT2.out.bel) (i : Int) hi0 hi1
          obtain rfl : ad = ad' := by injection hA'
          rw [hx] at l0' l1' l2' l3'
          simp only [Int.toNat_natCast] at l0' l1' l2' l3'
          refine hK.out _ _ ⟨(blk_cell HT2.out.obj 3).trans rfl, (blk_cell HT2.out.obj 0).trans rfl, l1'⟩ (fun hHeld => ?_)
          clear hK K
          refine norm_ (a' := ?_) ?_ ?_
          rotate_left
          · show Act.put _ (some 64) _ = _
            simp only [Act.put, List.setIfInBounds_toArray, List.set_cons_zero, List.set_cons_succ, i64_w, i32_w]
            rfl
          refine pure_ (i := 13) (N := some 51) (v := ?_) (a' := ?_) #[true, true, true, true, true, true, true, true, true, true, true, true, true, true, false, false, false, false] rfl rfl (by kernel_rfl) (fun _ _ _ h => h) (Or.inl ⟨by rfl, ?_⟩) ?_ ?_
          rotate_left
          · intro w'
            go_simp
            with_reducible rfl
          rotate_left
          · simp only [Act.put, List.setIfInBounds_toArray, List.set_cons_zero, List.set_cons_succ, i64_w, i32_w]
            rfl
          refine pure_ (i := 14) (N := some 65) (v := ?_) (a' := ?_) #[true, true, true, true, true, true, true, true, true, true, true, true, true, true, true, false, false, false] rfl rfl (by kernel_rfl) (fun _ _ _ h => h) (Or.inl ⟨by rfl, ?_⟩) ?_ ?_
          rotate_left
          · intro w'
            go_simp
            with_reducible rfl
          rotate_left
          · simp only [Act.put, List.setIfInBounds_toArray, List.set_cons_zero, List.set_cons_succ, i64_w, i32_w]
            rfl
          refine pure_ (i := 15) (N := some 66) (v := ?_) (a' := ?_) #[true, true, true, true, true, true, true, true, true, true, true, true, true, true, true, true, false, false] rfl rfl (by kernel_rfl) (fun _ _ _ h => h) (Or.inl ⟨by rfl, ?_⟩) ?_ ?_
          rotate_left
          · intro w'
            go_simp
            with_reducible rfl
          rotate_left
          · simp only [Act.put, List.setIfInBounds_toArray, List.set_cons_zero, List.set_cons_succ, i64_w, i32_w]
            rfl
          refine pure_ (i := 16) (N := some 9) (v := ?_) (a' := ?_) #[true, true, true, true, true, true, true, true, true, true, true, true, true, true, true, true, true, false] rfl rfl (by kernel_rfl) (fun _ _ _ h => h) (Or.inl ⟨by rfl, ?_⟩) ?_ ?_
          rotate_left
          · intro w'
            go_simp
            with_reducible rfl
          rotate_left
          · simp only [Act.put, List.setIfInBounds_toArray, List.set_cons_zero, List.set_cons_succ, i64_w, i32_w]
            rfl
          refine pure_ (i := 17) (N := some 10) (v := ?_) (a' := ?_) #[true, true, true, true, true, true, true, true, true, true, true, true, true, true, true, true, true, true] rfl rfl (by kernel_rfl) (fun _ _ _ h => h) (Or.inl ⟨by rfl, ?_⟩) ?_ ?_
          rotate_left
          · intro w'
            go_simp
            with_reducible rfl
          rotate_left
          · simp only [Act.put, List.setIfInBounds_toArray, List.set_cons_zero, List.set_cons_succ, i64_w, i32_w]
            rfl
          refine done_ (by kernel_rfl) ?_
          have z0 : W2.cell? ⟨gz, 0, none⟩ = some (.bool false) := (blk_cell HZ2.out 0).trans rfl
          have z1 : W2.cell? ⟨gz, 1, none⟩ = some (.int .i64 0) := (blk_cell HZ2.out 1).trans rfl
          have zf0 := blk_frozen HZ2.out 0
          have zf1 := blk_frozen HZ2.out 1
          clear hHeld k0 k1 x0 x1 x2 x3 l0 l1 l2 l3 hask hwhich
          subst hnum
          go_wp2
          exact bodyPost_ret (zret (zend0 HT2.out HZ2.out hgb hgs (.bool false) (.int .i64 0)).1 rfl rfl) rfl ⟨rfl, _, (fun h => by cases h), by omega, hf3, (zend0 HT2.out HZ2.out hgb hgs (.bool false) (.int .i64 0)).2⟩
end Go.Proofs.Ytnadgcdkcabdoaa.Nbw
namespace Go.Proofs.Ytnadgcdkcabdoaa.Dwk
open Go Go.RowKit Go.Proofs.YtnadgcdkcabdoaaW.PrintWords Go.Proofs.YtnadgcdkcabdoaaW.PrintLast Go.Proofs.YtnadgcdkcabdoaaW.PrintMore Go.Proofs.Ytnadgcdkcabdoaa.Aid Go.Proofs.Ytnadgcdkcabdoaa.HandAid Go.Proofs.Ytnadgcdkcabdoaa.U Go.Proofs.Ytnadgcdkcabdoaa.Tab Go.Proofs.Ytnadgcdkcabdoaa.Cdx Go.Proofs.Ytnadgcdkcabdoaa.Cdy Go.Proofs.Ytnadgcdkcabdoaa.Cdz Go.Proofs.Ytnadgcdkcabdoaa.Rdp Go.Proofs.Ytnadgcdkcabdoaa.Mpp Go.Proofs.Ytnadgcdkcabdoaa.Dcm Go.Proofs.Ytnadgcdkcabdoaa.Nrd Go.Proofs.Ytnadgcdkcabdoaa.Nbr Go.Proofs.Ytnadgcdkcabdoaa.Nbw
/-- The numbers behind a place. -/
def decL (t : List Ln) (b : List Int) : Nat → Int → List S48 → List S48 × Int × Int
  | 0, a, l => (l, a, 0)
  | k + 1, a, l => if (numG t b a 16 0).2.1 = 0 then decL t b k (numG t b a 16 0).2.2 (l ++ [⟨(numG t b a 16 0).1.1, (numG t b a 16 0).1.2⟩]) else ([], 0, (numG t b a 16 0).2.1)
def decP (t : List Ln) (b : List Int) (n : Int) : List S48 × Int × Int :=
  if vldP t then (if n < 0 ∨ 20000 < n then ([], 0, 2) else decL t b n.toNat 0 []) else ([], 0, 20)
theorem Rs.now {w0 ws wr : World} {gx : Nat} {A : Option Addr} {c b1 b2 g : Nat} {t : List Ln} {b : List Int} {a : Int} (h : Rs w0 ws wr gx A c b1 b2 g t b a) : Rs w0 wr wr gx A c b1 b2 g t b a :=
  ⟨h.obj, h.m1, h.m2, h.rdr, h.bel, ⟨rfl, rfl, rfl, Nat.le_refl _, fun _ _ _ => rfl⟩⟩
theorem rs_row {w0 ws wr w1 : World} {gx : Nat} {A : Option Addr} {c b1 b2 g : Nat} {t : List Ln} {b : List Int} {a : Int} (h : Rs w0 ws wr gx A c b1 b2 g t b a) {v : Value} {xs : List S48} (hR : Kd.R k48 48 wr w0.heap.size (fun _ => True) v xs) (hg : wr.grownBy w1 v.ownBlock) : Rs w0 w1 w1 gx A c b1 b2 g t b a := by
  cases hv : v.ownBlock with
  | none =>
    rw [hv] at hg
    exact Rs.now (h.below ⟨hg.os, hg.tape, hg.output, hg.size, fun k hk => hg.block k hk (by simp)⟩)
  | some k =>
    rw [hv] at hg
    obtain ⟨cells, hc⟩ := Kd.R_typed hR k hv
    exact Rs.now ((⟨h.obj, h.m1, h.m2, h.rdr, h.bel, ⟨h.bel.os, h.bel.tape, h.bel.output, h.bel.size, fun i hi _ => h.bel.block i hi⟩⟩ : Rs w0 w0 wr gx A c b1 b2 g t b a).beside hc (by decide) (by decide) (by decide) hg (Kd.R_base hR k hv) (Kd.R_base hR k hv))
set_option maxHeartbeats 8000000 in
set_option maxRecDepth 100000 in
theorem decode_main (A : Option Addr) (c : Nat) (t : List Ln) (A2 : Option Addr) (c2 : Nat) (b : List Int) (n : Int) (w : World) (hv : vldP t) (hn0 : 0 ≤ n) (hn1 : n ≤ 20000) (hC : Kd.C k32 w A t.length t) (hc : t.length ≤ c) (hC2 : Kd.C (Kd.int .u8) w A2 b.length b) (hc2 : b.length ≤ c2) (hb : Bytes b) (hl : b.length ≤ 140737488355328)
    (R : List S48 × Int × Int) (hR : decL t b n.toNat 0 [] = R) :
    Calls Try.prog 34 #[.slice A t.length c, .slice A2 b.length c2, .int .i64 n] w fun e w' => ∃ v0, e = .returned (.tuple #[v0, .int .i64 R.2.1, .int .i64 R.2.2]) ∧ Kd.R k48 48 w' w.heap.size (fun _ => True) v0 R.1 ∧ Below w.heap.size w w' := by
  obtain ⟨K0, hval⟩ := Ev.rounds (pvalid_ev t)
  rw [decide_eq_true hv] at hval
  have HVA := Aside0.mk hval
  have HV := Aside0.mk hv
  have HC := Aside0.mk hC
  have HC2 := Aside0.mk hC2
  have HB := Aside0.mk hb
  clear hval hv hC hC2 hb
  have hu48 := Try.underlying48
  have hu100 := Try.underlying100
  have hnn : ¬ n < 0 := by omega
  have hnn2 : ¬ 20000 < n := by omega
  go_enter Try.func34, Try.ntmps34
  go_wp2_with (first
    | (go_at_call 23; with_reducible refine (prefix_Valid.calls K0 A c t true _ HC.out hc HVA.out).mono ?_; rintro e w1 ⟨rfl, hb1⟩; have HB1 := Aside0.mk hb1; clear hb1))
  refine (newreader_calls A c t A2 c2 b _ HV.out (Kd.C_below HC.out HB1.out) hc (Kd.C_below HC2.out HB1.out) hc2 hl).mono ?_
  rintro e w2 ⟨gx, rfl, hgx, b1, b2, g, Ac, cc, n1, n2, hg, hst⟩
  have HST := Aside0.mk hst
  have HG := Aside0.mk hg
  clear hst hg hgx
  go_wp2_with (fail)
  have hle1 := HB1.out.size
  have hg : w.heap.size ≤ g := Nat.le_trans hle1 HG.out
  have HT := Aside0.mk (show Rs w w2 w2 gx A c b1 b2 g t b 0 from ⟨HST.out.obj, ⟨_, HST.out.m1⟩, ⟨_, HST.out.m2⟩, HST.out.rdr, below_then HB1.out hle1 HST.out.bel, ⟨rfl, rfl, rfl, Nat.le_refl _, fun _ _ _ => rfl⟩⟩)
  clear HST HG HB1 hle1
  go_loopw [6, 27] (fun v x wr => ∃ k : Nat, ∃ a : Int, ∃ acc : List S48, (k : Int) ≤ n ∧ x = .int .i64 k ∧ 0 ≤ a ∧ a ≤ 8 * b.length ∧ decL t b (n.toNat - k) a acc = R ∧ acc.length = k ∧ Aside0 (Rs w wr wr gx A c b1 b2 g t b a) ∧ Aside0 (Kd.R k48 48 wr w.heap.size (fun _ => True) v acc)) (fun _ x _ => (n - intOf x).toNat)
  case atStart => exact ⟨0, 0, [], by omega, rfl, by omega, by omega, hR, rfl, HT, ⟨Kd.R_nil _ _ _ _ _⟩⟩
  case round =>
    obtain ⟨k, a, acc, hk, rfl, ha, ha2, hdec, hlen, HS, HO⟩ := hrel
    by_cases hlt : (k : Int) < n
    · obtain ⟨⟨⟨nn, N⟩, er, nx⟩, hR1⟩ : ∃ R1, numG t b a 16 0 = R1 := ⟨_, rfl⟩
      have hstep : decL t b (n.toNat - k) a acc = if er = 0 then decL t b (n.toNat - (k + 1)) nx (acc ++ [⟨nn, N⟩]) else ([], 0, er) := by
        rw [show n.toNat - k = (n.toNat - (k + 1)) + 1 by omega]
        simp only [decL]
        rw [hR1]
      have hdec := hstep.symm.trans hdec
      clear hstep
      by_cases he : er = 0
      · subst he
        rw [if_pos rfl] at hdec
        go_wp2_with (fail)
        refine (number_calls w _ gx A c b1 b2 g t b a HV.out HB.out hl HC.out HS.out ha ha2 hg _ hR1).mono ?_
        rintro e W ⟨rfl, a', h1, h2, h3, h4⟩
        obtain rfl : a' = nx := h1 rfl
        obtain ⟨vr, hrb, _⟩ := HS.out.rdr
        have HO2 := Aside0.mk (Kd.R_grown1 HO.out rfl h4.gro (Kd.R_ne HO.out hrb (by decide)))
        have HS2 := Aside0.mk (Rs.now h4)
        clear h4 hrb HS HO h1
        have hacc : acc.length ≤ 20000 := by omega
        go_wp2_with ((with_reducible refine gate_builtin (b := .append) (xs := #[.tmp 37, .tmp 39]) rfl ?_); at_builtin; refine Kd.R_append k48 (w0 := w) w.heap.size rfl (.tmp 37) (.tmp 39) 54 48 (.agg #[(.bool false), (.int .i64 0)]) 16 rfl Try.underlying54 info48 rfl (by decide) (by omega) u6 acc (⟨nn, N⟩ : S48) [.bool nn, .int .i64 N] (fun _ => True) (fun _ => False) rfl ?aX (k48_mkM _ _ _ (⟨nn, N⟩ : S48)) (fun _ hk => hk.elim) (fun _ _ => trivial) (Kd.R_alloc HO2.out _) (below_alloc HS2.out.bel _) ?aS (by omega) ?_; (case aX => first | (go_simp; done) | rfl); (case aS => exact Nat.le_trans HS2.out.bel.size (by rw [World.size_alloc]; omega)); intro v2 w3 ho hb2 hgr hat; have HO3 := Aside0.mk ho; have HS3 := Aside0.mk (rs_row (HS2.out.below (below_alloc (Below.refl _ _) _)) (Kd.R_alloc HO2.out _) hgr); clear ho hb2 hgr hat)
        exact ⟨⟨k + 1, a', acc ++ [⟨nn, N⟩], by omega, rfl, h2, h3, hdec, by rw [List.length_append, hlen]; rfl, HS3, HO3⟩, by simp [intOf]; omega⟩
      · rw [if_neg he] at hdec
        subst hdec
        have e0 : (er == 0) = false := beq_eq_false_iff_ne.mpr he
        have e1 : (er != 0) = true := bne_iff_ne.mpr he
        go_wp2_with (fail)
        refine (number_calls w _ gx A c b1 b2 g t b a HV.out HB.out hl HC.out HS.out ha ha2 hg _ hR1).mono ?_
        rintro e W ⟨rfl, a', h1, h2, h3, h4⟩
        have HS2 := Aside0.mk (Rs.now h4)
        clear h4 HS HO h1 hR1
        go_wp2_with (fail)
        go_ret3
        exact ⟨_, rfl, Kd.R_nil _ _ _ _ _, below_alloc HS2.out.bel _⟩
    · have hkn : n.toNat - k = 0 := by omega
      rw [hkn] at hdec
      simp only [decL] at hdec
      subst hdec
      have x3 : wr.cell? ⟨gx, 3, none⟩ = some (.pointer (some ⟨g, 0, none⟩)) := (blk_cell HS.out.obj 3).trans rfl
      obtain ⟨Ar, cr, r0, r1, r2⟩ := HS.out.rdr.cells
      go_wp2_with (fail)
      refine (at_real _ g a r1 r2).mono ?_
      rintro e w4 ⟨rfl, rfl⟩
      go_wp2_with (fail)
      go_ret3
      exact ⟨_, rfl, HO.out, HS.out.bel⟩
theorem decode_calls (A : Option Addr) (c : Nat) (t : List Ln) (A2 : Option Addr) (c2 : Nat) (b : List Int) (n : Int) (w : World) (hC : Kd.C k32 w A t.length t) (hc : t.length ≤ c) (hC2 : Kd.C (Kd.int .u8) w A2 b.length b) (hc2 : b.length ≤ c2) (hb : Bytes b) (hl : b.length ≤ 140737488355328) :
    Calls Try.prog 34 #[.slice A t.length c, .slice A2 b.length c2, .int .i64 n] w fun e w' => ∃ v0, e = .returned (.tuple #[v0, .int .i64 (decP t b n).2.1, .int .i64 (decP t b n).2.2]) ∧ Kd.R k48 48 w' w.heap.size (fun _ => True) v0 (decP t b n).1 ∧ Below w.heap.size w w' := by
  by_cases hv : vldP t
  · by_cases hn : n < 0 ∨ 20000 < n
    · have e : decP t b n = ([], 0, 2) := by unfold decP; rw [if_pos hv, if_pos hn]
      rw [e]
      obtain ⟨K0, hval⟩ := Ev.rounds (pvalid_ev t)
      rw [decide_eq_true hv] at hval
      have HVA := Aside0.mk hval
      have HC := Aside0.mk hC
      clear hval hC hC2 e
      have hd : (decide (n < 0) || decide (20000 < n)) = true := by simpa using hn
      rcases hn with hn | hn
      · go_enter Try.func34, Try.ntmps34
        go_wp2_with (fail)
        refine (prefix_Valid.calls K0 A c t true _ HC.out hc HVA.out).mono ?_
        rintro e w1 ⟨rfl, hb1⟩
        go_wp2_with (fail)
        go_ret3
        exact ⟨_, rfl, Kd.R_nil _ _ _ _ _, hb1⟩
      · have hn0 : ¬ n < 0 := by omega
        go_enter Try.func34, Try.ntmps34
        go_wp2_with (fail)
        refine (prefix_Valid.calls K0 A c t true _ HC.out hc HVA.out).mono ?_
        rintro e w1 ⟨rfl, hb1⟩
        go_wp2_with (fail)
        go_ret3
        exact ⟨_, rfl, Kd.R_nil _ _ _ _ _, hb1⟩
    · have e : decP t b n = decL t b n.toNat 0 [] := by unfold decP; rw [if_pos hv, if_neg hn]
      rw [e]
      exact decode_main A c t A2 c2 b n w hv (by omega) (by omega) hC hc hC2 hc2 hb hl _ rfl
  · have e : decP t b n = ([], 0, 20) := by unfold decP; rw [if_neg hv]
    rw [e]
    obtain ⟨K0, hval⟩ := Ev.rounds (pvalid_ev t)
    rw [decide_eq_false hv] at hval
    have HVA := Aside0.mk hval
    have HC := Aside0.mk hC
    clear hval hC hC2 e
    go_enter Try.func34, Try.ntmps34
    go_wp2_with (fail)
    refine (prefix_Valid.calls K0 A c t false _ HC.out hc HVA.out).mono ?_
    rintro e w1 ⟨rfl, hb1⟩
    go_wp2_with (fail)
    go_ret3
    exact ⟨_, rfl, Kd.R_nil _ _ _ _ _, hb1⟩
end Go.Proofs.Ytnadgcdkcabdoaa.Dwk
namespace Go.Proofs.Ytnadgcdkcabdoaa.U
open Go Go.RowKit Go.Proofs.YtnadgcdkcabdoaaW.PrintWords Go.Proofs.YtnadgcdkcabdoaaW.PrintLast Go.Proofs.YtnadgcdkcabdoaaW.PrintMore Go.Proofs.Ytnadgcdkcabdoaa.Aid Go.Proofs.Ytnadgcdkcabdoaa.HandAid Go.Proofs.Ytnadgcdkcabdoaa.Dwk
def prefix_Decode.f (l0 : List S32) (l1 : List Int) (a2 : Int) : Option (List S48 × Int × Int) := if (l1.all fun x => decide (0 ≤ x ∧ x ≤ 255)) = true ∧ l1.length ≤ 140737488355328 then some (decP l0 l1 a2) else none
theorem prefix_Decode.calls (A0 : Option Addr) (c0 : Nat) (l0 : List S32) (A1 : Option Addr) (c1 : Nat) (l1 : List Int) (a2 : Int) (r1 : List S48) (r2 r3 : Int) (w : World) (hr0 : Kd.C k32 w A0 l0.length l0) (hc0 : l0.length ≤ c0) (hr1 : Kd.C (Kd.int .u8) w A1 l1.length l1) (hc1 : l1.length ≤ c1) (h : prefix_Decode.f l0 l1 a2 = some (r1, r2, r3)) :
    Calls Try.prog 34 #[.slice A0 l0.length c0, .slice A1 l1.length c1, .int .i64 a2] w fun e w' => ∃ v0_ : Value, e = .returned (.tuple #[v0_, .int .i64 r2, .int .i64 r3]) ∧ Kd.R k48 48 w' w.heap.size (fun _ => True) v0_ r1 ∧ Below w.heap.size w w' := by
  unfold prefix_Decode.f at h
  split at h
  · rename_i hc
    have e := Option.some.inj h
    have hb : Bytes l1 := fun x hx => of_decide_eq_true (List.all_eq_true.1 hc.1 x hx)
    have hd := decode_calls A0 c0 l0 A1 c1 l1 a2 w hr0 hc0 hr1 hc1 hb hc.2
    rw [e] at hd
    exact hd
  · cases h
end Go.Proofs.Ytnadgcdkcabdoaa.U
namespace Go.Proofs.Ytnadgcdkcabdoaa.U
open Go.RowKit Go.Proofs.YtnadgcdkcabdoaaW.PrintWords Go.Proofs.YtnadgcdkcabdoaaW.PrintLast Go.Proofs.YtnadgcdkcabdoaaW.PrintMore
attribute [local go_sem] max2_int min2_int max_two min_two max_three min_three max_four min_four   -- for this text's walks alone
def incunableref04_Codes.l0 : Nat → List (S32) → List (List Int) → List (S32) → Int → Int → Option ((List (List Int)))
  | 0, _, _, _, _, _ => none
  | k + 1, x0, x3, x6, x7, x8 => if x8 < x7 then (if 0 ≤ x8 then (if x8 < (x6.length : Int) then ((incunableref04_used.f ((rd_T32 x6 x8).f0) ((rd_T32 x6 x8).f1) ((rd_T32 x6 x8).f2) ((rd_T32 x6 x8).f3)).bind fun t406 => (if t406 = true then ((incunableref04_Code.f k x0 x8).bind fun t407 => (if x3.length < 5864062014805 then (incunableref04_Codes.l0 k x0 (x3 ++ [t407]) x6 x7 (wrap64 (x8 + 1))) else (none))) else (if x3.length < 5864062014805 then (incunableref04_Codes.l0 k x0 (x3 ++ [([] : List Int)]) x6 x7 (wrap64 (x8 + 1))) else (none)))) else (none)) else (none)) else (some x3)
def incunableref04_Codes.f (k : Nat) (l0 : List (S32)) : Option ((List (List Int))) := incunableref04_Codes.l0 k l0 ([] : List (List Int)) l0 (l0.length : Int) 0
theorem incunableref04_Codes.mono_l : ∀ k, (∀ y0 y1 y2 y3 y4, LeO (incunableref04_Codes.l0 k y0 y1 y2 y3 y4) (incunableref04_Codes.l0 (k + 1) y0 y1 y2 y3 y4))
  | 0 => fun _ _ _ _ _ r h => by simp [incunableref04_Codes.l0] at h
  | k + 1 => by
    have ih0 := incunableref04_Codes.mono_l k
    · intro y0 y1 y2 y3 y4
      unfold incunableref04_Codes.l0
      repeat' first
      | (with_reducible exact ih0 _ _ _ _ _)
      | (with_reducible exact incunableref04_Code.mono _ _ _)
      | (with_reducible exact LeO.refl _)
      | (with_reducible exact LeO.none _)
      | (with_reducible refine LeO.ite ?_ ?_)
      | (with_reducible refine LeO.bind ?_ (fun _ => ?_))
      | exact ih0 _ _ _ _ _
      | exact incunableref04_Code.mono _ _ _
      | exact LeO.none _
      | refine LeO.ite ?_ ?_
      | refine LeO.bind ?_ (fun _ => ?_)
theorem incunableref04_Codes.mono : ∀ a0 k, LeO (incunableref04_Codes.f k a0) (incunableref04_Codes.f (k + 1) a0) := by
 intro a0 k; have ih0 := incunableref04_Codes.mono_l k; unfold incunableref04_Codes.f
 repeat' first
  | (with_reducible exact ih0 _ _ _ _ _)
  | (with_reducible exact incunableref04_Code.mono _ _ _)
  | (with_reducible exact LeO.refl _)
  | (with_reducible exact LeO.none _)
  | (with_reducible refine LeO.ite ?_ ?_)
  | (with_reducible refine LeO.bind ?_ (fun _ => ?_))
  | exact ih0 _ _ _ _ _
  | exact incunableref04_Code.mono _ _ _
  | exact LeO.none _
  | refine LeO.ite ?_ ?_
  | refine LeO.bind ?_ (fun _ => ?_)
set_option maxHeartbeats 8000000 in
set_option maxRecDepth 100000 in
theorem incunableref04_Codes.calls (k : Nat) (A0 : Option Addr) (c0 : Nat) (l0 : List (S32)) (r : List (List Int)) (w : World) (hr0 : Kd.C k32 w A0 l0.length l0) (hc0 : l0.length ≤ c0) (h : incunableref04_Codes.f k l0 = some r) :
    Calls Try.prog 28 #[.slice A0 l0.length c0] w fun e w' => ∃ v0_ : Value, e = .returned (v0_) ∧ Kd.S (Kd.slice 5 (Kd.int .u8)) 46 w' w.heap.size (fun _ => True) v0_ r ∧ Below w.heap.size w w' := by
 have hu32 := Try.underlying32; have HR0 := Aside0.mk hr0; have HC0 := Aside0.mk hc0; clear hr0 hc0; have HB := Aside0.mk (Below.refl w.heap.size w); have H : (incunableref04_Codes.l0 k l0 ([] : List (List Int)) l0 (l0.length : Int) 0) = some r := h; clear h; have H' := Aside0.mk H; clear H; go_enter Try.func28, Try.ntmps28; go_wp2; go_loopg [3, 8] k (fun kq v3 v8 w' => ∃ (x3_1 : List (List Int)) (x8_1 : Int), v8 = .int .i64 x8_1 ∧ Aside0 (incunableref04_Codes.l0 kq l0 x3_1 l0 (l0.length : Int) x8_1 = some r) ∧ Aside0 (kq ≤ k) ∧ Aside0 (Kd.S (Kd.slice 5 (Kd.int .u8)) 46 w' w.heap.size (fun _ => True) v3 x3_1) ∧ Aside0 (Below w.heap.size w w')); (case atStart => exact ⟨(([] : List (List Int))), (0), (by first | rfl | (simp; done) | (simp [*]; done)), H', ⟨Nat.le_refl _⟩, ⟨by first | exact Kd.S_nil _ _ _ _ _ | exact Kd.N_nil _ _ _ _ _ | exact Kd.V_nil _ _ _ _ _ | exact Kd.Q_nil _ _ _ _ _ | exact Kd.R_nil _ _ _ _ _⟩, ⟨by repeat (first | (with_reducible first | exact HB.out | apply below_alloc | apply pw_below_drewN | apply below_drew1) | exact HB.out)⟩⟩)
 case round =>
  clear H'; obtain ⟨x3_1, x8_1, rfl, HA, HK1, HO_3, HB⟩ := hrel
  cases gk with
  | zero => exact absurd HA.out (by simp [incunableref04_Codes.l0])
  | succ k1 =>
   have H := HA.out; clear HA; simp only [incunableref04_Codes.l0] at H; by_cases c2 : x8_1 < (l0.length : Int)
   (· rw [if_pos c2] at H; have c2b0 : decide (x8_1 < (l0.length : Int)) = true := decide_eq_true c2; clear c2; by_cases c3 : 0 ≤ x8_1; (· rw [if_pos c3] at H; have c3b0 : decide (0 ≤ x8_1) = true := decide_eq_true c3; clear c3; by_cases c4 : x8_1 < (l0.length : Int); (· rw [if_pos c4] at H; have c4b0 : decide (x8_1 < (l0.length : Int)) = true := decide_eq_true c4; clear c4; replace H := Option.bind_eq_some_iff.mp H; obtain ⟨t406, A50, H⟩ := H; replace H : (if t406 = true then ((incunableref04_Code.f k1 l0 x8_1).bind fun t407 => (if x3_1.length < 5864062014805 then (incunableref04_Codes.l0 k1 l0 (x3_1 ++ [t407]) l0 (l0.length : Int) (wrap64 (x8_1 + 1))) else (none))) else (if x3_1.length < 5864062014805 then (incunableref04_Codes.l0 k1 l0 (x3_1 ++ [([] : List Int)]) l0 (l0.length : Int) (wrap64 (x8_1 + 1))) else (none))) = some r := H; have A5 := Aside0.mk A50; clear A50; by_cases c6 : t406 = true; (· subst c6; (have H1 : ((incunableref04_Code.f k1 l0 x8_1).bind fun t407 => (if x3_1.length < 5864062014805 then (incunableref04_Codes.l0 k1 l0 (x3_1 ++ [t407]) l0 (l0.length : Int) (wrap64 (x8_1 + 1))) else (none))) = some r := by rw [if_pos rfl] at H; exact H); clear H; have H := H1; clear H1; replace H := Option.bind_eq_some_iff.mp H; obtain ⟨t407, A70, H⟩ := H; replace H : (if x3_1.length < 5864062014805 then (incunableref04_Codes.l0 k1 l0 (x3_1 ++ [t407]) l0 (l0.length : Int) (wrap64 (x8_1 + 1))) else (none)) = some r := H; have A7 := Aside0.mk A70; clear A70; by_cases c8 : x3_1.length < 5864062014805; (· rw [if_pos c8] at H; have LMc8 := Aside0.mk c8; clear c8; obtain ⟨y410, hy410⟩ : ∃ y_ : List (List Int), y_ = (x3_1 ++ [t407]) := ⟨_, rfl⟩; (replace H : (incunableref04_Codes.l0 k1 l0 y410 l0 (l0.length : Int) (wrap64 (x8_1 + 1))) = some r := by first | (rw [hy410]; with_reducible exact H) | (have H2_ := (Option.bind_some _ _).symm.trans H; rw [hy410]; with_reducible exact H2_) | (have H2_ := (Option.bind_some _ _).symm.trans H; with_reducible exact H2_) | with_reducible exact H | (rw [hy410]; exact H) | exact H); have Ny410 := Aside0.mk hy410; clear hy410; have H' := Aside0.mk H; clear H; have p404 : 0 ≤ (x8_1 : Int) := of_decide_eq_true (by first | (with_reducible assumption) | assumption); have q404 : x8_1 < (l0.length : Int) := of_decide_eq_true (by first | (with_reducible assumption) | assumption); obtain ⟨ad404, e404, hx404_0, hx404_1, hx404_2, hx404_3⟩ := at_T32 HR0.out x8_1 p404 q404; cases e404; replace hx404_0 := (HB.out.cell (World.block_lt_of_cell? w _ hx404_0)).trans hx404_0; replace hx404_1 := (HB.out.cell (World.block_lt_of_cell? w _ hx404_1)).trans hx404_1; replace hx404_2 := (HB.out.cell (World.block_lt_of_cell? w _ hx404_2)).trans hx404_2; replace hx404_3 := (HB.out.cell (World.block_lt_of_cell? w _ hx404_3)).trans hx404_3; replace p404 := eq_true p404; replace q404 := eq_true q404; go_wp2_with (first | ((with_reducible refine gate_dst (N := 5) rfl ?_); refine box_event ?hg (N := 5) ?hd (cs := #[.int .i64 0, .int .i64 0, .int .i64 0, .int .i64 0]) (t := 32) ?hr ?_; (case hd => rfl); (case hg => rfl); (case hr => first | (go_simp; done) | (go_simp; rfl)); intro gb405 hg w9 hbox hb; have n0_ := Aside0.mk (Kd.S_below (by (with_reducible repeat (first | apply Kd.S_alloc | apply Kd.S_drewN | apply Kd.S_drew)); exact HO_3.out) hb); have n1_ := Aside0.mk (below_step (by repeat (first | (with_reducible first | exact HB.out | apply below_alloc | apply pw_below_drewN | apply below_drew1) | exact HB.out)) hb); have n2_ := Aside0.mk (hbox); have n3_ := Aside0.mk ((by rw [hg]; exact (below_size (by repeat (first | (with_reducible first | exact HB.out | apply below_alloc | apply pw_below_drewN | apply below_drew1) | exact HB.out))) : w.heap.size ≤ gb405)); have n4_ := Aside0.mk ((by rw [hg]; exact (below_size (by repeat (first | (with_reducible first | exact HB.out | apply below_alloc | apply pw_below_drewN | apply below_drew1) | exact HB.out))) : w.heap.size ≤ gb405)); clear HO_3; clear HB; have HO_3 := n0_; have HB := n1_; have BK405 := n2_; have GW405 := n3_; have GE405 := n4_; clear n0_ n1_ n2_ n3_ n4_; clear hb hbox hg; have hcz10_0 : w9.cell? ⟨gb405, 0, none⟩ = some (.int .i64 0) := (blk_cell BK405.out 0).trans rfl; have hcz10_1 : w9.cell? ⟨gb405, 1, none⟩ = some (.int .i64 0) := (blk_cell BK405.out 1).trans rfl; have hcz10_2 : w9.cell? ⟨gb405, 2, none⟩ = some (.int .i64 0) := (blk_cell BK405.out 2).trans rfl; have hcz10_3 : w9.cell? ⟨gb405, 3, none⟩ = some (.int .i64 0) := (blk_cell BK405.out 3).trans rfl; have hfz10_0 := blk_frozen BK405.out 0; have hfz10_1 := blk_frozen BK405.out 1; have hfz10_2 := blk_frozen BK405.out 2; have hfz10_3 := blk_frozen BK405.out 3) | ((with_reducible refine gate_callee (f := 51) rfl ?_); refine goesL_ (some 14) rfl rfl Try.func51 (by kernel_rfl) rfl #[.agg #[.int .i64 ((rd_T32 l0 x8_1).f0), .int .i64 ((rd_T32 l0 x8_1).f1), .int .i64 ((rd_T32 l0 x8_1).f2), .int .i64 ((rd_T32 l0 x8_1).f3)]] rfl (by (try simp only [List.map_toArray, List.map_cons, List.map_nil]); first | done | rfl | (simp only [List.length_drop, List.length_take]; rfl)) ?_; (with_reducible refine (incunableref04_used.calls ((rd_T32 l0 x8_1).f0) ((rd_T32 l0 x8_1).f1) ((rd_T32 l0 x8_1).f2) ((rd_T32 l0 x8_1).f3) true _ A5.out).mono ?_); rintro e w11 ⟨rfl, hb⟩; refine ⟨_, rfl, ?_⟩; have n0_ := Aside0.mk (Kd.S_below (by (with_reducible repeat (first | apply Kd.S_alloc | apply Kd.S_drewN | apply Kd.S_drew)); exact (Kd.S_mono (Kd.S_far (p := ⟨gb405, 3, none⟩) (Kd.S_far (p := ⟨gb405, 2, none⟩) (Kd.S_far (p := ⟨gb405, 1, none⟩) (Kd.S_far (p := ⟨gb405, 0, none⟩) (Kd.S_types HO_3.out BK405.out (by decide)) (fun _ hk => hk.2) (.int .i64 ((rd_T32 l0 x8_1).f0))) (fun _ hk => hk.2) (.int .i64 ((rd_T32 l0 x8_1).f1))) (fun _ hk => hk.2) (.int .i64 ((rd_T32 l0 x8_1).f2))) (fun _ hk => hk.2) (.int .i64 ((rd_T32 l0 x8_1).f3))) (fun _ h_ => h_.1))) hb); have n1_ := Aside0.mk (blk_below (g := gb405) (o := .cells #[.int .i64 ((rd_T32 l0 x8_1).f0), .int .i64 ((rd_T32 l0 x8_1).f1), .int .i64 ((rd_T32 l0 x8_1).f2), .int .i64 ((rd_T32 l0 x8_1).f3)] 32 (0, 0)) (by (with_reducible repeat (first | refine blk_drewN ?_ _ | refine blk_drew ?_ | refine blk_alloc ?_ _)); refine blk_put (cs := #[.int .i64 ((rd_T32 l0 x8_1).f0), .int .i64 ((rd_T32 l0 x8_1).f1), .int .i64 ((rd_T32 l0 x8_1).f2), .int .i64 0]) ?_ 3 _ rfl; (with_reducible repeat (first | refine blk_drewN ?_ _ | refine blk_drew ?_ | refine blk_alloc ?_ _)); refine blk_put (cs := #[.int .i64 ((rd_T32 l0 x8_1).f0), .int .i64 ((rd_T32 l0 x8_1).f1), .int .i64 0, .int .i64 0]) ?_ 2 _ rfl; (with_reducible repeat (first | refine blk_drewN ?_ _ | refine blk_drew ?_ | refine blk_alloc ?_ _)); refine blk_put (cs := #[.int .i64 ((rd_T32 l0 x8_1).f0), .int .i64 0, .int .i64 0, .int .i64 0]) ?_ 1 _ rfl; (with_reducible repeat (first | refine blk_drewN ?_ _ | refine blk_drew ?_ | refine blk_alloc ?_ _)); refine blk_put (cs := #[.int .i64 0, .int .i64 0, .int .i64 0, .int .i64 0]) ?_ 0 _ rfl; (with_reducible repeat (first | refine blk_drewN ?_ _ | refine blk_drew ?_ | refine blk_alloc ?_ _)); exact BK405.out) hb); have n2_ := Aside0.mk (below_step (by repeat (first | (with_reducible first | exact HB.out | apply below_alloc | apply pw_below_drewN | apply below_drew1 | refine below_set ?_ GE405.out) | exact HB.out)) hb); clear HO_3; clear BK405; clear HB; have HO_3 := n0_; have BK405 := n1_; have HB := n2_; clear n0_ n1_ n2_; (try clear hb); (try clear hb2); (try clear hk); (try clear hi)) | ((with_reducible refine gate_callee (f := 52) rfl ?_); refine goesL_ (some 18) rfl rfl Try.func52 (by kernel_rfl) rfl #[.slice (some ad404) l0.length c0, .int .i64 x8_1] rfl (by (try simp only [List.map_toArray, List.map_cons, List.map_nil]); first | done | rfl | (simp only [List.length_drop, List.length_take]; rfl)) ?_; (with_reducible refine (incunableref04_Code.calls k1 _ _ l0 x8_1 t407 _ ?side1 ?side2 A7.out).mono ?_); (case side1 => repeat (first | exact (Kd.C_below HR0.out HB.out) | (with_reducible refine Kd.C_alloc ?_ _) | (with_reducible refine Kd.C_drewN ?_ _) | (with_reducible refine Kd.C_drew ?_))); (case side2 => exact HC0.out); rintro e w12 ⟨v408, rfl, ho0, hb⟩; refine ⟨_, rfl, ?_⟩; have n0_ := Aside0.mk (Kd.S_elder' (by (with_reducible repeat (first | apply Kd.S_alloc | apply Kd.S_drewN | apply Kd.S_drew)); exact HO_3.out) (Kd.R_base ho0) hb); have n1_ := Aside0.mk (Kd.R_lower ho0 (below_size (by repeat (first | (with_reducible first | exact HB.out | apply below_alloc | apply pw_below_drewN | apply below_drew1 | refine below_set ?_ GE405.out) | exact HB.out)))); have n2_ := Aside0.mk (blk_below (g := gb405) (o := .cells #[.int .i64 ((rd_T32 l0 x8_1).f0), .int .i64 ((rd_T32 l0 x8_1).f1), .int .i64 ((rd_T32 l0 x8_1).f2), .int .i64 ((rd_T32 l0 x8_1).f3)] 32 (0, 0)) (by (with_reducible repeat (first | refine blk_drewN ?_ _ | refine blk_drew ?_ | refine blk_alloc ?_ _)); exact BK405.out) hb); have n3_ := Aside0.mk (below_step (by repeat (first | (with_reducible first | exact HB.out | apply below_alloc | apply pw_below_drewN | apply below_drew1 | refine below_set ?_ GE405.out) | exact HB.out)) hb); clear HO_3; clear BK405; clear HB; have HO_3 := n0_; have HO409 := n1_; have BK405 := n2_; have HB := n3_; clear n0_ n1_ n2_ n3_; (try clear hb); (try clear hb2); (try clear hk); (try clear hi); (try clear ho0); obtain ⟨Ao14, co14, eo14⟩ := Kd.R_slice HO409.out; subst eo14) | ((with_reducible refine gate_builtin (b := .append) (xs := #[.tmp 15, .tmp 19]) rfl ?_); at_builtin; refine Kd.S_append (Kd.slice 5 (Kd.int .u8)) (w0 := w) w.heap.size rfl (.tmp 15) (.tmp 19) 41 46 (.slice none 0 0) 24 rfl Try.underlying41 info46 rfl (by decide) (by omega) u3 x3_1 t407 [.slice Ao14 t407.length co14] (fun _ => True) (fun k_ => some k_ = (.slice Ao14 t407.length co14 : Value).ownBlock) rfl rfl ?aP (fun k_ hk_ => ((Kd.R_mono (ok' := fun k_ => ((fun _ => True)) k_ ∧ some k_ ≠ (u3 : Value).ownBlock) (Kd.R_apart' (HO409.out) (Kd.S_typed HO_3.out) (by decide)) (fun k_ hk => ⟨trivial, hk.2⟩))).1 k_ hk_.symm) ?aF ?aO ?aB ?aS ?aL ?_; (case aP => exact Kd.M_row (Kd.R_mono (Kd.R_tight rfl (Kd.R_mono (ok' := fun k_ => ((fun _ => True)) k_ ∧ some k_ ≠ (u3 : Value).ownBlock) (Kd.R_apart' (HO409.out) (Kd.S_typed HO_3.out) (by decide)) (fun k_ hk => ⟨trivial, hk.2⟩))) (fun _ h_ => h_))); (case aB => exact (by repeat (first | (with_reducible first | exact HB.out | apply below_alloc | apply pw_below_drewN | apply below_drew1 | refine below_set ?_ GE405.out) | exact HB.out))); (case aF => exact (fun _ _ => trivial)); (case aO => exact (by (with_reducible repeat (first | apply Kd.S_alloc | apply Kd.S_drewN | apply Kd.S_drew)); exact Kd.S_mono HO_3.out (fun k_ hk => ⟨trivial, fun e_ => hk.2 e_⟩))); (case aS => exact (below_size (by repeat (first | (with_reducible first | exact HB.out | apply below_alloc | apply pw_below_drewN | apply below_drew1 | refine below_set ?_ GE405.out) | exact HB.out)))); (case aL => have := LMc8.out; omega); intro v411 w13 ho hb hg hat; rw [← Ny410.out] at ho; have n0_ := Aside0.mk (blk_grown (g := gb405) (o := .cells #[.int .i64 ((rd_T32 l0 x8_1).f0), .int .i64 ((rd_T32 l0 x8_1).f1), .int .i64 ((rd_T32 l0 x8_1).f2), .int .i64 ((rd_T32 l0 x8_1).f3)] 32 (0, 0)) (by (with_reducible repeat (first | refine blk_drewN ?_ _ | refine blk_drew ?_ | refine blk_alloc ?_ _)); exact BK405.out) hg (Kd.S_ne HO_3.out BK405.out (by decide))); have n1_ := Aside0.mk (hb); have n2_ := Aside0.mk (ho); clear BK405; clear HB; clear HO_3; clear HO409; have BK405 := n0_; have HB := n1_; have HO412 := n2_; clear n0_ n1_ n2_; clear ho hb hg hat)); go_roundg k1; (case measure => have := HK1.out; omega); (case rel => exact ⟨(y410), (wrap64 (x8_1 + 1)), (by first | rfl | (simp; done) | (simp [*]; done)), H', ⟨by have := HK1.out; omega⟩, ⟨by (with_reducible repeat (first | apply Kd.S_alloc | apply Kd.S_drewN | apply Kd.S_drew)); exact HO412.out⟩, ⟨by repeat (first | (with_reducible first | exact HB.out | apply below_alloc | apply pw_below_drewN | apply below_drew1 | refine below_set ?_ GE405.out) | exact HB.out)⟩⟩)); (· rw [if_neg c8] at H; exact absurd H (by simp))); (· replace c6 := Bool.eq_false_iff.mpr c6; subst c6; (have H1 : (if x3_1.length < 5864062014805 then (incunableref04_Codes.l0 k1 l0 (x3_1 ++ [([] : List Int)]) l0 (l0.length : Int) (wrap64 (x8_1 + 1))) else (none)) = some r := by rw [if_neg (show ¬ (false = true) by decide)] at H; exact H); clear H; have H := H1; clear H1; by_cases c15 : x3_1.length < 5864062014805; (· rw [if_pos c15] at H; have LMc15 := Aside0.mk c15; clear c15; obtain ⟨y413, hy413⟩ : ∃ y_ : List (List Int), y_ = (x3_1 ++ [([] : List Int)]) := ⟨_, rfl⟩; (replace H : (incunableref04_Codes.l0 k1 l0 y413 l0 (l0.length : Int) (wrap64 (x8_1 + 1))) = some r := by first | (rw [hy413]; with_reducible exact H) | (have H2_ := (Option.bind_some _ _).symm.trans H; rw [hy413]; with_reducible exact H2_) | (have H2_ := (Option.bind_some _ _).symm.trans H; with_reducible exact H2_) | with_reducible exact H | (rw [hy413]; exact H) | exact H); have Ny413 := Aside0.mk hy413; clear hy413; have H' := Aside0.mk H; clear H; have p404 : 0 ≤ (x8_1 : Int) := of_decide_eq_true (by first | (with_reducible assumption) | assumption); have q404 : x8_1 < (l0.length : Int) := of_decide_eq_true (by first | (with_reducible assumption) | assumption); obtain ⟨ad404, e404, hx404_0, hx404_1, hx404_2, hx404_3⟩ := at_T32 HR0.out x8_1 p404 q404; cases e404; replace hx404_0 := (HB.out.cell (World.block_lt_of_cell? w _ hx404_0)).trans hx404_0; replace hx404_1 := (HB.out.cell (World.block_lt_of_cell? w _ hx404_1)).trans hx404_1; replace hx404_2 := (HB.out.cell (World.block_lt_of_cell? w _ hx404_2)).trans hx404_2; replace hx404_3 := (HB.out.cell (World.block_lt_of_cell? w _ hx404_3)).trans hx404_3; replace p404 := eq_true p404; replace q404 := eq_true q404; go_wp2_with (first | ((with_reducible refine gate_dst (N := 5) rfl ?_); refine box_event ?hg (N := 5) ?hd (cs := #[.int .i64 0, .int .i64 0, .int .i64 0, .int .i64 0]) (t := 32) ?hr ?_; (case hd => rfl); (case hg => rfl); (case hr => first | (go_simp; done) | (go_simp; rfl)); intro gb405 hg w16 hbox hb; have n0_ := Aside0.mk (Kd.S_below (by (with_reducible repeat (first | apply Kd.S_alloc | apply Kd.S_drewN | apply Kd.S_drew)); exact HO_3.out) hb); have n1_ := Aside0.mk (below_step (by repeat (first | (with_reducible first | exact HB.out | apply below_alloc | apply pw_below_drewN | apply below_drew1) | exact HB.out)) hb); have n2_ := Aside0.mk (hbox); have n3_ := Aside0.mk ((by rw [hg]; exact (below_size (by repeat (first | (with_reducible first | exact HB.out | apply below_alloc | apply pw_below_drewN | apply below_drew1) | exact HB.out))) : w.heap.size ≤ gb405)); have n4_ := Aside0.mk ((by rw [hg]; exact (below_size (by repeat (first | (with_reducible first | exact HB.out | apply below_alloc | apply pw_below_drewN | apply below_drew1) | exact HB.out))) : w.heap.size ≤ gb405)); clear HO_3; clear HB; have HO_3 := n0_; have HB := n1_; have BK405 := n2_; have GW405 := n3_; have GE405 := n4_; clear n0_ n1_ n2_ n3_ n4_; clear hb hbox hg; have hcz17_0 : w16.cell? ⟨gb405, 0, none⟩ = some (.int .i64 0) := (blk_cell BK405.out 0).trans rfl; have hcz17_1 : w16.cell? ⟨gb405, 1, none⟩ = some (.int .i64 0) := (blk_cell BK405.out 1).trans rfl; have hcz17_2 : w16.cell? ⟨gb405, 2, none⟩ = some (.int .i64 0) := (blk_cell BK405.out 2).trans rfl; have hcz17_3 : w16.cell? ⟨gb405, 3, none⟩ = some (.int .i64 0) := (blk_cell BK405.out 3).trans rfl; have hfz17_0 := blk_frozen BK405.out 0; have hfz17_1 := blk_frozen BK405.out 1; have hfz17_2 := blk_frozen BK405.out 2; have hfz17_3 := blk_frozen BK405.out 3) | ((with_reducible refine gate_callee (f := 51) rfl ?_); refine goesL_ (some 14) rfl rfl Try.func51 (by kernel_rfl) rfl #[.agg #[.int .i64 ((rd_T32 l0 x8_1).f0), .int .i64 ((rd_T32 l0 x8_1).f1), .int .i64 ((rd_T32 l0 x8_1).f2), .int .i64 ((rd_T32 l0 x8_1).f3)]] rfl (by (try simp only [List.map_toArray, List.map_cons, List.map_nil]); first | done | rfl | (simp only [List.length_drop, List.length_take]; rfl)) ?_; (with_reducible refine (incunableref04_used.calls ((rd_T32 l0 x8_1).f0) ((rd_T32 l0 x8_1).f1) ((rd_T32 l0 x8_1).f2) ((rd_T32 l0 x8_1).f3) false _ A5.out).mono ?_); rintro e w18 ⟨rfl, hb⟩; refine ⟨_, rfl, ?_⟩; have n0_ := Aside0.mk (Kd.S_below (by (with_reducible repeat (first | apply Kd.S_alloc | apply Kd.S_drewN | apply Kd.S_drew)); exact (Kd.S_mono (Kd.S_far (p := ⟨gb405, 3, none⟩) (Kd.S_far (p := ⟨gb405, 2, none⟩) (Kd.S_far (p := ⟨gb405, 1, none⟩) (Kd.S_far (p := ⟨gb405, 0, none⟩) (Kd.S_types HO_3.out BK405.out (by decide)) (fun _ hk => hk.2) (.int .i64 ((rd_T32 l0 x8_1).f0))) (fun _ hk => hk.2) (.int .i64 ((rd_T32 l0 x8_1).f1))) (fun _ hk => hk.2) (.int .i64 ((rd_T32 l0 x8_1).f2))) (fun _ hk => hk.2) (.int .i64 ((rd_T32 l0 x8_1).f3))) (fun _ h_ => h_.1))) hb); have n1_ := Aside0.mk (blk_below (g := gb405) (o := .cells #[.int .i64 ((rd_T32 l0 x8_1).f0), .int .i64 ((rd_T32 l0 x8_1).f1), .int .i64 ((rd_T32 l0 x8_1).f2), .int .i64 ((rd_T32 l0 x8_1).f3)] 32 (0, 0)) (by (with_reducible repeat (first | refine blk_drewN ?_ _ | refine blk_drew ?_ | refine blk_alloc ?_ _)); refine blk_put (cs := #[.int .i64 ((rd_T32 l0 x8_1).f0), .int .i64 ((rd_T32 l0 x8_1).f1), .int .i64 ((rd_T32 l0 x8_1).f2), .int .i64 0]) ?_ 3 _ rfl; (with_reducible repeat (first | refine blk_drewN ?_ _ | refine blk_drew ?_ | refine blk_alloc ?_ _)); refine blk_put (cs := #[.int .i64 ((rd_T32 l0 x8_1).f0), .int .i64 ((rd_T32 l0 x8_1).f1), .int .i64 0, .int .i64 0]) ?_ 2 _ rfl; (with_reducible repeat (first | refine blk_drewN ?_ _ | refine blk_drew ?_ | refine blk_alloc ?_ _)); refine blk_put (cs := #[.int .i64 ((rd_T32 l0 x8_1).f0), .int .i64 0, .int .i64 0, .int .i64 0]) ?_ 1 _ rfl; (with_reducible repeat (first | refine blk_drewN ?_ _ | refine blk_drew ?_ | refine blk_alloc ?_ _)); refine blk_put (cs := #[.int .i64 0, .int .i64 0, .int .i64 0, .int .i64 0]) ?_ 0 _ rfl; (with_reducible repeat (first | refine blk_drewN ?_ _ | refine blk_drew ?_ | refine blk_alloc ?_ _)); exact BK405.out) hb); have n2_ := Aside0.mk (below_step (by repeat (first | (with_reducible first | exact HB.out | apply below_alloc | apply pw_below_drewN | apply below_drew1 | refine below_set ?_ GE405.out) | exact HB.out)) hb); clear HO_3; clear BK405; clear HB; have HO_3 := n0_; have BK405 := n1_; have HB := n2_; clear n0_ n1_ n2_; (try clear hb); (try clear hb2); (try clear hk); (try clear hi)) | ((with_reducible refine gate_builtin (b := .append) (xs := #[.tmp 21, .tmp 22]) rfl ?_); at_builtin; refine Kd.S_append (Kd.slice 5 (Kd.int .u8)) (w0 := w) w.heap.size rfl (.tmp 21) (.tmp 22) 41 46 (.slice none 0 0) 24 rfl Try.underlying41 info46 rfl (by decide) (by omega) u3 x3_1 ([] : List Int) [.slice none 0 0] (fun _ => True) (fun _ => False) rfl rfl ?aP (fun k_ hk_ => hk_.elim) ?aF ?aO ?aB ?aS ?aL ?_; (case aP => exact Kd.M_row (Kd.R_nil _ _ _ _ _)); (case aB => exact (by repeat (first | (with_reducible first | exact HB.out | apply below_alloc | apply pw_below_drewN | apply below_drew1 | refine below_set ?_ GE405.out) | exact HB.out))); (case aF => exact (fun _ _ => trivial)); (case aO => exact (by (with_reducible repeat (first | apply Kd.S_alloc | apply Kd.S_drewN | apply Kd.S_drew)); exact Kd.S_mono HO_3.out (fun k_ hk => ⟨trivial, fun e_ => e_⟩))); (case aS => exact (below_size (by repeat (first | (with_reducible first | exact HB.out | apply below_alloc | apply pw_below_drewN | apply below_drew1 | refine below_set ?_ GE405.out) | exact HB.out)))); (case aL => have := LMc15.out; omega); intro v414 w19 ho hb hg hat; rw [← Ny413.out] at ho; have n0_ := Aside0.mk (blk_grown (g := gb405) (o := .cells #[.int .i64 ((rd_T32 l0 x8_1).f0), .int .i64 ((rd_T32 l0 x8_1).f1), .int .i64 ((rd_T32 l0 x8_1).f2), .int .i64 ((rd_T32 l0 x8_1).f3)] 32 (0, 0)) (by (with_reducible repeat (first | refine blk_drewN ?_ _ | refine blk_drew ?_ | refine blk_alloc ?_ _)); exact BK405.out) hg (Kd.S_ne HO_3.out BK405.out (by decide))); have n1_ := Aside0.mk (hb); have n2_ := Aside0.mk (ho); clear BK405; clear HB; clear HO_3; have BK405 := n0_; have HB := n1_; have HO415 := n2_; clear n0_ n1_ n2_; clear ho hb hg hat)); go_roundg k1; (case measure => have := HK1.out; omega); (case rel => exact ⟨(y413), (wrap64 (x8_1 + 1)), (by first | rfl | (simp; done) | (simp [*]; done)), H', ⟨by have := HK1.out; omega⟩, ⟨by (with_reducible repeat (first | apply Kd.S_alloc | apply Kd.S_drewN | apply Kd.S_drew)); exact HO415.out⟩, ⟨by repeat (first | (with_reducible first | exact HB.out | apply below_alloc | apply pw_below_drewN | apply below_drew1 | refine below_set ?_ GE405.out) | exact HB.out)⟩⟩)); (· rw [if_neg c15] at H; exact absurd H (by simp)))); (· rw [if_neg c4] at H; exact absurd H (by simp))); (· rw [if_neg c3] at H; exact absurd H (by simp)))
   (· rw [if_neg c2] at H; have c2b0 : decide (x8_1 < (l0.length : Int)) = false := decide_eq_false c2; clear c2; obtain rfl := Option.some.inj H; go_wp2; go_ret; (exact ⟨_, by first | rfl | (simp [errW_none, errW_some] <;> rfl) | (simp [*, errW_none, errW_some] <;> rfl), by (with_reducible repeat (first | apply Kd.S_alloc | apply Kd.S_drewN | apply Kd.S_drew)); exact HO_3.out, by repeat (first | (with_reducible first | exact HB.out | apply below_alloc | apply pw_below_drewN | apply below_drew1) | exact HB.out)⟩))
end Go.Proofs.Ytnadgcdkcabdoaa.U
namespace Go.Proofs.Ytnadgcdkcabdoaa.U
open Go.RowKit Go.Proofs.YtnadgcdkcabdoaaW.PrintWords Go.Proofs.YtnadgcdkcabdoaaW.PrintLast Go.Proofs.YtnadgcdkcabdoaaW.PrintMore
attribute [local go_sem] max2_int min2_int max_two min_two max_three min_three max_four min_four   -- for this text's walks alone
def incunableref04_BitAt.f (l0 : List Int) (a1 : Int) : Option (Int × Bool) := if a1 ≥ (wrap64 (8 * (l0.length : Int))) then (some (0, false)) else (if 0 ≤ (wrap64 (Int.tdiv a1 8)) then (if (wrap64 (Int.tdiv a1 8)) < (l0.length : Int) then (if 0 ≤ (wrap64 (7 - (Int.tmod a1 8))) then (some (Int.tmod (wrap64 (shr .u8 (rd l0 (wrap64 (Int.tdiv a1 8))) (wrap64 (7 - (Int.tmod a1 8))))) 2, true)) else (none)) else (none)) else (none))
set_option maxHeartbeats 8000000 in
set_option maxRecDepth 100000 in
theorem incunableref04_BitAt.calls (A0 : Option Addr) (c0 : Nat) (l0 : List Int) (a1 : Int) (r1 : Int) (r2 : Bool) (w : World) (hr0 : Kd.C (Kd.int .u8) w A0 l0.length l0) (hc0 : l0.length ≤ c0) (h : incunableref04_BitAt.f l0 a1 = some (r1, r2)) :
    Calls Try.prog 69 #[.slice A0 l0.length c0, .int .i64 a1] w fun e w' => e = .returned (.tuple #[.int .i64 r1, .bool r2]) ∧ Drawn0 w w' := by
 have HR0 := Aside0.mk hr0; have HC0 := Aside0.mk hc0; clear hr0 hc0; have H : (if a1 ≥ (wrap64 (8 * (l0.length : Int))) then (some (0, false)) else (if 0 ≤ (wrap64 (Int.tdiv a1 8)) then (if (wrap64 (Int.tdiv a1 8)) < (l0.length : Int) then (if 0 ≤ (wrap64 (7 - (Int.tmod a1 8))) then (some (Int.tmod (wrap64 (shr .u8 (rd l0 (wrap64 (Int.tdiv a1 8))) (wrap64 (7 - (Int.tmod a1 8))))) 2, true)) else (none)) else (none)) else (none))) = some (r1, r2) := h; clear h; by_cases c3 : a1 ≥ (wrap64 (8 * (l0.length : Int))); (· rw [if_pos c3] at H; have c3b0 : decide ((wrap64 (8 * (l0.length : Int))) ≤ a1) = true := decide_eq_true c3; clear c3; simp only [Option.some.injEq, Prod.mk.injEq] at H; obtain ⟨rfl, rfl⟩ := H; go_enter Try.func69, Try.ntmps69; go_wp2; go_ret2; exact ⟨by first | rfl | (simp; done) | (simp [*]; done), by repeat (first | exact Drawn0.refl _ | apply Drawn0.step)⟩)
 (· rw [if_neg c3] at H; have c3b0 : decide ((wrap64 (8 * (l0.length : Int))) ≤ a1) = false := decide_eq_false c3; clear c3; obtain ⟨ji4, hji4⟩ : ∃ j_ : Int, (wrap64 (Int.tdiv a1 8)) = j_ := ⟨_, rfl⟩; (replace H : (if 0 ≤ (ji4) then (if (ji4) < (l0.length : Int) then (if 0 ≤ (wrap64 (7 - (Int.tmod a1 8))) then (some (Int.tmod (wrap64 (shr .u8 (rd l0 (ji4)) (wrap64 (7 - (Int.tmod a1 8))))) 2, true)) else (none)) else (none)) else (none)) = some (r1, r2) := by first | (rw [hji4] at H; exact H) | (simp only [hji4] at H ⊢; exact H)); have hji4w : (IntKind.i64.wrap (Int.tdiv a1 8)) = ji4 := (i64_w _).trans hji4; by_cases c5 : 0 ≤ (ji4); (· rw [if_pos c5] at H; have c5b0 : decide (0 ≤ (ji4)) = true := decide_eq_true c5; clear c5; by_cases c6 : (ji4) < (l0.length : Int); (· rw [if_pos c6] at H; have c6b0 : decide ((ji4) < (l0.length : Int)) = true := decide_eq_true c6; clear c6; obtain ⟨ji7, hji7⟩ : ∃ j_ : Int, (wrap64 (7 - (Int.tmod a1 8))) = j_ := ⟨_, rfl⟩; (replace H : (if 0 ≤ (ji7) then (some (Int.tmod (wrap64 (shr .u8 (rd l0 (ji4)) (ji7))) 2, true)) else (none)) = some (r1, r2) := by first | (rw [hji7] at H; exact H) | (simp only [hji7] at H ⊢; exact H)); have hji7w : (IntKind.i64.wrap (7 - (Int.tmod a1 8))) = ji7 := (i64_w _).trans hji7; by_cases c8 : 0 ≤ (ji7); (· rw [if_pos c8] at H; have c8b0 := eq_true c8; have c8b1 : decide (0 ≤ (ji7)) = true := decide_eq_true c8; clear c8; obtain ⟨ji9, hji9⟩ : ∃ j_ : Int, (shr .u8 (rd l0 (ji4)) (ji7)) = j_ := ⟨_, rfl⟩; (replace H : (some (Int.tmod (wrap64 (ji9)) 2, true)) = some (r1, r2) := by first | (rw [hji9] at H; exact H) | (simp only [hji9] at H ⊢; exact H)); have hji9_ : ((rd l0 (ji4)) / 2 ^ min (ji7).toNat 8) = ji9 := hji9; have hji9z : (ji7) ≤ 8 → ((rd l0 (ji4)) / 2 ^ (ji7).toNat) = ji9 := shr_small hji9; simp only [Option.some.injEq, Prod.mk.injEq] at H; obtain ⟨rfl, rfl⟩ := H; have p564 : 0 ≤ ((ji4) : Int) := of_decide_eq_true (by first | (with_reducible assumption) | assumption); have q564 : (ji4) < (l0.length : Int) := of_decide_eq_true (by first | (with_reducible assumption) | assumption); obtain ⟨ad564, e564, hx564_0⟩ := Kd.at_int HR0.out (ji4) p564 q564; cases e564; replace p564 := eq_true p564; replace q564 := eq_true q564; go_enter Try.func69, Try.ntmps69; go_wp2; go_ret2; (exact ⟨by first | rfl | (simp; done) | (simp only [← hji4, ← hji7, ← hji9] <;> (first | rfl | simp)) | (simp [*]; done), by repeat (first | exact Drawn0.refl _ | apply Drawn0.step)⟩)); (· rw [if_neg c8] at H; exact absurd H (by simp))); (· rw [if_neg c6] at H; exact absurd H (by simp))); (· rw [if_neg c5] at H; exact absurd H (by simp)))
end Go.Proofs.Ytnadgcdkcabdoaa.U
namespace Go.Proofs.Ytnadgcdkcabdoaa.U
open Go.RowKit Go.Proofs.YtnadgcdkcabdoaaW.PrintWords Go.Proofs.YtnadgcdkcabdoaaW.PrintLast Go.Proofs.YtnadgcdkcabdoaaW.PrintMore
attribute [local go_sem] max2_int min2_int max_two min_two max_three min_three max_four min_four   -- for this text's walks alone
def incunableref04_begins.l0 : Nat → List Int → List Int → Int → Int → Int → Option (Bool)
  | 0, _, _, _, _, _ => none
  | k + 1, x0, x1, x2, x3, x9 => if x9 < x3 then ((incunableref04_BitAt.f x1 (wrap64 (x2 + x9))).bind fun bt565 => (if 0 ≤ x9 then (if x9 < (x0.length : Int) then (if (wrap64 (rd x0 x9)) = bt565.1 then (incunableref04_begins.l0 k x0 x1 x2 x3 (wrap64 (x9 + 1))) else (some false)) else (none)) else (none))) else (some true)
def incunableref04_begins.f (k : Nat) (l0 : List Int) (l1 : List Int) (a2 : Int) (a3 : Int) : Option (Bool) := if (l0.length : Int) < a3 then (some false) else (incunableref04_begins.l0 k l0 l1 a2 a3 0)
theorem incunableref04_begins.mono_l : ∀ k, (∀ y0 y1 y2 y3 y4, LeO (incunableref04_begins.l0 k y0 y1 y2 y3 y4) (incunableref04_begins.l0 (k + 1) y0 y1 y2 y3 y4))
  | 0 => fun _ _ _ _ _ r h => by simp [incunableref04_begins.l0] at h
  | k + 1 => by
    have ih0 := incunableref04_begins.mono_l k
    · intro y0 y1 y2 y3 y4
      unfold incunableref04_begins.l0
      repeat' first
      | (with_reducible exact ih0 _ _ _ _ _)
      | (with_reducible exact LeO.refl _)
      | (with_reducible exact LeO.none _)
      | (with_reducible refine LeO.ite ?_ ?_)
      | (with_reducible refine LeO.bind ?_ (fun _ => ?_))
      | exact ih0 _ _ _ _ _
      | exact LeO.none _
      | refine LeO.ite ?_ ?_
      | refine LeO.bind ?_ (fun _ => ?_)
theorem incunableref04_begins.mono : ∀ a0 a1 a2 a3 k, LeO (incunableref04_begins.f k a0 a1 a2 a3) (incunableref04_begins.f (k + 1) a0 a1 a2 a3) := by
 intro a0 a1 a2 a3 k; have ih0 := incunableref04_begins.mono_l k; unfold incunableref04_begins.f
 repeat' first
  | (with_reducible exact ih0 _ _ _ _ _)
  | (with_reducible exact LeO.refl _)
  | (with_reducible exact LeO.none _)
  | (with_reducible refine LeO.ite ?_ ?_)
  | (with_reducible refine LeO.bind ?_ (fun _ => ?_))
  | exact ih0 _ _ _ _ _
  | exact LeO.none _
  | refine LeO.ite ?_ ?_
  | refine LeO.bind ?_ (fun _ => ?_)
set_option maxHeartbeats 8000000 in
set_option maxRecDepth 100000 in
theorem incunableref04_begins.calls (k : Nat) (A0 : Option Addr) (c0 : Nat) (l0 : List Int) (A1 : Option Addr) (c1 : Nat) (l1 : List Int) (a2 : Int) (a3 : Int) (r : Bool) (w : World) (hr0 : Kd.C (Kd.int .u8) w A0 l0.length l0) (hc0 : l0.length ≤ c0) (hr1 : Kd.C (Kd.int .u8) w A1 l1.length l1) (hc1 : l1.length ≤ c1) (h : incunableref04_begins.f k l0 l1 a2 a3 = some r) :
    Calls Try.prog 70 #[.slice A0 l0.length c0, .slice A1 l1.length c1, .int .i64 a2, .int .i64 a3] w fun e w' => e = .returned (.bool r) ∧ Drawn0 w w' := by
 have HR0 := Aside0.mk hr0; have HC0 := Aside0.mk hc0; clear hr0 hc0; have HR1 := Aside0.mk hr1; have HC1 := Aside0.mk hc1; clear hr1 hc1; have H : (if (l0.length : Int) < a3 then (some false) else (incunableref04_begins.l0 k l0 l1 a2 a3 0)) = some r := h; clear h; by_cases c5 : (l0.length : Int) < a3; (· rw [if_pos c5] at H; have c5b0 : decide ((l0.length : Int) < a3) = true := decide_eq_true c5; clear c5; obtain rfl := Option.some.inj H; go_enter Try.func70, Try.ntmps70; go_wp2; go_ret; exact ⟨by first | rfl | (simp; done) | (simp [*]; done), by repeat (first | exact Drawn0.refl _ | apply Drawn0.step)⟩)
 · rw [if_neg c5] at H
   have c5b0 : decide ((l0.length : Int) < a3) = false := decide_eq_false c5; clear c5; have H' := Aside0.mk H; clear H; go_enter Try.func70, Try.ntmps70; go_wp2; go_loopg [9] k (fun kq v9 w' => ∃ (x9_1 : Int), v9 = .int .i64 x9_1 ∧ Aside0 (incunableref04_begins.l0 kq l0 l1 a2 a3 x9_1 = some r) ∧ Aside0 (kq ≤ k) ∧ Drawn0 w w'); (case atStart => exact ⟨(0), (by first | rfl | (simp; done) | (simp [*]; done)), H', ⟨Nat.le_refl _⟩, by repeat (first | exact Drawn0.refl _ | apply Drawn0.step)⟩)
   case round =>
    clear H'; (try clear c1); (try clear p2); (try clear c5); (try clear c5b0); obtain ⟨x9_1, rfl, HA, HK1, ⟨m1, rfl⟩⟩ := hrel
    cases gk with
    | zero => exact absurd HA.out (by simp [incunableref04_begins.l0])
    | succ k1 =>
     have H := HA.out; clear HA; simp only [incunableref04_begins.l0] at H; by_cases c6 : x9_1 < a3
     (· rw [if_pos c6] at H; have c6b0 : decide (x9_1 < a3) = true := decide_eq_true c6; clear c6; replace H := Option.bind_eq_some_iff.mp H; obtain ⟨⟨t565, t566⟩, A70, H⟩ := H; replace H : (if 0 ≤ x9_1 then (if x9_1 < (l0.length : Int) then (if (wrap64 (rd l0 x9_1)) = t565 then (incunableref04_begins.l0 k1 l0 l1 a2 a3 (wrap64 (x9_1 + 1))) else (some false)) else (none)) else (none)) = some r := H; have A7 := Aside0.mk A70; clear A70; by_cases c8 : 0 ≤ x9_1; (· rw [if_pos c8] at H; have c8b0 : decide (0 ≤ x9_1) = true := decide_eq_true c8; clear c8; by_cases c9 : x9_1 < (l0.length : Int); (· rw [if_pos c9] at H; have c9b0 : decide (x9_1 < (l0.length : Int)) = true := decide_eq_true c9; clear c9; by_cases c10 : (wrap64 (rd l0 x9_1)) = t565; (· rw [if_pos c10] at H; have c10b0 : ((wrap64 (rd l0 x9_1)) == t565) = true := beq_iff_eq.mpr c10; have c10b1 : ((wrap64 (rd l0 x9_1)) != t565) = false := bne_eq_false_iff_eq.mpr c10; clear c10; have H' := Aside0.mk H; clear H; go_wp2_with (first | ((with_reducible refine gate_callee (f := 69) rfl ?_); refine goesL_ (some 26) rfl rfl Try.func69 (by kernel_rfl) rfl #[.slice A1 l1.length c1, .int .i64 (wrap64 (a2 + x9_1))] rfl (by (try simp only [List.map_toArray, List.map_cons, List.map_nil]); first | done | rfl | (simp only [List.length_drop, List.length_take]; rfl)) ?_; (with_reducible refine (incunableref04_BitAt.calls _ _ l1 (wrap64 (a2 + x9_1)) t565 t566 _ ?side1 ?side2 A7.out).mono ?_); (case side1 => repeat (first | exact HR1.out | (with_reducible refine Kd.C_alloc ?_ _) | (with_reducible refine Kd.C_drewN ?_ _) | (with_reducible refine Kd.C_drew ?_))); (case side2 => exact HC1.out); rintro e w' ⟨rfl, ⟨nd, rfl⟩⟩; refine ⟨_, rfl, ?_⟩; have p567 : 0 ≤ (x9_1 : Int) := of_decide_eq_true (by first | (with_reducible assumption) | assumption); have q567 : x9_1 < (l0.length : Int) := of_decide_eq_true (by first | (with_reducible assumption) | assumption); obtain ⟨ad567, e567, hx567_0⟩ := Kd.at_int HR0.out x9_1 p567 q567; cases e567; replace p567 := eq_true p567; replace q567 := eq_true q567)); go_roundg k1; (case measure => have := HK1.out; omega); (case rel => exact ⟨(wrap64 (x9_1 + 1)), (by first | rfl | (simp; done) | (simp [*]; done)), H', ⟨by have := HK1.out; omega⟩, by repeat (first | exact Drawn0.refl _ | apply Drawn0.step)⟩)); (· rw [if_neg c10] at H; have c10b0 : ((wrap64 (rd l0 x9_1)) == t565) = false := beq_eq_false_iff_ne.mpr c10; have c10b1 : ((wrap64 (rd l0 x9_1)) != t565) = true := bne_iff_ne.mpr c10; obtain rfl := Option.some.inj H; go_wp2_with (first | ((with_reducible refine gate_callee (f := 69) rfl ?_); refine goesL_ (some 26) rfl rfl Try.func69 (by kernel_rfl) rfl #[.slice A1 l1.length c1, .int .i64 (wrap64 (a2 + x9_1))] rfl (by (try simp only [List.map_toArray, List.map_cons, List.map_nil]); first | done | rfl | (simp only [List.length_drop, List.length_take]; rfl)) ?_; (with_reducible refine (incunableref04_BitAt.calls _ _ l1 (wrap64 (a2 + x9_1)) t565 t566 _ ?side1 ?side2 A7.out).mono ?_); (case side1 => repeat (first | exact HR1.out | (with_reducible refine Kd.C_alloc ?_ _) | (with_reducible refine Kd.C_drewN ?_ _) | (with_reducible refine Kd.C_drew ?_))); (case side2 => exact HC1.out); rintro e w' ⟨rfl, ⟨nd, rfl⟩⟩; refine ⟨_, rfl, ?_⟩; have p567 : 0 ≤ (x9_1 : Int) := of_decide_eq_true (by first | (with_reducible assumption) | assumption); have q567 : x9_1 < (l0.length : Int) := of_decide_eq_true (by first | (with_reducible assumption) | assumption); obtain ⟨ad567, e567, hx567_0⟩ := Kd.at_int HR0.out x9_1 p567 q567; cases e567; replace p567 := eq_true p567; replace q567 := eq_true q567)); go_ret; exact ⟨by first | rfl | (simp; done) | (simp [*]; done), by repeat (first | exact Drawn0.refl _ | apply Drawn0.step)⟩)); (· rw [if_neg c9] at H; exact absurd H (by simp))); (· rw [if_neg c8] at H; exact absurd H (by simp)))
     (· rw [if_neg c6] at H; have c6b0 : decide (x9_1 < a3) = false := decide_eq_false c6; clear c6; obtain rfl := Option.some.inj H; go_wp2; go_ret; exact ⟨by first | rfl | (simp; done) | (simp [*]; done), by repeat (first | exact Drawn0.refl _ | apply Drawn0.step)⟩)
end Go.Proofs.Ytnadgcdkcabdoaa.U
namespace Go.Proofs.Ytnadgcdkcabdoaa.U
open Go.RowKit Go.Proofs.YtnadgcdkcabdoaaW.PrintWords Go.Proofs.YtnadgcdkcabdoaaW.PrintLast Go.Proofs.YtnadgcdkcabdoaaW.PrintMore
attribute [local go_sem] max2_int min2_int max_two min_two max_three min_three max_four min_four   -- for this text's walks alone
def incunableref04_inner.l0 : Nat → List Int → Int → Int → Int → Int → Int → Int → Int → Option (Bool × Int × Int × Int)
  | 0, _, _, _, _, _, _, _, _ => none
  | k + 1, x1, x2, x9, x10, x569000, x569001, x569002, x569003 => if x10 < x569001 then ((incunableref04_BitAt.f x1 (wrap64 (x2 + x10))).bind fun bt570 => (if bt570.2 = true then (incunableref04_inner.l0 k x1 x2 (wrap64 ((wrap64 (2 * x9)) + bt570.1)) (wrap64 (x10 + 1)) x569000 x569001 x569002 x569003) else (some (false, 0, 0, 6)))) else (if x569003 = 1 then (some (false, wrap64 (x569002 - x9), wrap64 (x2 + x569001), 0)) else (if x569003 = 2 then (some (true, 0, wrap64 (x2 + x569001), 0)) else (some (false, wrap64 (x569002 + x9), wrap64 (x2 + x569001), 0))))
def incunableref04_inner.f (k : Nat) (a0_0 : Int) (a0_1 : Int) (a0_2 : Int) (a0_3 : Int) (l1 : List Int) (a2 : Int) : Option (Bool × Int × Int × Int) := incunableref04_inner.l0 k l1 a2 0 0 a0_0 a0_1 a0_2 a0_3
theorem incunableref04_inner.mono_l : ∀ k, (∀ y0 y1 y2 y3 y4 y5 y6 y7, LeO (incunableref04_inner.l0 k y0 y1 y2 y3 y4 y5 y6 y7) (incunableref04_inner.l0 (k + 1) y0 y1 y2 y3 y4 y5 y6 y7))
  | 0 => fun _ _ _ _ _ _ _ _ r h => by simp [incunableref04_inner.l0] at h
  | k + 1 => by
    have ih0 := incunableref04_inner.mono_l k
    · intro y0 y1 y2 y3 y4 y5 y6 y7
      unfold incunableref04_inner.l0
      repeat' first
      | (with_reducible exact ih0 _ _ _ _ _ _ _ _)
      | (with_reducible exact LeO.refl _)
      | (with_reducible exact LeO.none _)
      | (with_reducible refine LeO.ite ?_ ?_)
      | (with_reducible refine LeO.bind ?_ (fun _ => ?_))
      | exact ih0 _ _ _ _ _ _ _ _
      | exact LeO.none _
      | refine LeO.ite ?_ ?_
      | refine LeO.bind ?_ (fun _ => ?_)
theorem incunableref04_inner.mono : ∀ a0 a1 a2 a3 a4 a5 k, LeO (incunableref04_inner.f k a0 a1 a2 a3 a4 a5) (incunableref04_inner.f (k + 1) a0 a1 a2 a3 a4 a5) := by
 intro a0 a1 a2 a3 a4 a5 k; have ih0 := incunableref04_inner.mono_l k; unfold incunableref04_inner.f
 repeat' first
  | (with_reducible exact ih0 _ _ _ _ _ _ _ _)
  | (with_reducible exact LeO.refl _)
  | (with_reducible exact LeO.none _)
  | (with_reducible refine LeO.ite ?_ ?_)
  | (with_reducible refine LeO.bind ?_ (fun _ => ?_))
  | exact ih0 _ _ _ _ _ _ _ _
  | exact LeO.none _
  | refine LeO.ite ?_ ?_
  | refine LeO.bind ?_ (fun _ => ?_)
set_option maxHeartbeats 8000000 in
set_option maxRecDepth 100000 in
theorem incunableref04_inner.calls (k : Nat) (a0_0 : Int) (a0_1 : Int) (a0_2 : Int) (a0_3 : Int) (A1 : Option Addr) (c1 : Nat) (l1 : List Int) (a2 : Int) (r1 : Bool) (r2 : Int) (r3 : Int) (r4 : Int) (w : World) (hr1 : Kd.C (Kd.int .u8) w A1 l1.length l1) (hc1 : l1.length ≤ c1) (h : incunableref04_inner.f k a0_0 a0_1 a0_2 a0_3 l1 a2 = some (r1, r2, r3, r4)) :
    Calls Try.prog 71 #[.agg #[.int .i64 a0_0, .int .i64 a0_1, .int .i64 a0_2, .int .i64 a0_3], .slice A1 l1.length c1, .int .i64 a2] w fun e w' => e = .returned (.tuple #[.agg #[.bool r1, .int .i64 r2], .int .i64 r3, .int .i64 r4]) ∧ Below w.heap.size w w' := by
 have hu32 := Try.underlying32; have hu48 := Try.underlying48; have HR1 := Aside0.mk hr1; have HC1 := Aside0.mk hc1; clear hr1 hc1; have HB := Aside0.mk (Below.refl w.heap.size w); have H : (incunableref04_inner.l0 k l1 a2 0 0 a0_0 a0_1 a0_2 a0_3) = some (r1, r2, r3, r4) := h; clear h; have H' := Aside0.mk H; clear H; go_enter Try.func71, Try.ntmps71
 go_wp2_with (first | ((with_reducible refine gate_dst (N := 3) rfl ?_); refine box_event ?hg (N := 3) ?hd (cs := #[.int .i64 a0_0, .int .i64 a0_1, .int .i64 a0_2, .int .i64 a0_3]) (t := 32) ?hr ?_; (case hd => rfl); (case hg => rfl); (case hr => first | (go_simp; done) | (go_simp; rfl)); intro gb568 hg w4 hbox hb; have n0_ := Aside0.mk (below_step (by repeat (first | (with_reducible first | exact HB.out | apply below_alloc | apply pw_below_drewN | apply below_drew1) | exact HB.out)) hb); have n1_ := Aside0.mk (hbox); have n2_ := Aside0.mk ((by rw [hg]; exact (below_size (by repeat (first | (with_reducible first | exact HB.out | apply below_alloc | apply pw_below_drewN | apply below_drew1) | exact HB.out))) : w.heap.size ≤ gb568)); have n3_ := Aside0.mk ((by rw [hg]; exact (below_size (by repeat (first | (with_reducible first | exact HB.out | apply below_alloc | apply pw_below_drewN | apply below_drew1) | exact HB.out))) : w.heap.size ≤ gb568)); clear HB; have HB := n0_; have BK568 := n1_; have GW568 := n2_; have GE568 := n3_; clear n0_ n1_ n2_ n3_; clear hb hbox hg) | ((with_reducible refine gate_dst (N := 6) rfl ?_); refine box_event ?hg (N := 6) ?hd (cs := #[.bool false, .int .i64 0]) (t := 48) ?hr ?_; (case hd => rfl); (case hg => rfl); (case hr => first | (go_simp; done) | (go_simp; rfl)); intro gb569 hg w5 hbox hb; have n0_ := Aside0.mk (blk_below (g := gb568) (o := .cells #[.int .i64 a0_0, .int .i64 a0_1, .int .i64 a0_2, .int .i64 a0_3] 32 (0, 0)) (by (with_reducible repeat (first | refine blk_drewN ?_ _ | refine blk_drew ?_ | refine blk_alloc ?_ _)); exact BK568.out) hb); have n1_ := Aside0.mk (below_step (by repeat (first | (with_reducible first | exact HB.out | apply below_alloc | apply pw_below_drewN | apply below_drew1 | refine below_set ?_ GE568.out) | exact HB.out)) hb); have n2_ := Aside0.mk (hbox); have n3_ := Aside0.mk ((by rw [hg]; exact (below_size (by repeat (first | (with_reducible first | exact HB.out | apply below_alloc | apply pw_below_drewN | apply below_drew1 | refine below_set ?_ GE568.out) | exact HB.out))) : w.heap.size ≤ gb569)); have n4_ := Aside0.mk ((by rw [hg]; exact (below_size (by repeat (first | (with_reducible first | exact HB.out | apply below_alloc | apply pw_below_drewN | apply below_drew1 | refine below_set ?_ GE568.out) | exact HB.out))) : w.heap.size ≤ gb569)); have n5_ := Aside0.mk ((by rw [hg]; exact Nat.ne_of_lt (blk_lt (g := gb568) (o := .cells #[.int .i64 a0_0, .int .i64 a0_1, .int .i64 a0_2, .int .i64 a0_3] 32 (0, 0)) (by (with_reducible repeat (first | refine blk_drewN ?_ _ | refine blk_drew ?_ | refine blk_alloc ?_ _)); exact BK568.out)) : gb568 ≠ gb569)); have n6_ := Aside0.mk ((by rw [hg]; exact Nat.ne_of_gt (blk_lt (g := gb568) (o := .cells #[.int .i64 a0_0, .int .i64 a0_1, .int .i64 a0_2, .int .i64 a0_3] 32 (0, 0)) (by (with_reducible repeat (first | refine blk_drewN ?_ _ | refine blk_drew ?_ | refine blk_alloc ?_ _)); exact BK568.out)) : gb569 ≠ gb568)); clear BK568; clear HB; have BK568 := n0_; have HB := n1_; have BK569 := n2_; have GW569 := n3_; have GE569 := n4_; have NB568_569 := n5_; have NB569_568 := n6_; clear n0_ n1_ n2_ n3_ n4_ n5_ n6_; clear hb hbox hg))
 go_loopg [9, 10] k (fun kq v9 v10 w' => ∃ (x9_1 : Int) (x10_1 : Int) (x570000_1 : Bool) (x570001_1 : Int), v9 = .int .i64 x9_1 ∧ v10 = .int .i64 x10_1 ∧ Aside0 (incunableref04_inner.l0 kq l1 a2 x9_1 x10_1 a0_0 a0_1 a0_2 a0_3 = some (r1, r2, r3, r4)) ∧ Aside0 (kq ≤ k) ∧ Aside0 (w'.heap[gb568]? = some (.cells #[.int .i64 a0_0, .int .i64 a0_1, .int .i64 a0_2, .int .i64 a0_3] 32 (0, 0))) ∧ Aside0 (w'.heap[gb569]? = some (.cells #[.bool x570000_1, .int .i64 x570001_1] 48 (0, 0))) ∧ Aside0 (Below w.heap.size w w')); (case atStart => exact ⟨(0), (0), (false), (0), (by first | rfl | (simp; done) | (simp [*]; done)), (by first | rfl | (simp; done) | (simp [*]; done)), H', ⟨Nat.le_refl _⟩, ⟨by (with_reducible repeat (first | refine blk_drewN ?_ _ | refine blk_drew ?_ | refine blk_alloc ?_ _)); exact BK568.out⟩, ⟨by (with_reducible repeat (first | refine blk_drewN ?_ _ | refine blk_drew ?_ | refine blk_alloc ?_ _)); exact BK569.out⟩, ⟨by repeat (first | (with_reducible first | exact HB.out | apply below_alloc | apply pw_below_drewN | apply below_drew1 | refine below_set ?_ GE568.out | refine below_set ?_ GE569.out) | exact HB.out)⟩⟩)
 case round =>
  clear H'; (try clear c1); (try clear p2); obtain ⟨x9_1, x10_1, x570000_1, x570001_1, rfl, rfl, HA, HK1, BK568, BK569, HB⟩ := hrel
  cases gk with
  | zero => exact absurd HA.out (by simp [incunableref04_inner.l0])
  | succ k1 =>
   have H := HA.out; clear HA; simp only [incunableref04_inner.l0] at H; by_cases c6 : x10_1 < a0_1
   (· rw [if_pos c6] at H; have c6b0 : decide (x10_1 < a0_1) = true := decide_eq_true c6; clear c6; replace H := Option.bind_eq_some_iff.mp H; obtain ⟨⟨t570, t571⟩, A70, H⟩ := H; replace H : (if t571 = true then (incunableref04_inner.l0 k1 l1 a2 (wrap64 ((wrap64 (2 * x9_1)) + t570)) (wrap64 (x10_1 + 1)) a0_0 a0_1 a0_2 a0_3) else (some (false, 0, 0, 6))) = some (r1, r2, r3, r4) := H; have A7 := Aside0.mk A70; clear A70; by_cases c8 : t571 = true; (· subst c8; (have H1 : (incunableref04_inner.l0 k1 l1 a2 (wrap64 ((wrap64 (2 * x9_1)) + t570)) (wrap64 (x10_1 + 1)) a0_0 a0_1 a0_2 a0_3) = some (r1, r2, r3, r4) := by rw [if_pos rfl] at H; exact H); clear H; have H := H1; clear H1; have H' := Aside0.mk H; clear H; have hnb9 := NB568_569.out; have hnc9 := NB569_568.out; have hcz10_0 : wr.cell? ⟨gb568, 0, none⟩ = some (.int .i64 a0_0) := (blk_cell BK568.out 0).trans rfl; have hcz10_1 : wr.cell? ⟨gb568, 1, none⟩ = some (.int .i64 a0_1) := (blk_cell BK568.out 1).trans rfl; have hcz10_2 : wr.cell? ⟨gb568, 2, none⟩ = some (.int .i64 a0_2) := (blk_cell BK568.out 2).trans rfl; have hcz10_3 : wr.cell? ⟨gb568, 3, none⟩ = some (.int .i64 a0_3) := (blk_cell BK568.out 3).trans rfl; have hfz10_0 := blk_frozen BK568.out 0; have hfz10_1 := blk_frozen BK568.out 1; have hfz10_2 := blk_frozen BK568.out 2; have hfz10_3 := blk_frozen BK568.out 3; go_wp2_with (first | ((with_reducible refine gate_callee (f := 69) rfl ?_); refine goesL_ (some 24) rfl rfl Try.func69 (by kernel_rfl) rfl #[.slice A1 l1.length c1, .int .i64 (wrap64 (a2 + x10_1))] rfl (by (try simp only [List.map_toArray, List.map_cons, List.map_nil]); first | done | rfl | (simp only [List.length_drop, List.length_take]; rfl)) ?_; (with_reducible refine (incunableref04_BitAt.calls _ _ l1 (wrap64 (a2 + x10_1)) t570 true _ ?side1 ?side2 A7.out).mono ?_); (case side1 => repeat (first | exact (Kd.C_below HR1.out HB.out) | (with_reducible refine Kd.C_alloc ?_ _) | (with_reducible refine Kd.C_drewN ?_ _) | (with_reducible refine Kd.C_drew ?_))); (case side2 => exact HC1.out); rintro e w' ⟨rfl, ⟨nd, rfl⟩⟩; refine ⟨_, rfl, ?_⟩)); go_roundg k1; (case measure => have := HK1.out; omega); (case rel => exact ⟨(wrap64 ((wrap64 (2 * x9_1)) + t570)), (wrap64 (x10_1 + 1)), (x570000_1), (x570001_1), (by first | rfl | (simp; done) | (simp [*]; done)), (by first | rfl | (simp; done) | (simp [*]; done)), H', ⟨by have := HK1.out; omega⟩, ⟨by (with_reducible repeat (first | refine blk_drewN ?_ _ | refine blk_drew ?_ | refine blk_alloc ?_ _)); exact BK568.out⟩, ⟨by (with_reducible repeat (first | refine blk_drewN ?_ _ | refine blk_drew ?_ | refine blk_alloc ?_ _)); exact BK569.out⟩, ⟨by repeat (first | (with_reducible first | exact HB.out | apply below_alloc | apply pw_below_drewN | apply below_drew1 | refine below_set ?_ GE568.out | refine below_set ?_ GE569.out) | exact HB.out)⟩⟩)); (· replace c8 := Bool.eq_false_iff.mpr c8; subst c8; (have H1 : (some (false, 0, 0, 6)) = some (r1, r2, r3, r4) := by rw [if_neg (show ¬ (false = true) by decide)] at H; exact H); clear H; have H := H1; clear H1; simp only [Option.some.injEq, Prod.mk.injEq] at H; obtain ⟨rfl, rfl, rfl, rfl⟩ := H; have hnb11 := NB568_569.out; have hnc11 := NB569_568.out; have hcz12_0 : wr.cell? ⟨gb568, 0, none⟩ = some (.int .i64 a0_0) := (blk_cell BK568.out 0).trans rfl; have hcz12_1 : wr.cell? ⟨gb568, 1, none⟩ = some (.int .i64 a0_1) := (blk_cell BK568.out 1).trans rfl; have hcz12_2 : wr.cell? ⟨gb568, 2, none⟩ = some (.int .i64 a0_2) := (blk_cell BK568.out 2).trans rfl; have hcz12_3 : wr.cell? ⟨gb568, 3, none⟩ = some (.int .i64 a0_3) := (blk_cell BK568.out 3).trans rfl; have hfz12_0 := blk_frozen BK568.out 0; have hfz12_1 := blk_frozen BK568.out 1; have hfz12_2 := blk_frozen BK568.out 2; have hfz12_3 := blk_frozen BK568.out 3; go_wp2_with (first | ((with_reducible refine gate_callee (f := 69) rfl ?_); refine goesL_ (some 24) rfl rfl Try.func69 (by kernel_rfl) rfl #[.slice A1 l1.length c1, .int .i64 (wrap64 (a2 + x10_1))] rfl (by (try simp only [List.map_toArray, List.map_cons, List.map_nil]); first | done | rfl | (simp only [List.length_drop, List.length_take]; rfl)) ?_; (with_reducible refine (incunableref04_BitAt.calls _ _ l1 (wrap64 (a2 + x10_1)) t570 false _ ?side1 ?side2 A7.out).mono ?_); (case side1 => repeat (first | exact (Kd.C_below HR1.out HB.out) | (with_reducible refine Kd.C_alloc ?_ _) | (with_reducible refine Kd.C_drewN ?_ _) | (with_reducible refine Kd.C_drew ?_))); (case side2 => exact HC1.out); rintro e w' ⟨rfl, ⟨nd, rfl⟩⟩; refine ⟨_, rfl, ?_⟩; (try (rw [drewN_self wr]; generalize hq_ : World.drewN wr _ = wr; have n0_ : Aside0 (wr.heap[gb568]? = some (.cells #[.int .i64 a0_0, .int .i64 a0_1, .int .i64 a0_2, .int .i64 a0_3] 32 (0, 0))) := ⟨by rw [← hq_]; exact (by (with_reducible repeat (first | refine blk_drewN ?_ _ | refine blk_drew ?_ | refine blk_alloc ?_ _)); exact BK568.out)⟩; have n1_ : Aside0 (wr.heap[gb569]? = some (.cells #[.bool x570000_1, .int .i64 x570001_1] 48 (0, 0))) := ⟨by rw [← hq_]; exact (by (with_reducible repeat (first | refine blk_drewN ?_ _ | refine blk_drew ?_ | refine blk_alloc ?_ _)); exact BK569.out)⟩; have n2_ : Aside0 (Below w.heap.size w wr) := ⟨by rw [← hq_]; exact (by repeat (first | (with_reducible first | exact HB.out | apply below_alloc | apply pw_below_drewN | apply below_drew1 | refine below_set ?_ GE568.out | refine below_set ?_ GE569.out) | exact HB.out))⟩; clear BK568 BK569 HB hq_; have BK568 := n0_; have BK569 := n1_; have HB := n2_; clear n0_ n1_ n2_)); have hcz13_0 : wr.cell? ⟨gb569, 0, none⟩ = some (.bool x570000_1) := (blk_cell BK569.out 0).trans rfl; have hcz13_1 : wr.cell? ⟨gb569, 1, none⟩ = some (.int .i64 x570001_1) := (blk_cell BK569.out 1).trans rfl; have hfz13_0 := blk_frozen BK569.out 0; have hfz13_1 := blk_frozen BK569.out 1)); refine bodyPost_ret (results_ctt rfl _ _ gb569 48 #[.bool false, .int .i64 0] (0, 0) _ rfl (by (with_reducible repeat (first | refine blk_drewN ?_ _ | refine blk_drew ?_ | refine blk_alloc ?_ _)); refine blk_put (cs := #[.bool false, .int .i64 x570001_1]) ?_ 1 _ rfl; (with_reducible repeat (first | refine blk_drewN ?_ _ | refine blk_drew ?_ | refine blk_alloc ?_ _)); refine blk_put (cs := #[.bool x570000_1, .int .i64 x570001_1]) ?_ 0 _ rfl; (with_reducible repeat (first | refine blk_drewN ?_ _ | refine blk_drew ?_ | refine blk_alloc ?_ _)); exact BK569.out) Try.underlying48 rfl (by kernel_rfl)) rfl ?_; (exact ⟨by first | rfl | (simp [errW_none, errW_some] <;> rfl) | (simp [*, errW_none, errW_some] <;> rfl), by repeat (first | (with_reducible first | exact HB.out | apply below_alloc | apply pw_below_drewN | apply below_drew1 | refine below_set ?_ GE568.out | refine below_set ?_ GE569.out) | exact HB.out)⟩)))
   (· rw [if_neg c6] at H; have c6b0 : decide (x10_1 < a0_1) = false := decide_eq_false c6; clear c6; by_cases c14 : a0_3 = 1; (· rw [if_pos c14] at H; have c14b0 : (a0_3 == 1) = true := beq_iff_eq.mpr c14; have c14b1 : (a0_3 != 1) = false := bne_eq_false_iff_eq.mpr c14; clear c14; simp only [Option.some.injEq, Prod.mk.injEq] at H; obtain ⟨rfl, rfl, rfl, rfl⟩ := H; have hnb15 := NB568_569.out; have hnc15 := NB569_568.out; have hcz16_0 : wr.cell? ⟨gb568, 0, none⟩ = some (.int .i64 a0_0) := (blk_cell BK568.out 0).trans rfl; have hcz16_1 : wr.cell? ⟨gb568, 1, none⟩ = some (.int .i64 a0_1) := (blk_cell BK568.out 1).trans rfl; have hcz16_2 : wr.cell? ⟨gb568, 2, none⟩ = some (.int .i64 a0_2) := (blk_cell BK568.out 2).trans rfl; have hcz16_3 : wr.cell? ⟨gb568, 3, none⟩ = some (.int .i64 a0_3) := (blk_cell BK568.out 3).trans rfl; have hfz16_0 := blk_frozen BK568.out 0; have hfz16_1 := blk_frozen BK568.out 1; have hfz16_2 := blk_frozen BK568.out 2; have hfz16_3 := blk_frozen BK568.out 3; have hcz17_0 : wr.cell? ⟨gb569, 0, none⟩ = some (.bool x570000_1) := (blk_cell BK569.out 0).trans rfl; have hcz17_1 : wr.cell? ⟨gb569, 1, none⟩ = some (.int .i64 x570001_1) := (blk_cell BK569.out 1).trans rfl; have hfz17_0 := blk_frozen BK569.out 0; have hfz17_1 := blk_frozen BK569.out 1; go_wp2; refine bodyPost_ret (results_ctt rfl _ _ gb569 48 #[.bool false, .int .i64 (wrap64 (a0_2 - x9_1))] (0, 0) _ rfl (by (with_reducible repeat (first | refine blk_drewN ?_ _ | refine blk_drew ?_ | refine blk_alloc ?_ _)); refine blk_put (cs := #[.bool false, .int .i64 x570001_1]) ?_ 1 _ rfl; (with_reducible repeat (first | refine blk_drewN ?_ _ | refine blk_drew ?_ | refine blk_alloc ?_ _)); refine blk_put (cs := #[.bool x570000_1, .int .i64 x570001_1]) ?_ 0 _ rfl; (with_reducible repeat (first | refine blk_drewN ?_ _ | refine blk_drew ?_ | refine blk_alloc ?_ _)); exact BK569.out) Try.underlying48 rfl (by kernel_rfl)) rfl ?_; (exact ⟨by first | rfl | (simp [errW_none, errW_some] <;> rfl) | (simp [*, errW_none, errW_some] <;> rfl), by repeat (first | (with_reducible first | exact HB.out | apply below_alloc | apply pw_below_drewN | apply below_drew1 | refine below_set ?_ GE568.out | refine below_set ?_ GE569.out) | exact HB.out)⟩)); (· rw [if_neg c14] at H; have c14b0 : (a0_3 == 1) = false := beq_eq_false_iff_ne.mpr c14; have c14b1 : (a0_3 != 1) = true := bne_iff_ne.mpr c14; by_cases c18 : a0_3 = 2; (· rw [if_pos c18] at H; have c18b0 : (a0_3 == 2) = true := beq_iff_eq.mpr c18; have c18b1 : (a0_3 != 2) = false := bne_eq_false_iff_eq.mpr c18; clear c18; simp only [Option.some.injEq, Prod.mk.injEq] at H; obtain ⟨rfl, rfl, rfl, rfl⟩ := H; have hnb19 := NB568_569.out; have hnc19 := NB569_568.out; have hcz20_0 : wr.cell? ⟨gb568, 0, none⟩ = some (.int .i64 a0_0) := (blk_cell BK568.out 0).trans rfl; have hcz20_1 : wr.cell? ⟨gb568, 1, none⟩ = some (.int .i64 a0_1) := (blk_cell BK568.out 1).trans rfl; have hcz20_2 : wr.cell? ⟨gb568, 2, none⟩ = some (.int .i64 a0_2) := (blk_cell BK568.out 2).trans rfl; have hcz20_3 : wr.cell? ⟨gb568, 3, none⟩ = some (.int .i64 a0_3) := (blk_cell BK568.out 3).trans rfl; have hfz20_0 := blk_frozen BK568.out 0; have hfz20_1 := blk_frozen BK568.out 1; have hfz20_2 := blk_frozen BK568.out 2; have hfz20_3 := blk_frozen BK568.out 3; have hcz21_0 : wr.cell? ⟨gb569, 0, none⟩ = some (.bool x570000_1) := (blk_cell BK569.out 0).trans rfl; have hcz21_1 : wr.cell? ⟨gb569, 1, none⟩ = some (.int .i64 x570001_1) := (blk_cell BK569.out 1).trans rfl; have hfz21_0 := blk_frozen BK569.out 0; have hfz21_1 := blk_frozen BK569.out 1; go_wp2; refine bodyPost_ret (results_ctt rfl _ _ gb569 48 #[.bool true, .int .i64 0] (0, 0) _ rfl (by (with_reducible repeat (first | refine blk_drewN ?_ _ | refine blk_drew ?_ | refine blk_alloc ?_ _)); refine blk_put (cs := #[.bool true, .int .i64 x570001_1]) ?_ 1 _ rfl; (with_reducible repeat (first | refine blk_drewN ?_ _ | refine blk_drew ?_ | refine blk_alloc ?_ _)); refine blk_put (cs := #[.bool x570000_1, .int .i64 x570001_1]) ?_ 0 _ rfl; (with_reducible repeat (first | refine blk_drewN ?_ _ | refine blk_drew ?_ | refine blk_alloc ?_ _)); exact BK569.out) Try.underlying48 rfl (by kernel_rfl)) rfl ?_; (exact ⟨by first | rfl | (simp [errW_none, errW_some] <;> rfl) | (simp [*, errW_none, errW_some] <;> rfl), by repeat (first | (with_reducible first | exact HB.out | apply below_alloc | apply pw_below_drewN | apply below_drew1 | refine below_set ?_ GE568.out | refine below_set ?_ GE569.out) | exact HB.out)⟩)); (· rw [if_neg c18] at H; have c18b0 : (a0_3 == 2) = false := beq_eq_false_iff_ne.mpr c18; have c18b1 : (a0_3 != 2) = true := bne_iff_ne.mpr c18; simp only [Option.some.injEq, Prod.mk.injEq] at H; obtain ⟨rfl, rfl, rfl, rfl⟩ := H; have hnb22 := NB568_569.out; have hnc22 := NB569_568.out; have hcz23_0 : wr.cell? ⟨gb568, 0, none⟩ = some (.int .i64 a0_0) := (blk_cell BK568.out 0).trans rfl; have hcz23_1 : wr.cell? ⟨gb568, 1, none⟩ = some (.int .i64 a0_1) := (blk_cell BK568.out 1).trans rfl; have hcz23_2 : wr.cell? ⟨gb568, 2, none⟩ = some (.int .i64 a0_2) := (blk_cell BK568.out 2).trans rfl; have hcz23_3 : wr.cell? ⟨gb568, 3, none⟩ = some (.int .i64 a0_3) := (blk_cell BK568.out 3).trans rfl; have hfz23_0 := blk_frozen BK568.out 0; have hfz23_1 := blk_frozen BK568.out 1; have hfz23_2 := blk_frozen BK568.out 2; have hfz23_3 := blk_frozen BK568.out 3; have hcz24_0 : wr.cell? ⟨gb569, 0, none⟩ = some (.bool x570000_1) := (blk_cell BK569.out 0).trans rfl; have hcz24_1 : wr.cell? ⟨gb569, 1, none⟩ = some (.int .i64 x570001_1) := (blk_cell BK569.out 1).trans rfl; have hfz24_0 := blk_frozen BK569.out 0; have hfz24_1 := blk_frozen BK569.out 1; go_wp2; refine bodyPost_ret (results_ctt rfl _ _ gb569 48 #[.bool false, .int .i64 (wrap64 (a0_2 + x9_1))] (0, 0) _ rfl (by (with_reducible repeat (first | refine blk_drewN ?_ _ | refine blk_drew ?_ | refine blk_alloc ?_ _)); refine blk_put (cs := #[.bool false, .int .i64 x570001_1]) ?_ 1 _ rfl; (with_reducible repeat (first | refine blk_drewN ?_ _ | refine blk_drew ?_ | refine blk_alloc ?_ _)); refine blk_put (cs := #[.bool x570000_1, .int .i64 x570001_1]) ?_ 0 _ rfl; (with_reducible repeat (first | refine blk_drewN ?_ _ | refine blk_drew ?_ | refine blk_alloc ?_ _)); exact BK569.out) Try.underlying48 rfl (by kernel_rfl)) rfl ?_; (exact ⟨by first | rfl | (simp [errW_none, errW_some] <;> rfl) | (simp [*, errW_none, errW_some] <;> rfl), by repeat (first | (with_reducible first | exact HB.out | apply below_alloc | apply pw_below_drewN | apply below_drew1 | refine below_set ?_ GE568.out | refine below_set ?_ GE569.out) | exact HB.out)⟩))))
end Go.Proofs.Ytnadgcdkcabdoaa.U
namespace Go.Proofs.Ytnadgcdkcabdoaa.U
open Go.RowKit Go.Proofs.YtnadgcdkcabdoaaW.PrintWords Go.Proofs.YtnadgcdkcabdoaaW.PrintLast Go.Proofs.YtnadgcdkcabdoaaW.PrintMore
attribute [local go_sem] max2_int min2_int max_two min_two max_three min_three max_four min_four   -- for this text's walks alone
def incunableref02_SameBytes.l0 : Nat → List Int → List Int → Int → Int → Option (Bool)
  | 0, _, _, _, _ => none
  | k + 1, x0, x1, x12, x13 => if x13 < x12 then (if 0 ≤ x13 then (if x13 < (x0.length : Int) then (if x13 < (x1.length : Int) then (if (rd x0 x13) = (rd x1 x13) then (incunableref02_SameBytes.l0 k x0 x1 x12 (wrap64 (x13 + 1))) else (some false)) else (none)) else (none)) else (none)) else (some true)
def incunableref02_SameBytes.f (k : Nat) (l0 : List Int) (l1 : List Int) : Option (Bool) := if (l0.length : Int) = (l1.length : Int) then (incunableref02_SameBytes.l0 k l0 l1 (l0.length : Int) 0) else (some false)
theorem incunableref02_SameBytes.mono_l : ∀ k, (∀ y0 y1 y2 y3, LeO (incunableref02_SameBytes.l0 k y0 y1 y2 y3) (incunableref02_SameBytes.l0 (k + 1) y0 y1 y2 y3))
  | 0 => fun _ _ _ _ r h => by simp [incunableref02_SameBytes.l0] at h
  | k + 1 => by
    have ih0 := incunableref02_SameBytes.mono_l k
    · intro y0 y1 y2 y3
      unfold incunableref02_SameBytes.l0
      repeat' first
      | (with_reducible exact ih0 _ _ _ _)
      | (with_reducible exact LeO.refl _)
      | (with_reducible exact LeO.none _)
      | (with_reducible refine LeO.ite ?_ ?_)
      | (with_reducible refine LeO.bind ?_ (fun _ => ?_))
      | exact ih0 _ _ _ _
      | exact LeO.none _
      | refine LeO.ite ?_ ?_
      | refine LeO.bind ?_ (fun _ => ?_)
theorem incunableref02_SameBytes.mono : ∀ a0 a1 k, LeO (incunableref02_SameBytes.f k a0 a1) (incunableref02_SameBytes.f (k + 1) a0 a1) := by
 intro a0 a1 k; have ih0 := incunableref02_SameBytes.mono_l k; unfold incunableref02_SameBytes.f
 repeat' first
  | (with_reducible exact ih0 _ _ _ _)
  | (with_reducible exact LeO.refl _)
  | (with_reducible exact LeO.none _)
  | (with_reducible refine LeO.ite ?_ ?_)
  | (with_reducible refine LeO.bind ?_ (fun _ => ?_))
  | exact ih0 _ _ _ _
  | exact LeO.none _
  | refine LeO.ite ?_ ?_
  | refine LeO.bind ?_ (fun _ => ?_)
end Go.Proofs.Ytnadgcdkcabdoaa.U
namespace Go.Proofs.Ytnadgcdkcabdoaa.Cdb
open Go Go.RowKit Go.Proofs.YtnadgcdkcabdoaaW.PrintWords Go.Proofs.YtnadgcdkcabdoaaW.PrintLast Go.Proofs.YtnadgcdkcabdoaaW.PrintMore Go.Proofs.Ytnadgcdkcabdoaa.Aid Go.Proofs.Ytnadgcdkcabdoaa.U Go.Proofs.Ytnadgcdkcabdoaa.Tab Go.Proofs.Ytnadgcdkcabdoaa.Cdx Go.Proofs.Ytnadgcdkcabdoaa.Cdy Go.Proofs.Ytnadgcdkcabdoaa.Cdz
end Go.Proofs.Ytnadgcdkcabdoaa.Cdb
namespace Go.Proofs.Ytnadgcdkcabdoaa.U
open Go.RowKit Go.Proofs.YtnadgcdkcabdoaaW.PrintWords Go.Proofs.YtnadgcdkcabdoaaW.PrintLast Go.Proofs.YtnadgcdkcabdoaaW.PrintMore
attribute [local go_sem] max2_int min2_int max_two min_two max_three min_three max_four min_four   -- for this text's walks alone
def prefix_Codes.l0 : Nat → List (List Int) → List (S84) → Int → Int → Option ((List (List Int)) × Int)
  | 0, _, _, _, _ => none
  | k + 1, x4, x11, x12, x13 => if x13 < x12 then (if 0 ≤ x13 then (if x13 < (x11.length : Int) then ((prefix_digits.f k ((rd_T84 x11 x13).f0) ((rd_T84 x11 x13).f1)).bind fun t385 => (if x4.length < 5864062014805 then (prefix_Codes.l0 k (x4 ++ [t385]) x11 x12 (wrap64 (x13 + 1))) else (none))) else (none)) else (none)) else (some (x4, 0))
def prefix_Codes.f (k : Nat) (l0 : List (S32)) : Option ((List (List Int)) × Int) := (prefix_Valid.f k l0).bind fun t379 => (if t379 = true then ((prefix_codes.f k l0).bind fun t380 => (prefix_Codes.l0 k ([] : List (List Int)) t380 (t380.length : Int) 0)) else (some (([] : List (List Int)), 20)))
theorem prefix_Codes.mono_l : ∀ k, (∀ y0 y1 y2 y3, LeO (prefix_Codes.l0 k y0 y1 y2 y3) (prefix_Codes.l0 (k + 1) y0 y1 y2 y3))
  | 0 => fun _ _ _ _ r h => by simp [prefix_Codes.l0] at h
  | k + 1 => by
    have ih0 := prefix_Codes.mono_l k
    · intro y0 y1 y2 y3
      unfold prefix_Codes.l0
      repeat' first
      | (with_reducible exact ih0 _ _ _ _)
      | (with_reducible exact prefix_Valid.mono _ _)
      | (with_reducible exact prefix_codes.mono _ _)
      | (with_reducible exact prefix_digits.mono _ _ _)
      | (with_reducible exact LeO.refl _)
      | (with_reducible exact LeO.none _)
      | (with_reducible refine LeO.ite ?_ ?_)
      | (with_reducible refine LeO.bind ?_ (fun _ => ?_))
      | exact ih0 _ _ _ _
      | exact prefix_Valid.mono _ _
      | exact prefix_codes.mono _ _
      | exact prefix_digits.mono _ _ _
      | exact LeO.none _
      | refine LeO.ite ?_ ?_
      | refine LeO.bind ?_ (fun _ => ?_)
theorem prefix_Codes.mono : ∀ a0 k, LeO (prefix_Codes.f k a0) (prefix_Codes.f (k + 1) a0) := by
 intro a0 k; have ih0 := prefix_Codes.mono_l k; unfold prefix_Codes.f
 repeat' first
  | (with_reducible exact ih0 _ _ _ _)
  | (with_reducible exact prefix_Valid.mono _ _)
  | (with_reducible exact prefix_codes.mono _ _)
  | (with_reducible exact prefix_digits.mono _ _ _)
  | (with_reducible exact LeO.refl _)
  | (with_reducible exact LeO.none _)
  | (with_reducible refine LeO.ite ?_ ?_)
  | (with_reducible refine LeO.bind ?_ (fun _ => ?_))
  | exact ih0 _ _ _ _
  | exact prefix_Valid.mono _ _
  | exact prefix_codes.mono _ _
  | exact prefix_digits.mono _ _ _
  | exact LeO.none _
  | refine LeO.ite ?_ ?_
  | refine LeO.bind ?_ (fun _ => ?_)
end Go.Proofs.Ytnadgcdkcabdoaa.U
namespace Go.Proofs.Ytnadgcdkcabdoaa.U
open Go.RowKit Go.Proofs.YtnadgcdkcabdoaaW.PrintWords Go.Proofs.YtnadgcdkcabdoaaW.PrintLast Go.Proofs.YtnadgcdkcabdoaaW.PrintMore
attribute [local go_sem] max2_int min2_int max_two min_two max_three min_three max_four min_four   -- for this text's walks alone
mutual
def incunablelaw04_PrefixCodes.j0 : Nat → List (List Int) → List (List Int) → Bool → Option (Bool)
  | 0, _, _, _ => none
  | k + 1, x3, x5, x36 => if x36 = true then (some false) else (incunablelaw04_PrefixCodes.l0 k x3 x5 (x3.length : Int) 0)
def incunablelaw04_PrefixCodes.l0 : Nat → List (List Int) → List (List Int) → Int → Int → Option (Bool)
  | 0, _, _, _, _ => none
  | k + 1, x3, x5, x38, x39 => if x39 < x38 then (if 0 ≤ x39 then (if x39 < (x3.length : Int) then (if x39 < (x5.length : Int) then ((incunableref02_SameBytes.f k (rd_L9 x3 x39) (rd_L9 x5 x39)).bind fun t430 => (if t430 = true then (incunablelaw04_PrefixCodes.l1 k x3 x5 x39 x38 x39 (x3.length : Int) 0) else (some false))) else (none)) else (none)) else (none)) else ((incunablelaw04_Awake.f k).bind fun t427 => (some t427))
def incunablelaw04_PrefixCodes.l1 : Nat → List (List Int) → List (List Int) → Int → Int → Int → Int → Int → Option (Bool)
  | 0, _, _, _, _, _, _, _ => none
  | k + 1, x3, x5, x6, x38, x39, x53, x54 => if x54 < x53 then (if x54 = x6 then (incunablelaw04_PrefixCodes.l1 k x3 x5 x6 x38 x39 x53 (wrap64 (x54 + 1))) else (if 0 ≤ x6 then (if x6 < (x3.length : Int) then (if ((rd_L9 x3 x6).length : Int) > 0 then (if 0 ≤ x54 then (if x54 < (x3.length : Int) then (if ((rd_L9 x3 x54).length : Int) ≥ ((rd_L9 x3 x6).length : Int) then (if 0 ≤ ((rd_L9 x3 x6).length : Int) then (if ((rd_L9 x3 x6).length : Int) ≤ ((rd_L9 x3 x54).length : Int) then (if (strOfNums ((rd_L9 x3 x54).take (((rd_L9 x3 x6).length : Int) : Int).toNat)).toList = (strOfNums (rd_L9 x3 x6)).toList then (some false) else (incunablelaw04_PrefixCodes.l1 k x3 x5 x6 x38 x39 x53 (wrap64 (x54 + 1)))) else (none)) else (none)) else (incunablelaw04_PrefixCodes.l1 k x3 x5 x6 x38 x39 x53 (wrap64 (x54 + 1)))) else (none)) else (none)) else (incunablelaw04_PrefixCodes.l1 k x3 x5 x6 x38 x39 x53 (wrap64 (x54 + 1)))) else (none)) else (none))) else (incunablelaw04_PrefixCodes.l0 k x3 x5 x38 (wrap64 (x39 + 1)))
end
def incunablelaw04_PrefixCodes.f (k : Nat) (l0 : List (S32)) : Option (Bool) := (prefix_Codes.f k l0).bind fun bt418 => ((incunableref04_Valid.f k l0).bind fun t422 => (if t422 = true then ((incunableref04_Codes.f k l0).bind fun t424 => (if bt418.2 = 0 then (incunablelaw04_PrefixCodes.j0 k bt418.1 t424 ((bt418.1.length : Int) != (t424.length : Int))) else (incunablelaw04_PrefixCodes.j0 k bt418.1 t424 true))) else (if (bt418.1.length : Int) = 0 then (if bt418.2 = 20 then ((incunablelaw04_Awake.f k).bind fun t423 => (some t423)) else (some false)) else (some false))))
theorem incunablelaw04_PrefixCodes.mono_l : ∀ k, (∀ y0 y1 y2, LeO (incunablelaw04_PrefixCodes.j0 k y0 y1 y2) (incunablelaw04_PrefixCodes.j0 (k + 1) y0 y1 y2)) ∧ (∀ y0 y1 y2 y3, LeO (incunablelaw04_PrefixCodes.l0 k y0 y1 y2 y3) (incunablelaw04_PrefixCodes.l0 (k + 1) y0 y1 y2 y3)) ∧ (∀ y0 y1 y2 y3 y4 y5 y6, LeO (incunablelaw04_PrefixCodes.l1 k y0 y1 y2 y3 y4 y5 y6) (incunablelaw04_PrefixCodes.l1 (k + 1) y0 y1 y2 y3 y4 y5 y6))
  | 0 => ⟨fun _ _ _ r h => by simp [incunablelaw04_PrefixCodes.j0] at h, fun _ _ _ _ r h => by simp [incunablelaw04_PrefixCodes.l0] at h, fun _ _ _ _ _ _ _ r h => by simp [incunablelaw04_PrefixCodes.l1] at h⟩
  | k + 1 => by
    obtain ⟨ih0, ih1, ih2⟩ := incunablelaw04_PrefixCodes.mono_l k
    refine ⟨?_, ?_, ?_⟩
    · intro y0 y1 y2
      unfold incunablelaw04_PrefixCodes.j0
      repeat' first
      | (with_reducible exact ih0 _ _ _)
      | (with_reducible exact ih1 _ _ _ _)
      | (with_reducible exact ih2 _ _ _ _ _ _ _)
      | (with_reducible exact incunablelaw04_Awake.mono _)
      | (with_reducible exact incunableref02_SameBytes.mono _ _ _)
      | (with_reducible exact incunableref04_Codes.mono _ _)
      | (with_reducible exact incunableref04_Valid.mono _ _)
      | (with_reducible exact prefix_Codes.mono _ _)
      | (with_reducible exact LeO.refl _)
      | (with_reducible exact LeO.none _)
      | (with_reducible refine LeO.ite ?_ ?_)
      | (with_reducible refine LeO.bind ?_ (fun _ => ?_))
      | exact ih0 _ _ _
      | exact ih1 _ _ _ _
      | exact ih2 _ _ _ _ _ _ _
      | exact incunablelaw04_Awake.mono _
      | exact incunableref02_SameBytes.mono _ _ _
      | exact incunableref04_Codes.mono _ _
      | exact incunableref04_Valid.mono _ _
      | exact prefix_Codes.mono _ _
      | exact LeO.none _
      | refine LeO.ite ?_ ?_
      | refine LeO.bind ?_ (fun _ => ?_)
    · intro y0 y1 y2 y3
      unfold incunablelaw04_PrefixCodes.l0
      repeat' first
      | (with_reducible exact ih0 _ _ _)
      | (with_reducible exact ih1 _ _ _ _)
      | (with_reducible exact ih2 _ _ _ _ _ _ _)
      | (with_reducible exact incunablelaw04_Awake.mono _)
      | (with_reducible exact incunableref02_SameBytes.mono _ _ _)
      | (with_reducible exact incunableref04_Codes.mono _ _)
      | (with_reducible exact incunableref04_Valid.mono _ _)
      | (with_reducible exact prefix_Codes.mono _ _)
      | (with_reducible exact LeO.refl _)
      | (with_reducible exact LeO.none _)
      | (with_reducible refine LeO.ite ?_ ?_)
      | (with_reducible refine LeO.bind ?_ (fun _ => ?_))
      | exact ih0 _ _ _
      | exact ih1 _ _ _ _
      | exact ih2 _ _ _ _ _ _ _
      | exact incunablelaw04_Awake.mono _
      | exact incunableref02_SameBytes.mono _ _ _
      | exact incunableref04_Codes.mono _ _
      | exact incunableref04_Valid.mono _ _
      | exact prefix_Codes.mono _ _
      | exact LeO.none _
      | refine LeO.ite ?_ ?_
      | refine LeO.bind ?_ (fun _ => ?_)
    · intro y0 y1 y2 y3 y4 y5 y6
      unfold incunablelaw04_PrefixCodes.l1
      repeat' first
      | (with_reducible exact ih0 _ _ _)
      | (with_reducible exact ih1 _ _ _ _)
      | (with_reducible exact ih2 _ _ _ _ _ _ _)
      | (with_reducible exact incunablelaw04_Awake.mono _)
      | (with_reducible exact incunableref02_SameBytes.mono _ _ _)
      | (with_reducible exact incunableref04_Codes.mono _ _)
      | (with_reducible exact incunableref04_Valid.mono _ _)
      | (with_reducible exact prefix_Codes.mono _ _)
      | (with_reducible exact LeO.refl _)
      | (with_reducible exact LeO.none _)
      | (with_reducible refine LeO.ite ?_ ?_)
      | (with_reducible refine LeO.bind ?_ (fun _ => ?_))
      | exact ih0 _ _ _
      | exact ih1 _ _ _ _
      | exact ih2 _ _ _ _ _ _ _
      | exact incunablelaw04_Awake.mono _
      | exact incunableref02_SameBytes.mono _ _ _
      | exact incunableref04_Codes.mono _ _
      | exact incunableref04_Valid.mono _ _
      | exact prefix_Codes.mono _ _
      | exact LeO.none _
      | refine LeO.ite ?_ ?_
      | refine LeO.bind ?_ (fun _ => ?_)
theorem incunablelaw04_PrefixCodes.mono : ∀ a0 k, LeO (incunablelaw04_PrefixCodes.f k a0) (incunablelaw04_PrefixCodes.f (k + 1) a0) := by
 intro a0 k; obtain ⟨ih0, ih1, ih2⟩ := incunablelaw04_PrefixCodes.mono_l k; unfold incunablelaw04_PrefixCodes.f
 repeat' first
  | (with_reducible exact ih0 _ _ _)
  | (with_reducible exact ih1 _ _ _ _)
  | (with_reducible exact ih2 _ _ _ _ _ _ _)
  | (with_reducible exact incunablelaw04_Awake.mono _)
  | (with_reducible exact incunableref02_SameBytes.mono _ _ _)
  | (with_reducible exact incunableref04_Codes.mono _ _)
  | (with_reducible exact incunableref04_Valid.mono _ _)
  | (with_reducible exact prefix_Codes.mono _ _)
  | (with_reducible exact LeO.refl _)
  | (with_reducible exact LeO.none _)
  | (with_reducible refine LeO.ite ?_ ?_)
  | (with_reducible refine LeO.bind ?_ (fun _ => ?_))
  | exact ih0 _ _ _
  | exact ih1 _ _ _ _
  | exact ih2 _ _ _ _ _ _ _
  | exact incunablelaw04_Awake.mono _
  | exact incunableref02_SameBytes.mono _ _ _
  | exact incunableref04_Codes.mono _ _
  | exact incunableref04_Valid.mono _ _
  | exact prefix_Codes.mono _ _
  | exact LeO.none _
  | refine LeO.ite ?_ ?_
  | refine LeO.bind ?_ (fun _ => ?_)
end Go.Proofs.Ytnadgcdkcabdoaa.U
namespace Go.Proofs.Ytnadgcdkcabdoaa.Cpl
open Go Go.RowKit Go.Proofs.YtnadgcdkcabdoaaW.PrintWords Go.Proofs.YtnadgcdkcabdoaaW.PrintLast Go.Proofs.YtnadgcdkcabdoaaW.PrintMore Go.Proofs.Ytnadgcdkcabdoaa.Aid Go.Proofs.Ytnadgcdkcabdoaa.U Go.Proofs.Ytnadgcdkcabdoaa.Tab Go.Proofs.Ytnadgcdkcabdoaa.Cdx Go.Proofs.Ytnadgcdkcabdoaa.Cdy Go.Proofs.Ytnadgcdkcabdoaa.Cdz Go.Proofs.Ytnadgcdkcabdoaa.Cdb
/-- A line's code; nothing: it is not used. -/
def codeB (t : List Ln) (i : Nat) : List Int := if len t i = 0 then [] else digs (cnum t i) (len t i).toNat
def codesB (t : List Ln) (n : Nat) : List (List Int) := (List.range n).map (codeB t)
theorem codesB_len (t : List Ln) (n : Nat) : (codesB t n).length = n := by simp [codesB]
theorem codesB_succ (t : List Ln) (n : Nat) : codesB t (n + 1) = codesB t n ++ [codeB t n] := by
  unfold codesB
  rw [List.range_succ, List.map_append]
  rfl
theorem codeB_len (t : List Ln) (hv : vldP t) (i : Nat) (hi : i < t.length) : ((codeB t i).length : Int) = len t i := by
  have hl := of_decide_eq_true (hv.2.1 _ (rdL_mem hi))
  have hlen : len t i = (rd_T32 t (i : Int)).f0 := rfl
  unfold codeB
  split
  · rename_i h; rw [h]; rfl
  · rw [digs_len]; omega
theorem rd_codes (t : List Ln) (n i : Nat) (hi : i < n) : rd_L9 (codesB t n) (i : Int) = codeB t i := by
  unfold rd_L9 codesB
  rw [Int.toNat_natCast, List.getD_eq_getElem?_getD, List.getElem?_eq_getElem (by simpa using hi)]
  simp
theorem rcodes_loop (t : List Ln) (hv : vldP t) : ∀ (d i : Nat), i + d = t.length → Ev (fun k => incunableref04_Codes.l0 k t (codesB t i) t (t.length : Int) (i : Int)) (codesB t t.length)
  | 0, i, hd => by
    refine ev_succ ?_
    unfold incunableref04_Codes.l0
    rw [show i = t.length by omega]
    exact ev_neg (by omega) (Ev.now _)
  | d + 1, i, hd => by
    have ht := hv.1
    have hi : i < t.length := by omega
    have ih := rcodes_loop t hv d (i + 1) (by omega)
    have hl := of_decide_eq_true (hv.2.1 _ (rdL_mem hi))
    have hlen : len t i = (rd_T32 t (i : Int)).f0 := rfl
    have hb := codesB_len t i
    rw [codesB_succ] at ih
    refine ev_succ ?_
    unfold incunableref04_Codes.l0
    rw [wrap_id (n := (i : Int) + 1) (by omega) (by omega)]
    refine ev_pos (by omega) (ev_pos (by omega) (ev_pos (by omega) (ev_pure (a := decide ((rd_T32 t (i : Int)).f0 > 0)) rfl ?_)))
    by_cases c : len t i = 0
    · have e : codeB t i = [] := by unfold codeB; rw [if_pos c]
      rw [e] at ih
      exact ev_neg (by simp; omega) (ev_pos (by omega) ih)
    · have e : codeB t i = digs (cnum t i) (len t i).toNat := by unfold codeB; rw [if_neg c]
      rw [e] at ih
      exact ev_pos (by simp; omega) (ev_bind (code_ev t i hi hv) (ev_pos (by omega) ih))
theorem rcodes_ev (t : List Ln) (hv : vldP t) : Ev (fun k => incunableref04_Codes.f k t) (codesB t t.length) := rcodes_loop t hv t.length 0 (by omega)
theorem divdiv (x : Int) (m n : Nat) : x / 2 ^ m / 2 ^ n = x / 2 ^ (m + n) := by
  rw [Int.ediv_ediv, if_neg (fun h => absurd h.1 (Int.not_lt.2 (Int.pow_nonneg (by decide)))), Int.sub_zero, Int.pow_add]
theorem pow_pos2 (m : Nat) : (0 : Int) < 2 ^ m := Int.pow_pos (by decide)
theorem digs_inj : ∀ (m : Nat) (a b : Int), 0 ≤ a → a < 2 ^ m → 0 ≤ b → b < 2 ^ m → digs a m = digs b m → a = b
  | 0, a, b, h1, h2, h3, h4, _ => by
    have e : (2 : Int) ^ 0 = 1 := rfl
    omega
  | m + 1, a, b, h1, h2, h3, h4, h => by
    have hP := pow_pos2 m
    rw [Int.pow_succ] at h2 h4
    have hh : ∀ x : Int, digs x (m + 1) = digs (x / 2) m ++ [x % 2] := by
      intro x
      refine List.ext_getElem (by simp [digs]) fun i q1 q2 => ?_
      have h5 : i < m + 1 := by simpa [digs] using q1
      simp only [digs, List.getElem_append, List.getElem_map, List.getElem_range, List.length_map, List.length_range]
      by_cases c : i < m
      · rw [dif_pos c, show (x / 2 : Int) = x / 2 ^ 1 from rfl, divdiv, show m + 1 - 1 - i = 1 + (m - 1 - i) by omega]
      · rw [dif_neg c, show m + 1 - 1 - i = 0 by omega]
        simp
    rw [hh, hh] at h
    obtain ⟨e1, e2⟩ := List.append_inj' h rfl
    have e3 := List.cons.inj e2
    have ih := digs_inj m (a / 2) (b / 2) (by omega) (by omega) (by omega) (by omega) e1
    omega
theorem front_le : ∀ (t : List Ln) (L M : Int) (i j : Nat), (∀ x ∈ t, lineB x = true) → (L < M ∨ L = M ∧ i ≤ j) → front L i t ≤ front M j t
  | [], _, _, _, _, _, _ => Int.le_refl _
  | x :: l, L, M, i, j, h, c => by
    have ih := front_le l L M (i - 1) (j - 1) (fun y hy => h y (List.mem_cons_of_mem _ hy)) (by omega)
    have hw := wS_range (h x List.mem_cons_self)
    simp only [front]
    have : (if x.f0 < L then wS x else if x.f0 = L then (if 0 < i then wS x else 0) else 0) ≤ (if x.f0 < M then wS x else if x.f0 = M then (if 0 < j then wS x else 0) else 0) := by
      repeat' split
      all_goals omega
    omega
/-- What line i takes ends where line k begins, or ahead of it. -/
theorem apart (t : List Ln) (hv : vldP t) (i k : Nat) (hi : i < t.length) (h : len t i < len t k ∨ len t i = len t k ∧ i < k) : front (len t i) i t + wS (rd_T32 t (i : Int)) ≤ front (len t k) k t := by
  have h1 := front_step (L := len t i) t i hi
  rw [if_pos rfl] at h1
  rw [← h1]
  exact front_le t _ _ _ _ hv.2.1 (by omega)
theorem digs_bytes (x : Int) (n : Nat) : Bytes (digs x n) := by
  intro y hy
  obtain ⟨i, _, rfl⟩ := List.mem_map.1 hy
  omega
theorem codeB_bytes (t : List Ln) (i : Nat) : Bytes (codeB t i) := by
  unfold codeB
  split
  · intro y hy; simp at hy
  · exact digs_bytes _ _
abbrev S (t : List Ln) : List (List Int) := codesB t t.length
end Go.Proofs.Ytnadgcdkcabdoaa.Cpl
namespace Go.Proofs.Ytnadgcdkcabdoaa.Gdc
open Go Go.RowKit Go.Proofs.YtnadgcdkcabdoaaW.PrintWords Go.Proofs.YtnadgcdkcabdoaaW.PrintLast Go.Proofs.YtnadgcdkcabdoaaW.PrintMore Go.Proofs.Ytnadgcdkcabdoaa.Aid Go.Proofs.Ytnadgcdkcabdoaa.HandAid Go.Proofs.Ytnadgcdkcabdoaa.U Go.Proofs.Ytnadgcdkcabdoaa.Tab Go.Proofs.Ytnadgcdkcabdoaa.Cdx Go.Proofs.Ytnadgcdkcabdoaa.Cdy Go.Proofs.Ytnadgcdkcabdoaa.Cdz Go.Proofs.Ytnadgcdkcabdoaa.Rdp Go.Proofs.Ytnadgcdkcabdoaa.Mpp Go.Proofs.Ytnadgcdkcabdoaa.Dcm Go.Proofs.Ytnadgcdkcabdoaa.Nbr Go.Proofs.Ytnadgcdkcabdoaa.Dwk
theorem divdiv2 (x : Int) (m n : Nat) : x / 2 ^ m / 2 ^ n = x / 2 ^ (m + n) := by
  rw [Int.ediv_ediv, if_neg (fun h => absurd h.1 (Int.not_lt.2 (Int.pow_nonneg (by decide)))), Int.sub_zero, Int.pow_add]
theorem p2 (m : Nat) : (0 : Int) < 2 ^ m := Int.pow_pos (by decide)
theorem p15 : ∀ n, n < 16 → (2 : Int) ^ n * 2 ^ (15 - n) = 32768 := by decide
theorem fr_le : ∀ (t : List Ln) (L M : Int) (i j : Nat), (∀ x ∈ t, lineB x = true) → (L < M ∨ L = M ∧ i ≤ j) → front L i t ≤ front M j t
  | [], _, _, _, _, _, _ => Int.le_refl _
  | x :: l, L, M, i, j, h, c => by
    have ih := fr_le l L M (i - 1) (j - 1) (fun y hy => h y (List.mem_cons_of_mem _ hy)) (by omega)
    have hw := wS_range (h x List.mem_cons_self)
    simp only [front]
    have : (if x.f0 < L then wS x else if x.f0 = L then (if 0 < i then wS x else 0) else 0) ≤ (if x.f0 < M then wS x else if x.f0 = M then (if 0 < j then wS x else 0) else 0) := by
      repeat' split
      all_goals omega
    omega
theorem fr_apart (t : List Ln) (hv : vldP t) (i k : Nat) (hi : i < t.length) (h : len t i < len t k ∨ len t i = len t k ∧ i < k) : front (len t i) i t + wS (rd_T32 t (i : Int)) ≤ front (len t k) k t := by
  have h1 := front_step (L := len t i) t i hi
  rw [if_pos rfl] at h1
  rw [← h1]
  exact fr_le t _ _ _ _ hv.2.1 (by omega)
theorem w_len (t : List Ln) (i : Nat) (c : len t i ≠ 0) : wS (rd_T32 t (i : Int)) = 2 ^ (15 - len t i).toNat := if_neg c
theorem fr_top (t : List Ln) (hv : vldP t) (i : Nat) (hi : i < t.length) : front (len t i) i t + wS (rd_T32 t (i : Int)) ≤ 32768 := by
  have h1 := front_step (L := len t i) t i hi
  rw [if_pos rfl] at h1
  rw [← h1]
  have h2 := (front_range (L := len t i) t (i + 1) hv.2.1).2
  have h3 := hv.2.2.2.2
  omega
theorem lens (t : List Ln) (hv : vldP t) (i : Nat) (hi : i < t.length) : 0 ≤ len t i ∧ len t i ≤ 15 ∧ 0 ≤ (rd_T32 t (i : Int)).f1 ∧ (rd_T32 t (i : Int)).f1 ≤ 20 := by
  have li := of_decide_eq_true (hv.2.1 _ (rdL_mem hi))
  exact ⟨li.1, li.2.1, li.2.2.1, li.2.2.2.1⟩
theorem cn_lt (t : List Ln) (hv : vldP t) (i : Nat) (hi : i < t.length) (c : len t i ≠ 0) : 0 ≤ cnum t i ∧ cnum t i < 2 ^ (len t i).toNat := by
  have hl := lens t hv i hi
  have hf := front_range (L := len t i) t i hv.2.1
  have h1 := fr_top t hv i hi
  rw [w_len t i c] at h1
  refine ⟨(div_pos_le hf.1 _).1, Int.ediv_lt_of_lt_mul (p2 _) ?_⟩
  have h2 := p15 (len t i).toNat (by omega)
  rw [show 15 - (len t i).toNat = (15 - len t i).toNat by omega] at h2
  rw [h2]
  have := p2 (15 - len t i).toNat
  omega
/-- No code begins another one. -/
theorem no_pre (t : List Ln) (hv : vldP t) (i k : Nat) (hi : i < t.length) (hk : k < t.length) (hne : k ≠ i) (c : len t i ≠ 0) (hle : len t i ≤ len t k) : cnum t k / 2 ^ (len t k - len t i).toNat ≠ cnum t i := by
  have li := lens t hv i hi
  have lk := lens t hv k hk
  have ck : len t k ≠ 0 := by omega
  intro e
  have hq : cnum t k / 2 ^ (len t k - len t i).toNat = front (len t k) k t / 2 ^ (15 - len t i).toNat := by
    unfold cnum
    rw [divdiv2, show (15 - len t k).toNat + (len t k - len t i).toNat = (15 - len t i).toNat by omega]
  rw [hq] at e
  unfold cnum at e
  have hP := p2 (15 - len t i).toNat
  have step : ∀ a b : Int, a + 2 ^ (15 - len t i).toNat ≤ b → a / 2 ^ (15 - len t i).toNat < b / 2 ^ (15 - len t i).toNat := by
    intro a b hab
    have h1 := Int.ediv_le_ediv hP hab
    have h2 := Int.add_mul_ediv_left a (b := 2 ^ (15 - len t i).toNat) 1 (by omega)
    rw [Int.mul_one] at h2
    omega
  by_cases d : len t i < len t k ∨ len t i = len t k ∧ i < k
  · have h1 := fr_apart t hv i k hi d
    rw [w_len t i c] at h1
    have := step _ _ h1
    omega
  · have h1 := fr_apart t hv k i hk (by omega)
    rw [w_len t k ck, show len t k = len t i by omega] at h1
    have := step _ _ h1
    rw [show len t k = len t i by omega] at e
    omega
theorem gI_iff (c L : Int) (g : Int → Int → Option Lit) (v m : Int) : ∀ j : Nat, (gI c L g j v m).isSome = true ↔ (g v m).isSome = true ∨ ∃ a : Nat, a < j ∧ v = c / 2 ^ (L - a).toNat ∧ m = a
  | 0 => by simp [gI]
  | j + 1 => by
    simp only [gI]
    have ih := gI_iff c L g v m j
    by_cases h : v = c / 2 ^ (L - j).toNat ∧ m = (j : Int)
    · rw [if_pos h]
      exact ⟨fun _ => .inr ⟨j, by omega, h⟩, fun _ => rfl⟩
    · rw [if_neg h, ih]
      constructor
      · rintro (h1 | ⟨a, h1, h2⟩)
        · exact .inl h1
        · exact .inr ⟨a, by omega, h2⟩
      · rintro (h1 | ⟨a, h1, h2⟩)
        · exact .inl h1
        · refine .inr ⟨a, ?_, h2⟩
          by_cases e : a = j
          · subst e; exact absurd h2 h
          · omega
theorem gB_iff (t : List Ln) (hv : vldP t) (v : Int) (m : Nat) : ∀ q, q ≤ t.length → ((gB t q v m).isSome = true ↔ ∃ i, i < q ∧ (m : Int) < len t i ∧ v = cnum t i / 2 ^ (len t i - m).toNat)
  | 0, _ => by simp [gB]
  | q + 1, hq => by
    have ih := gB_iff t hv v m q (by omega)
    have hl := lens t hv q (by omega)
    simp only [gB]
    by_cases c : len t q = 0
    · rw [if_pos c, ih]
      constructor
      · rintro ⟨i, h1, h2⟩; exact ⟨i, by omega, h2⟩
      · rintro ⟨i, h1, h2, h3⟩
        refine ⟨i, ?_, h2, h3⟩
        by_cases e : i = q
        · subst e; omega
        · omega
    · rw [if_neg c, gI_iff, ih]
      constructor
      · rintro (⟨i, h1, h2⟩ | ⟨a, h1, h2, h3⟩)
        · exact ⟨i, by omega, h2⟩
        · have e : a = m := by omega
          subst e
          exact ⟨q, by omega, by omega, h2⟩
      · rintro ⟨i, h1, h2, h3⟩
        by_cases e : i = q
        · subst e; exact .inr ⟨m, by omega, h3, rfl⟩
        · exact .inl ⟨i, by omega, h2, h3⟩
theorem gW_at (t : List Ln) (hv : vldP t) (i : Nat) (hi : i < t.length) (c : len t i ≠ 0) : ∀ q, i < q → q ≤ t.length → gW t q (cnum t i) (len t i) = some (.int .i64 (i : Int))
  | 0, h, _ => absurd h (Nat.not_lt_zero _)
  | q + 1, h, hq => by
    simp only [gW]
    by_cases e : i = q
    · subst e
      rw [if_neg c]
      exact if_pos ⟨rfl, rfl⟩
    · have ih := gW_at t hv i hi c q (by omega) (by omega)
      by_cases z : len t q = 0
      · rw [if_pos z]; exact ih
      · rw [if_neg z, if_neg, ih]
        rintro ⟨h1, h2⟩
        have := no_pre t hv i q hi (by omega) (by omega) c (by omega)
        rw [show (len t q - len t i).toNat = 0 by omega, Int.pow_zero, Int.ediv_one] at this
        exact this h1.symm
theorem gW_none (t : List Ln) (hv : vldP t) (v m : Int) (h : ∀ i, i < t.length → len t i ≠ 0 → ¬ (len t i = m ∧ cnum t i = v)) : gW t t.length v m = none := by
  cases e : gW t t.length v m with
  | none => rfl
  | some x =>
    obtain ⟨i, h1, _, h2, h3, h4⟩ := gW_some t hv v m _ (Nat.le_refl _) x e
    exact absurd ⟨h2, h3⟩ (h i h1 h4)
theorem bitsAt_add (b : List Int) (a : Int) (m : Nat) : ∀ d : Nat, bitsAt b a (m + d) = bitsAt b a m * 2 ^ d + bitsAt b (a + m) d
  | 0 => by simp [bitsAt]
  | d + 1 => by
    have ih := bitsAt_add b a m d
    have h1 : bitsAt b a (m + (d + 1)) = 2 * bitsAt b a (m + d) + bitOf b (a + ((m + d : Nat) : Int)) := rfl
    have h2 : bitsAt b (a + m) (d + 1) = 2 * bitsAt b (a + m) d + bitOf b (a + m + (d : Int)) := rfl
    rw [h1, h2, ih, Int.pow_succ, show a + ((m + d : Nat) : Int) = a + m + (d : Int) by omega, Int.mul_add, Int.add_assoc, ← Int.mul_assoc, Int.mul_comm 2, Int.mul_assoc, Int.mul_comm (2 : Int) (2 ^ d)]
theorem bitsAt_pre (b : List Int) (a : Int) (m d : Nat) : bitsAt b a (m + d) / 2 ^ d = bitsAt b a m := by
  have hr := bitsAt_range b (a + m) d
  rw [bitsAt_add, Int.add_comm, Int.add_mul_ediv_right _ _ (by have := p2 d; omega), Int.ediv_eq_zero_of_lt hr.1 hr.2, Int.zero_add]
end Go.Proofs.Ytnadgcdkcabdoaa.Gdc
namespace Go.Proofs.Ytnadgcdkcabdoaa.Tke
open Go Go.RowKit Go.Proofs.YtnadgcdkcabdoaaW.PrintWords Go.Proofs.YtnadgcdkcabdoaaW.PrintLast Go.Proofs.YtnadgcdkcabdoaaW.PrintMore Go.Proofs.Ytnadgcdkcabdoaa.Aid Go.Proofs.Ytnadgcdkcabdoaa.HandAid Go.Proofs.Ytnadgcdkcabdoaa.U Go.Proofs.Ytnadgcdkcabdoaa.Tab Go.Proofs.Ytnadgcdkcabdoaa.Cdx Go.Proofs.Ytnadgcdkcabdoaa.Cdy Go.Proofs.Ytnadgcdkcabdoaa.Cdz Go.Proofs.Ytnadgcdkcabdoaa.Cpl Go.Proofs.Ytnadgcdkcabdoaa.Rdp Go.Proofs.Ytnadgcdkcabdoaa.Mpp Go.Proofs.Ytnadgcdkcabdoaa.Dcm Go.Proofs.Ytnadgcdkcabdoaa.Nbr Go.Proofs.Ytnadgcdkcabdoaa.Dwk Go.Proofs.Ytnadgcdkcabdoaa.Gdc
theorem bitAt_eq (b : List Int) (hb : Bytes b) (hl : b.length ≤ 140737488355328) (p : Int) (h0 : 0 ≤ p) (h1 : p ≤ 9223372036854775807) : incunableref04_BitAt.f b p = some (if p < 8 * b.length then (bitOf b p, true) else (0, false)) := by
  unfold incunableref04_BitAt.f
  rw [wrap_id (n := 8 * (b.length : Int)) (by omega) (by omega)]
  by_cases c : p < 8 * b.length
  · have hr := bytes_rdI hb (i := p / 8) (by omega) (by omega)
    have hs := shr64u (rd b (p / 8)) (m := (7 - p % 8).toNat) (by omega)
    rw [if_neg (by omega), if_pos c, tdiv_id h0, tmod_id h0, wrap_id (n := p / 8) (by omega) (by omega), wrap_id (n := 7 - p % 8) (by omega) (by omega), if_pos (by omega), if_pos (by omega), if_pos (by omega)]
    rw [show ((7 - p % 8).toNat : Int) = 7 - p % 8 by omega] at hs
    have hd := div_pos_le hr.1 (7 - p % 8).toNat
    rw [hs, wrap_id (by omega) (by omega), tmod_id hd.1]
    rfl
  · rw [if_pos (by omega), if_neg c]
where shr64u (x : Int) {m : Nat} (h : m ≤ 8) : shr .u8 x (m : Int) = x / 2 ^ m := by
        show x / 2 ^ min (m : Int).toNat 8 = x / 2 ^ m
        rw [Int.toNat_natCast, Nat.min_eq_left h]
/-- The first m digits of a list are the bits from a place on. -/
def same (c b : List Int) (a : Int) (j m : Nat) : Bool := (List.range (m - j)).all fun i => rd c ((j + i : Nat) : Int) == bitOf b (a + (j + i : Nat))
theorem same_step (c b : List Int) (a : Int) (j m : Nat) (h : j < m) : same c b a j m = ((rd c (j : Int) == bitOf b (a + (j : Int))) && same c b a (j + 1) m) := by
  unfold same
  rw [show m - j = (m - (j + 1)) + 1 by omega, List.range_succ_eq_map, List.all_cons, List.all_map]
  congr 1
  refine List.all_congr rfl fun i => ?_
  simp only [Function.comp]
  rw [show j + (i + 1) = j + 1 + i by omega]
theorem begins_loop (c b : List Int) (hc : Bytes c) (hb : Bytes b) (hl : b.length ≤ 140737488355328) (a : Int) (m : Nat) (ha : 0 ≤ a) (hm : a + m ≤ 8 * b.length) (hm2 : m ≤ 16) (hcm : m ≤ c.length) : ∀ (d j : Nat), j + d = m → Ev (fun k => incunableref04_begins.l0 k c b a (m : Int) (j : Int)) (same c b a j m)
  | 0, j, hd => by
    refine ev_succ ?_
    unfold incunableref04_begins.l0
    refine ev_neg (by omega) (ev_eq (Ev.now _) ?_)
    unfold same
    rw [show m - j = 0 by omega]
    rfl
  | d + 1, j, hd => by
    have ih := begins_loop c b hc hb hl a m ha hm hm2 hcm d (j + 1) (by omega)
    have hcr := bytes_rdI hc (i := (j : Int)) (by omega) (by omega)
    refine ev_succ ?_
    unfold incunableref04_begins.l0
    rw [wrap_id (n := a + (j : Int)) (by omega) (by omega), wrap_id (n := (j : Int) + 1) (by omega) (by omega), wrap_id (n := rd c (j : Int)) (by omega) (by omega), same_step c b a j m (by omega)]
    refine ev_pos (by omega) (ev_pure (bitAt_eq b hb hl _ (by omega) (by omega)) ?_)
    rw [if_pos (by omega)]
    refine ev_pos (by omega) (ev_pos (by omega) ?_)
    by_cases e : rd c (j : Int) = bitOf b (a + (j : Int))
    · rw [beq_iff_eq.2 e, Bool.true_and]
      exact ev_pos e ih
    · rw [beq_eq_false_iff_ne.2 e, Bool.false_and]
      exact ev_neg e (Ev.now _)
/-- A line's code goes on from m bits. -/
def goesOn (t : List Ln) (q : Nat) (V : Int) (m : Nat) : Bool := decide (len t q ≠ 0 ∧ (m : Int) ≤ len t q ∧ cnum t q / 2 ^ (len t q - m).toNat = V)
theorem rd_digs (x : Int) (n j : Nat) (h : j < n) : rd (digs x n) (j : Int) = x / 2 ^ (n - 1 - j) % 2 := by
  rw [rd_at (by rw [digs_len]; exact h)]
  simp [digs]
theorem bit_at (b : List Int) (a : Int) (m j : Nat) (h : j < m) : bitOf b (a + (j : Int)) = bitsAt b a m / 2 ^ (m - 1 - j) % 2 := by
  have h1 := bitsAt_pre b a (j + 1) (m - 1 - j)
  rw [show j + 1 + (m - 1 - j) = m by omega] at h1
  have h2 : bitsAt b a (j + 1) = 2 * bitsAt b a j + bitOf b (a + (j : Int)) := rfl
  have h3 := bitOf_range b (a + (j : Int))
  rw [h1, h2]
  omega
theorem same_iff (x : Int) (n : Nat) (b : List Int) (a : Int) (m : Nat) (hmn : m ≤ n) (h0 : 0 ≤ x) (h1 : x < 2 ^ n) : same (digs x n) b a 0 m = decide (x / 2 ^ (n - m) = bitsAt b a m) := by
  have hr := bitsAt_range b a m
  have hd := div_pos_le h0 (n - m)
  have hlt : x / 2 ^ (n - m) < 2 ^ m := by
    refine Int.ediv_lt_of_lt_mul (p2 _) ?_
    rw [← Int.pow_add, show m + (n - m) = n by omega]
    exact h1
  have key : same (digs x n) b a 0 m = true ↔ x / 2 ^ (n - m) = bitsAt b a m := by
    unfold same
    rw [List.all_eq_true]
    constructor
    · intro h
      refine digs_inj m _ _ hd.1 hlt hr.1 hr.2 (List.ext_getElem (by simp [digs]) fun j q1 q2 => ?_)
      have hj : j < m := by simpa [digs] using q1
      have := h j (List.mem_range.2 (by omega))
      rw [beq_iff_eq, Nat.zero_add, rd_digs x n j (by omega), bit_at b a m j hj] at this
      simp only [digs, List.getElem_map, List.getElem_range]
      rw [divdiv2, show n - m + (m - 1 - j) = n - 1 - j by omega]
      exact this
    · intro h j hj
      have hj := List.mem_range.1 hj
      rw [beq_iff_eq, Nat.zero_add, rd_digs x n j (by omega), bit_at b a m j (by omega), ← h, divdiv2, show n - m + (m - 1 - j) = n - 1 - j by omega]
  by_cases c : x / 2 ^ (n - m) = bitsAt b a m
  · rw [decide_eq_true c, key.2 c]
  · rw [decide_eq_false c]
    exact Bool.eq_false_iff.2 (fun h => c (key.1 h))
theorem begins_ev (t : List Ln) (hv : vldP t) (b : List Int) (hb : Bytes b) (hl : b.length ≤ 140737488355328) (a : Int) (m q : Nat) (hq : q < t.length) (hu : len t q ≠ 0) (ha : 0 ≤ a) (hm : a + m ≤ 8 * b.length) (hm2 : m ≤ 16) : Ev (fun k => incunableref04_begins.f k (codeB t q) b a (m : Int)) (goesOn t q (bitsAt b a m) m) := by
  have hlen := codeB_len t hv q hq
  have hl2 := lens t hv q hq
  have hcn := cn_lt t hv q hq hu
  unfold incunableref04_begins.f goesOn
  by_cases c : (m : Int) ≤ len t q
  · refine ev_neg (by omega) (ev_eq (begins_loop (codeB t q) b (codeB_bytes t q) hb hl a m ha hm hm2 (by omega) m 0 (by omega)) ?_)
    have e : codeB t q = digs (cnum t q) (len t q).toNat := by unfold codeB; rw [if_neg hu]
    rw [e, same_iff _ _ b a m (by omega) hcn.1 hcn.2, show (len t q).toNat - m = (len t q - m).toNat by omega]
    simp [hu, c]
  · refine ev_pos (by omega) (ev_eq (Ev.now _) ?_)
    symm
    exact decide_eq_false (fun h => c h.2.1)
theorem inner_loop (x : Ln) (hx : lineB x = true) (b : List Int) (hb : Bytes b) (hl : b.length ≤ 140737488355328) (p : Int) (hp : 0 ≤ p) (hp2 : p ≤ 8 * b.length) (K : Nat) (hK : x.f1 = K) : ∀ (d i : Nat), i + d = K → p + i ≤ 8 * b.length →
    Ev (fun k => incunableref04_inner.l0 k b p (bitsAt b p i) (i : Int) x.f0 x.f1 x.f2 x.f3) (if p + x.f1 ≤ 8 * b.length then ((numAt x (bitsAt b p K)).1, (numAt x (bitsAt b p K)).2, p + x.f1, 0) else (false, 0, 0, 6))
  | 0, i, hd, hi => by
    have hl2 := of_decide_eq_true hx
    have e : i = K := by omega
    subst e
    have hr := bitsAt_range b p i
    have hpw : (2 : Int) ^ i ≤ 2 ^ 20 := by exact_mod_cast Nat.pow_le_pow_right (by omega) (show i ≤ 20 by omega)
    have hp20 : (2 : Int) ^ 20 = 1048576 := by decide
    rw [if_pos (by omega)]
    refine ev_succ ?_
    unfold incunableref04_inner.l0
    rw [wrap_id (n := p + x.f1) (by omega) (by omega), wrap_id (n := x.f2 - bitsAt b p i) (by omega) (by omega), wrap_id (n := x.f2 + bitsAt b p i) (by omega) (by omega)]
    refine ev_neg (by omega) ?_
    by_cases c1 : x.f3 = 1
    · exact ev_pos c1 (ev_eq (Ev.now _) (by unfold numAt; rw [if_neg (by omega), if_pos c1]))
    · by_cases c2 : x.f3 = 2
      · exact ev_neg c1 (ev_pos c2 (ev_eq (Ev.now _) (by unfold numAt; rw [if_pos c2])))
      · exact ev_neg c1 (ev_neg c2 (ev_eq (Ev.now _) (by unfold numAt; rw [if_neg c2, if_neg c1])))
  | d + 1, i, hd, hi => by
    have hl2 := of_decide_eq_true hx
    have hr := bitsAt_range b p i
    have hpw : (2 : Int) ^ i ≤ 2 ^ 20 := by exact_mod_cast Nat.pow_le_pow_right (by omega) (show i ≤ 20 by omega)
    have hp20 : (2 : Int) ^ 20 = 1048576 := by decide
    have hbo := bitOf_range b (p + (i : Int))
    refine ev_succ ?_
    unfold incunableref04_inner.l0
    rw [wrap_id (n := p + (i : Int)) (by omega) (by omega), wrap_id (n := (i : Int) + 1) (by omega) (by omega)]
    refine ev_pos (by omega) (ev_pure (bitAt_eq b hb hl _ (by omega) (by omega)) ?_)
    by_cases c : p + (i : Int) < 8 * b.length
    · rw [if_pos c]
      refine ev_pos rfl ?_
      dsimp only
      rw [wrap_id (n := 2 * bitsAt b p i) (by omega) (by omega), wrap_id (by omega) (by omega)]
      exact inner_loop x hx b hb hl p hp hp2 K hK d (i + 1) (by omega) (by omega)
    · rw [if_neg c, if_neg (by omega)]
      exact ev_neg (by decide) (Ev.now _)
theorem inner_ev (x : Ln) (hx : lineB x = true) (b : List Int) (hb : Bytes b) (hl : b.length ≤ 140737488355328) (p : Int) (hp : 0 ≤ p) (hp2 : p ≤ 8 * b.length) :
    Ev (fun k => incunableref04_inner.f k x.f0 x.f1 x.f2 x.f3 b p) (if p + x.f1 ≤ 8 * b.length then ((numAt x (bitsAt b p x.f1.toNat)).1, (numAt x (bitsAt b p x.f1.toNat)).2, p + x.f1, 0) else (false, 0, 0, 6)) := by
  have hl2 := of_decide_eq_true hx
  exact inner_loop x hx b hb hl p hp hp2 x.f1.toNat (by omega) x.f1.toNat 0 (by omega) (by omega)
end Go.Proofs.Ytnadgcdkcabdoaa.Tke
namespace Go.Proofs.Ytnadgcdkcabdoaa.Tkw
open Go Go.RowKit Go.Proofs.YtnadgcdkcabdoaaW.PrintWords Go.Proofs.YtnadgcdkcabdoaaW.PrintLast Go.Proofs.YtnadgcdkcabdoaaW.PrintMore Go.Proofs.Ytnadgcdkcabdoaa.Aid Go.Proofs.Ytnadgcdkcabdoaa.HandAid Go.Proofs.Ytnadgcdkcabdoaa.U Go.Proofs.Ytnadgcdkcabdoaa.Tab Go.Proofs.Ytnadgcdkcabdoaa.Cdx Go.Proofs.Ytnadgcdkcabdoaa.Cdy Go.Proofs.Ytnadgcdkcabdoaa.Cdz Go.Proofs.Ytnadgcdkcabdoaa.Cpl Go.Proofs.Ytnadgcdkcabdoaa.Rdp Go.Proofs.Ytnadgcdkcabdoaa.Mpp Go.Proofs.Ytnadgcdkcabdoaa.Dcm Go.Proofs.Ytnadgcdkcabdoaa.Nbr Go.Proofs.Ytnadgcdkcabdoaa.Nbw Go.Proofs.Ytnadgcdkcabdoaa.Dwk Go.Proofs.Ytnadgcdkcabdoaa.Gdc Go.Proofs.Ytnadgcdkcabdoaa.Tke
theorem goesOn_iff {t : List Ln} {q : Nat} {V : Int} {m : Nat} : goesOn t q V m = true ↔ len t q ≠ 0 ∧ (m : Int) ≤ len t q ∧ cnum t q / 2 ^ (len t q - m).toNat = V := by
  unfold goesOn
  exact decide_eq_true_iff
theorem at_exact (t : List Ln) (hv : vldP t) (b : List Int) (a : Int) (n q : Nat) (hq : q < t.length) (hn : n ≤ 15) (hg : goesOn t q (bitsAt b a n) n = true) (he : len t q = n) :
    numG t b a (16 - n) n = if a + n + (rd_T32 t (q : Int)).f1 ≤ 8 * b.length then (numAt (rd_T32 t (q : Int)) (bitsAt b (a + n) (rd_T32 t (q : Int)).f1.toNat), 0, a + n + (rd_T32 t (q : Int)).f1) else ((false, 0), 6, 0) := by
  obtain ⟨c, h1, h2⟩ := goesOn_iff.1 hg
  rw [he, show ((n : Int) - n).toNat = 0 by omega, Int.pow_zero, Int.ediv_one] at h2
  rw [show 16 - n = (15 - n) + 1 by omega]
  simp only [numG]
  have hnb : ¬ (gB t t.length (bitsAt b a n) n).isSome = true := by
    rw [gB_iff t hv _ _ _ (Nat.le_refl _)]
    rintro ⟨i, i1, i2, i3⟩
    have hne : i ≠ q := fun e => by subst e; omega
    have := no_pre t hv q i hq i1 hne c (by omega)
    rw [he, ← i3] at this
    exact this h2.symm
  have hw := gW_at t hv q hq c t.length hq (Nat.le_refl _)
  rw [he] at hw
  rw [if_neg hnb, ← h2, hw]
theorem at_none (t : List Ln) (hv : vldP t) (b : List Int) (a : Int) (n : Nat) (hn : n ≤ 15) (h : ∀ q, q < t.length → goesOn t q (bitsAt b a n) n = false) : numG t b a (16 - n) n = ((false, 0), 3, 0) := by
  rw [show 16 - n = (15 - n) + 1 by omega]
  simp only [numG]
  have hnb : ¬ (gB t t.length (bitsAt b a n) n).isSome = true := by
    rw [gB_iff t hv _ _ _ (Nat.le_refl _)]
    rintro ⟨i, i1, i2, i3⟩
    have hl := lens t hv i i1
    exact absurd (goesOn_iff.2 ⟨by omega, by omega, i3.symm⟩) (by rw [h i i1]; decide)
  have hw := gW_none t hv (bitsAt b a n) n (by
    intro i hi c hh
    refine absurd ((goesOn_iff (t := t) (q := i) (V := bitsAt b a n) (m := n)).2 ⟨c, by omega, ?_⟩) (by rw [h i hi]; decide)
    rw [hh.1, show ((n : Int) - n).toNat = 0 by omega, Int.pow_zero, Int.ediv_one]
    exact hh.2)
  rw [if_neg hnb, hw]
theorem at_more (t : List Ln) (hv : vldP t) (b : List Int) (a : Int) (n q : Nat) (hq : q < t.length) (hg : goesOn t q (bitsAt b a n) n = true) (he : len t q ≠ n) : (gB t t.length (bitsAt b a n) n).isSome = true := by
  obtain ⟨c, h1, h2⟩ := goesOn_iff.1 hg
  rw [gB_iff t hv _ _ _ (Nat.le_refl _)]
  exact ⟨q, hq, by omega, h2.symm⟩
theorem at_begin (t : List Ln) (hv : vldP t) (b : List Int) (a : Int) (n : Nat) (h : (gB t t.length (bitsAt b a n) n).isSome = true) : n < 15 ∧ numG t b a (16 - n) n = if a + n + 1 ≤ 8 * b.length then numG t b a (16 - (n + 1)) (n + 1) else ((false, 0), 6, 0) := by
  have hn : n < 15 := by
    rw [gB_iff t hv _ _ _ (Nat.le_refl _)] at h
    obtain ⟨i, i1, i2, _⟩ := h
    have := lens t hv i i1
    omega
  refine ⟨hn, ?_⟩
  rw [show 16 - n = (16 - (n + 1)) + 1 by omega]
  simp only [numG]
  rw [if_pos h]
theorem results3 {fn : Func} {p u v : Tmp} {ty : TypeId} (h : fn.results = #[.cell p ty, .tmp u, .tmp v]) (tmps : Array Value) (P : Program) (w : World) :
    (results fn tmps).run P w =
      ((asAddr (tmps.getD p undef)).run P w).andThen fun a w₁ => ((loadVar ty a).run P w₁).andThen fun x w₂ => .ok (.tuple #[x, tmps.getD u undef, tmps.getD v undef]) w₂ := by
  simp only [results, h]
  simp [Sem.run_bind, Result.andThen]
theorem tret {W : World} {gz : Nat} {nn : Bool} {N nx err : Int} {tmps : Array Value} (hz : W.heap[gz]? = some (.cells #[.bool nn, .int .i64 N] 48 (0, 0))) (h2 : tmps.getD 6 undef = .pointer (some ⟨gz, 0, none⟩)) (h3 : tmps.getD 7 undef = .int .i64 nx) (h4 : tmps.getD 8 undef = .int .i64 err) :
    (results Try.f61 tmps).run Try.prog W = .ok (.tuple #[.agg #[.bool nn, .int .i64 N], .int .i64 nx, .int .i64 err]) W := by
  have y0 : W.cell? ⟨gz, 0, none⟩ = some (.bool nn) := (blk_cell hz 0).trans rfl
  have y1 : W.cell? ⟨gz, 1, none⟩ = some (.int .i64 N) := (blk_cell hz 1).trans rfl
  have hu48 := Try.underlying48
  rw [results3 rfl, h2, h3, h4]
  go_simp
/-- Which of the first codes go on from m bits. -/
def anyOn (t : List Ln) (V : Int) (m q : Nat) : Bool := (List.range q).any fun i => goesOn t i V m
theorem anyOn_succ (t : List Ln) (V : Int) (m q : Nat) : anyOn t V m (q + 1) = (anyOn t V m q || goesOn t q V m) := by
  unfold anyOn
  rw [List.range_succ, List.any_append]
  simp
theorem drawn_below {w W : World} (h : Drawn0 w W) : Below w.heap.size w W := by
  obtain ⟨⟨n, rfl⟩⟩ := h
  exact pw_below_drewN (Below.refl _ _) n
set_option maxHeartbeats 2000000 in
set_option maxRecDepth 100000 in
theorem take_calls (A : Option Addr) (c : Nat) (t : List Ln) (A2 : Option Addr) (c2 : Nat) (b : List Int) (a : Int) (w : World) (hv : vldP t) (hC : Kd.C k32 w A t.length t) (hc : t.length ≤ c) (hC2 : Kd.C (Kd.int .u8) w A2 b.length b) (hc2 : b.length ≤ c2) (hb : Bytes b) (hl : b.length ≤ 140737488355328) (ha : 0 ≤ a) (ha2 : a ≤ 8 * b.length)
    (R : (Bool × Int) × Int × Int) (hR : numG t b a 16 0 = R) :
    Calls Try.prog 61 #[.slice A t.length c, .slice A2 b.length c2, .int .i64 a] w fun e w' => e = .returned (.tuple #[.agg #[.bool R.1.1, .int .i64 R.1.2], .int .i64 R.2.2, .int .i64 R.2.1]) ∧ Below w.heap.size w w' := by
  obtain ⟨K0, hcodes⟩ := Ev.rounds (rcodes_ev t hv)
  have HCO := Aside0.mk hcodes
  have HV := Aside0.mk hv
  have HC := Aside0.mk hC
  have HC2 := Aside0.mk hC2
  have HB := Aside0.mk hb
  clear hcodes hv hC hC2 hb
  have hu48 := Try.underlying48
  have hu32 := Try.underlying32
  go_enter Try.func61, Try.ntmps61
  go_wp2_with (fail)
  refine (incunableref04_Codes.calls K0 A c t _ _ (Kd.C_alloc HC.out _) hc HCO.out).mono ?_
  rintro e w1 ⟨v1, rfl, hS1, hb1⟩
  obtain ⟨Ac, cc, rfl⟩ := Kd.S_slice hS1
  rw [codesB_len] at hS1 ⊢
  obtain ⟨gz, hgz⟩ : ∃ gz, w.heap.size = gz := ⟨_, rfl⟩
  have HZ1 := Aside0.mk (blk_below (heap_new w (.cells #[.bool false, .int .i64 0] 48)) hb1)
  have HO1 := Aside0.mk (show Kd.S (Kd.slice 5 (Kd.int .u8)) 46 w1 0 (fun _ => True) (.slice Ac t.length cc) (codesB t t.length) from Kd.S_lower hS1 (Nat.zero_le _))
  have HB1 := Aside0.mk (below_then (below_alloc (Below.refl w.heap.size w) (.cells #[.bool false, .int .i64 0] 48)) (by rw [World.size_alloc]; omega) hb1)
  rw [hgz] at HZ1 ⊢
  have hgb : w.heap.size ≤ gz := by omega
  clear hS1 hb1 hgz
  have hused : ∃ i, i < t.length ∧ len t i ≠ 0 := by
    refine Classical.byContradiction fun h => ?_
    have h0 : ∀ l : List Ln, (∀ x ∈ l, x.f0 = 0) → sumI uS l = 0 := by
      intro l
      induction l with
      | nil => intro _; rfl
      | cons x l ih =>
        intro hh
        simp only [sumI]
        rw [ih (fun y hy => hh y (List.mem_cons_of_mem _ hy)), show uS x = 0 from if_pos (hh x List.mem_cons_self)]
        rfl
    have h1 := HV.out.2.2.1
    rw [h0 t (fun x hx => by
      obtain ⟨i, hi, rfl⟩ := List.mem_iff_getElem.1 hx
      refine Classical.byContradiction fun hne => h ⟨i, hi, ?_⟩
      have e : rd_T32 t (i : Int) = t[i] := by
        unfold rd_T32
        rw [List.getD_eq_getElem?_getD]
        simp [hi]
      show (rd_T32 t (i : Int)).f0 ≠ 0
      rw [e]; exact hne)] at h1
    omega
  have hbeg0 : (gB t t.length (bitsAt b a 0) ((0 : Nat) : Int)).isSome = true := by
    obtain ⟨i, hi, hc0⟩ := hused
    rw [gB_iff t HV.out _ _ _ (Nat.le_refl _)]
    have hcn := cn_lt t HV.out i hi hc0
    have hli := lens t HV.out i hi
    refine ⟨i, hi, by omega, ?_⟩
    rw [show (len t i - ((0 : Nat) : Int)).toNat = (len t i).toNat by omega, Int.ediv_eq_zero_of_lt hcn.1 hcn.2]
    rfl
  clear hused
  go_wp2_with (fail)
  go_loopw [10] (fun x wr => ∃ n : Nat, x = .int .i64 ((n : Int) + 1) ∧ (gB t t.length (bitsAt b a n) (n : Int)).isSome = true ∧ numG t b a (16 - n) n = R ∧ a + n ≤ 8 * b.length ∧ Aside0 (Below w.heap.size w wr) ∧ Aside0 (wr.heap[gz]? = some (.cells #[.bool false, .int .i64 0] 48 (0, 0))) ∧ Aside0 (Kd.S (Kd.slice 5 (Kd.int .u8)) 46 wr 0 (fun _ => True) (.slice Ac t.length cc) (codesB t t.length))) (fun x _ => (17 - intOf x).toNat)
  case atStart => exact ⟨0, rfl, hbeg0, hR, by omega, HB1, HZ1, HO1⟩
  case round =>
    obtain ⟨n, rfl, hbeg, hRn, hfit, HBB, HZZ, HOO⟩ := hrel
    obtain ⟨hn, hnum⟩ := at_begin t HV.out b a n hbeg
    have hnum := hnum.symm.trans hRn
    have hle16 : (n : Int) + 1 ≤ 16 := by omega
    have hba := bitAt_eq b HB.out hl (a + n) (by omega) (by omega)
    by_cases fit : a + n + 1 ≤ 8 * b.length
    · rw [if_pos fit] at hnum
      rw [if_pos (by omega)] at hba
      go_wp2_with (fail)
      rw [show a + ((n : Int) + 1) - 1 = a + n by omega]
      refine (incunableref04_BitAt.calls A2 c2 b (a + n) _ _ _ (Kd.C_below HC2.out HBB.out) hc2 hba).mono ?_
      rintro e w3 ⟨rfl, hd3⟩
      have HBB2 := Aside0.mk (below_then HBB.out HBB.out.size (drawn_below hd3))
      have HZZ2 := Aside0.mk (blk_below HZZ.out (drawn_below hd3))
      have HOO2 := Aside0.mk (Kd.S_below HOO.out (drawn_below hd3))
      clear HBB HZZ HOO hd3 hba
      obtain ⟨V, hV⟩ : ∃ V, bitsAt b a (n + 1) = V := ⟨_, rfl⟩
      go_wp2_with (fail)
      go_loopw [13, 36] (fun s x wr => ∃ q : Nat, q ≤ t.length ∧ x = .int .i64 q ∧ s = .bool (anyOn t V (n + 1) q) ∧ (∀ i, i < q → goesOn t i V (n + 1) = true → len t i ≠ ((n + 1 : Nat) : Int)) ∧ Aside0 (Below w.heap.size w wr) ∧ Aside0 (wr.heap[gz]? = some (.cells #[.bool false, .int .i64 0] 48 (0, 0))) ∧ Aside0 (Kd.S (Kd.slice 5 (Kd.int .u8)) 46 wr 0 (fun _ => True) (.slice Ac t.length cc) (codesB t t.length))) (fun _ x _ => ((t.length : Int) - intOf x).toNat)
      case atStart => exact ⟨0, by omega, rfl, rfl, fun i h => absurd h (Nat.not_lt_zero _), HBB2, HZZ2, HOO2⟩
      case round =>
        obtain ⟨q, hq, rfl, rfl, hno, HB3, HZ3, HO3⟩ := hrel
        have hn64 := HV.out.1
        by_cases hlt : (q : Int) < (t.length : Int)
        · have hq2 : q < t.length := by omega
          obtain ⟨ad, hA, l0, l1, l2, l3⟩ := at_T32 (Kd.C_below HC.out HB3.out) (q : Int) (by omega) (by omega)
          obtain ⟨ad2, Aq, cq, hA2, hx, hcq, hCq⟩ := at_L9 (Kd.S_reads' HO3.out).2.2 (q : Int) (by omega) (by rw [codesB_len]; omega)
          subst hA hA2
          rw [rd_codes t t.length q hq2] at hx hcq hCq
          have hline := HV.out.2.1 _ (rdL_mem hq2)
          obtain ⟨x, hxe⟩ : ∃ x, rd_T32 t (q : Int) = x := ⟨_, rfl⟩
          have hlenx : len t q = x.f0 := by rw [← hxe]
          rw [hxe] at l0 l1 l2 l3 hline
          simp only [Int.toNat_natCast] at l0 l1 l2 l3 hx
          have HCQ := Aside0.mk hCq
          clear hCq
          have hl0 := lens t HV.out q hq2
          have hq0 : (0 : Int) ≤ (q : Int) := by omega
          by_cases hu : len t q = 0
          · have hus : incunableref04_used.f x.f0 x.f1 x.f2 x.f3 = some false := by
              unfold incunableref04_used.f
              rw [decide_eq_false (by omega)]
            have hng : goesOn t q V (n + 1) = false := Bool.eq_false_iff.2 fun h => (goesOn_iff.1 h).1 hu
            go_wp2_with (fail)
            refine (incunableref04_used.calls x.f0 x.f1 x.f2 x.f3 false _ hus).mono ?_
            rintro e w4 ⟨rfl, hb4⟩
            have HB4 := Aside0.mk (below_then HB3.out HB3.out.size hb4)
            have HZ4 := Aside0.mk (blk_below HZ3.out hb4)
            have HO4 := Aside0.mk (Kd.S_below HO3.out hb4)
            clear HB3 HZ3 HO3 HCQ hx l0 l1 l2 l3 hb4
            go_wp2_with (fail)
            exact ⟨⟨q + 1, by omega, rfl, by rw [anyOn_succ, hng, Bool.or_false], fun i hi hgi => by
              by_cases e : i = q
              · subst e; rw [hng] at hgi; cases hgi
              · exact hno i (by omega) hgi, HB4, HZ4, HO4⟩, by simp [intOf]; omega⟩
          · have hus : incunableref04_used.f x.f0 x.f1 x.f2 x.f3 = some true := by
              unfold incunableref04_used.f
              rw [decide_eq_true (by omega)]
            obtain ⟨kB, hbg⟩ := Ev.rounds (begins_ev t HV.out b HB.out hl a (n + 1) q hq2 hu ha (by omega) (by omega))
            rw [hV, show ((n + 1 : Nat) : Int) = (n : Int) + 1 by omega] at hbg
            have hcl := codeB_len t HV.out q hq2
            go_wp2_with (fail)
            refine (incunableref04_used.calls x.f0 x.f1 x.f2 x.f3 true _ hus).mono ?_
            rintro e w4 ⟨rfl, hb4⟩
            have HB4 := Aside0.mk (below_then HB3.out HB3.out.size hb4)
            have HZ4 := Aside0.mk (blk_below HZ3.out hb4)
            have HO4 := Aside0.mk (Kd.S_below HO3.out hb4)
            have HCQ4 := Aside0.mk (Kd.C_below HCQ.out hb4)
            clear HB3 HZ3 HO3 HCQ hx l0 l1 l2 l3 hb4
            go_wp2_with (fail)
            refine (incunableref04_begins.calls kB Aq cq (codeB t q) A2 c2 b a _ _ _ HCQ4.out hcq (Kd.C_below HC2.out HB4.out) hc2 hbg).mono ?_
            rintro e w5 ⟨rfl, hd5⟩
            have hb5 := drawn_below hd5
            have HB5 := Aside0.mk (below_then HB4.out HB4.out.size hb5)
            have HZ5 := Aside0.mk (blk_below HZ4.out hb5)
            have HO5 := Aside0.mk (Kd.S_below HO4.out hb5)
            clear HB4 HZ4 HO4 HCQ4 hd5 hb5 hbg
            cases hg : goesOn t q V (n + 1) with
            | false =>
              go_wp2_with (fail)
              exact ⟨⟨q + 1, by omega, rfl, by rw [anyOn_succ, hg, Bool.or_false], fun i hi hgi => by
                by_cases e : i = q
                · subst e; rw [hg] at hgi; cases hgi
                · exact hno i (by omega) hgi, HB5, HZ5, HO5⟩, by simp [intOf]; omega⟩
            | true =>
              by_cases he : len t q = (n : Int) + 1
              · have heq : (((codeB t q).length : Int) == (n : Int) + 1) = true := beq_iff_eq.2 (by omega)
                obtain ⟨ad', hA', l0, l1, l2, l3⟩ := at_T32 (Kd.C_below HC.out HB5.out) (q : Int) (by omega) (by omega)
                obtain rfl : ad = ad' := by injection hA'
                rw [hxe] at l0 l1 l2 l3
                simp only [Int.toNat_natCast] at l0 l1 l2 l3
                obtain ⟨kI, hin⟩ := Ev.rounds (inner_ev x hline b HB.out hl (a + ((n : Int) + 1)) (by omega) (by omega))
                have hex := at_exact t HV.out b a (n + 1) q hq2 (by omega) (by rw [hV]; exact hg) (by rw [he]; omega)
                rw [show ((n + 1 : Nat) : Int) = (n : Int) + 1 by omega, hxe] at hex
                have hR2 := hex.symm.trans hnum
                have z0 : w5.cell? ⟨gz, 0, none⟩ = some (.bool false) := (blk_cell HZ5.out 0).trans rfl
                have z1 : w5.cell? ⟨gz, 1, none⟩ = some (.int .i64 0) := (blk_cell HZ5.out 1).trans rfl
                clear hex hno hnum hRn
                by_cases fit2 : a + ((n : Int) + 1) + x.f1 ≤ 8 * b.length
                · rw [if_pos fit2] at hin hR2
                  subst hR2
                  obtain ⟨N1, hN1⟩ : ∃ N1, numAt x (bitsAt b (a + ((n : Int) + 1)) x.f1.toNat) = N1 := ⟨_, rfl⟩
                  rw [hN1] at hin
                  go_wp2_with (fail)
                  refine (incunableref04_inner.calls kI x.f0 x.f1 x.f2 x.f3 A2 c2 b _ N1.1 N1.2 _ _ _ (Kd.C_below HC2.out HB5.out) hc2 hin).mono ?_
                  rintro e w6 ⟨rfl, hb6⟩
                  have HB6 := Aside0.mk (below_then HB5.out HB5.out.size hb6)
                  have HZ6 := Aside0.mk (blk_below HZ5.out hb6)
                  clear HB5 HZ5 HO5 hb6 z0 z1
                  have z0 : w6.cell? ⟨gz, 0, none⟩ = some (.bool false) := (blk_cell HZ6.out 0).trans rfl
                  have z1 : w6.cell? ⟨gz, 1, none⟩ = some (.int .i64 0) := (blk_cell HZ6.out 1).trans rfl
                  have zf0 := blk_frozen HZ6.out 0
                  have zf1 := blk_frozen HZ6.out 1
                  go_wp2_with (fail)
                  refine bodyPost_ret (tret (zset HZ6.out (.bool N1.1) (.int .i64 N1.2)).1 rfl rfl rfl) rfl ⟨?_, below_set (below_set HB6.out hgb) hgb⟩
                  rw [← hN1]
                · rw [if_neg fit2] at hin hR2
                  subst hR2
                  go_wp2_with (fail)
                  refine (incunableref04_inner.calls kI x.f0 x.f1 x.f2 x.f3 A2 c2 b _ _ _ _ _ _ (Kd.C_below HC2.out HB5.out) hc2 hin).mono ?_
                  rintro e w6 ⟨rfl, hb6⟩
                  have HB6 := Aside0.mk (below_then HB5.out HB5.out.size hb6)
                  have HZ6 := Aside0.mk (blk_below HZ5.out hb6)
                  clear HB5 HZ5 HO5 hb6 z0 z1
                  have z0 : w6.cell? ⟨gz, 0, none⟩ = some (.bool false) := (blk_cell HZ6.out 0).trans rfl
                  have z1 : w6.cell? ⟨gz, 1, none⟩ = some (.int .i64 0) := (blk_cell HZ6.out 1).trans rfl
                  have zf0 := blk_frozen HZ6.out 0
                  have zf1 := blk_frozen HZ6.out 1
                  go_wp2_with (fail)
                  exact bodyPost_ret (tret (zset HZ6.out (.bool false) (.int .i64 0)).1 rfl rfl rfl) rfl ⟨rfl, below_set (below_set HB6.out hgb) hgb⟩
              · have hnq : (((codeB t q).length : Int) == (n : Int) + 1) = false := beq_eq_false_iff_ne.2 (by omega)
                go_wp2_with (fail)
                exact ⟨⟨q + 1, by omega, rfl, by rw [anyOn_succ, hg, Bool.or_true], fun i hi hgi => by
                  by_cases e : i = q
                  · subst e; omega
                  · exact hno i (by omega) hgi, HB5, HZ5, HO5⟩, by simp [intOf]; omega⟩
        · have hqN : q = t.length := by omega
          subst hqN
          cases hany : anyOn t V (n + 1) t.length with
          | false =>
            have hall : ∀ i, i < t.length → goesOn t i (bitsAt b a (n + 1)) (n + 1) = false := by
              intro i hi
              rw [hV]
              have := List.any_eq_false.1 hany i (List.mem_range.2 hi)
              simpa using this
            have hR2 := (at_none t HV.out b a (n + 1) (by omega) hall).symm.trans hnum
            subst hR2
            have z0 : wr.cell? ⟨gz, 0, none⟩ = some (.bool false) := (blk_cell HZ3.out 0).trans rfl
            have z1 : wr.cell? ⟨gz, 1, none⟩ = some (.int .i64 0) := (blk_cell HZ3.out 1).trans rfl
            have zf0 := blk_frozen HZ3.out 0
            have zf1 := blk_frozen HZ3.out 1
            go_wp2_with (fail)
            exact bodyPost_ret (tret (zset HZ3.out (.bool false) (.int .i64 0)).1 rfl rfl rfl) rfl ⟨rfl, below_set (below_set HB3.out hgb) hgb⟩
          | true =>
            obtain ⟨i, hi, hgi⟩ := List.any_eq_true.1 hany
            have hi2 := List.mem_range.1 hi
            have hmore := at_more t HV.out b a (n + 1) i hi2 (by rw [hV]; exact hgi) (hno i hi2 hgi)
            go_wp2_with (fail)
            exact ⟨⟨n + 1, rfl, hmore, hnum, by omega, HB3, HZ3, HO3⟩, by simp [intOf]; omega⟩
    · rw [if_neg fit] at hnum
      rw [if_neg (by omega)] at hba
      subst hnum
      go_wp2_with (fail)
      rw [show a + ((n : Int) + 1) - 1 = a + n by omega]
      refine (incunableref04_BitAt.calls A2 c2 b (a + n) _ _ _ (Kd.C_below HC2.out HBB.out) hc2 hba).mono ?_
      rintro e w3 ⟨rfl, hd3⟩
      have HBB2 := Aside0.mk (below_then HBB.out HBB.out.size (drawn_below hd3))
      have HZZ2 := Aside0.mk (blk_below HZZ.out (drawn_below hd3))
      clear HBB HZZ HOO hd3 hba
      have z0 : w3.cell? ⟨gz, 0, none⟩ = some (.bool false) := (blk_cell HZZ2.out 0).trans rfl
      have z1 : w3.cell? ⟨gz, 1, none⟩ = some (.int .i64 0) := (blk_cell HZZ2.out 1).trans rfl
      have zf0 := blk_frozen HZZ2.out 0
      have zf1 := blk_frozen HZZ2.out 1
      go_wp2_with (fail)
      exact bodyPost_ret (tret (zset HZZ2.out (.bool false) (.int .i64 0)).1 rfl rfl rfl) rfl ⟨rfl, below_set (below_set HBB2.out hgb) hgb⟩
end Go.Proofs.Ytnadgcdkcabdoaa.Tkw
namespace Go.Proofs.Ytnadgcdkcabdoaa.U
open Go Go.RowKit Go.Proofs.YtnadgcdkcabdoaaW.PrintWords Go.Proofs.YtnadgcdkcabdoaaW.PrintLast Go.Proofs.YtnadgcdkcabdoaaW.PrintMore Go.Proofs.Ytnadgcdkcabdoaa.Aid Go.Proofs.Ytnadgcdkcabdoaa.HandAid Go.Proofs.Ytnadgcdkcabdoaa.Tab Go.Proofs.Ytnadgcdkcabdoaa.Nbr Go.Proofs.Ytnadgcdkcabdoaa.Tkw
def incunableref04_Take.f (l0 : List S32) (l1 : List Int) (a2 : Int) : Option (Bool × Int × Int × Int) := if vldP l0 ∧ (l1.all fun x => decide (0 ≤ x ∧ x ≤ 255)) = true ∧ l1.length ≤ 140737488355328 ∧ 0 ≤ a2 ∧ a2 ≤ 8 * l1.length then some ((numG l0 l1 a2 16 0).1.1, (numG l0 l1 a2 16 0).1.2, (numG l0 l1 a2 16 0).2.2, (numG l0 l1 a2 16 0).2.1) else none
theorem incunableref04_Take.calls (A0 : Option Addr) (c0 : Nat) (l0 : List S32) (A1 : Option Addr) (c1 : Nat) (l1 : List Int) (a2 : Int) (r1 : Bool) (r2 r3 r4 : Int) (w : World) (hr0 : Kd.C k32 w A0 l0.length l0) (hc0 : l0.length ≤ c0) (hr1 : Kd.C (Kd.int .u8) w A1 l1.length l1) (hc1 : l1.length ≤ c1) (h : incunableref04_Take.f l0 l1 a2 = some (r1, r2, r3, r4)) :
    Calls Try.prog 61 #[.slice A0 l0.length c0, .slice A1 l1.length c1, .int .i64 a2] w fun e w' => e = .returned (.tuple #[.agg #[.bool r1, .int .i64 r2], .int .i64 r3, .int .i64 r4]) ∧ Below w.heap.size w w' := by
  unfold incunableref04_Take.f at h
  split at h
  · rename_i hc
    have e := Option.some.inj h
    simp only [Prod.mk.injEq] at e
    obtain ⟨e1, e2, e3, e4⟩ := e
    have hb : Bytes l1 := fun x hx => of_decide_eq_true (List.all_eq_true.1 hc.2.1 x hx)
    have hd := take_calls A0 c0 l0 A1 c1 l1 a2 w hc.1 hr0 hc0 hr1 hc1 hb hc.2.2.1 hc.2.2.2.1 hc.2.2.2.2 _ rfl
    rw [e1, e2, e3, e4] at hd
    exact hd
  · cases h
end Go.Proofs.Ytnadgcdkcabdoaa.U
namespace Go.Proofs.Ytnadgcdkcabdoaa.U
open Go.RowKit Go.Proofs.YtnadgcdkcabdoaaW.PrintWords Go.Proofs.YtnadgcdkcabdoaaW.PrintLast Go.Proofs.YtnadgcdkcabdoaaW.PrintMore
attribute [local go_sem] max2_int min2_int max_two min_two max_three min_three max_four min_four   -- for this text's walks alone
mutual
def incunableref04_Decode.j0 : Nat → List (S32) → List Int → Int → List (S48) → Int → Bool → Option ((List (S48)) × Int × Int)
  | 0, _, _, _, _, _, _ => none
  | k + 1, x0, x1, x2, x6, x7, x21 => if x21 = true then (some (([] : List (S48)), 0, 2)) else (incunableref04_Decode.l0 k x0 x1 x2 x6 x7 0)
def incunableref04_Decode.l0 : Nat → List (S32) → List Int → Int → List (S48) → Int → Int → Option ((List (S48)) × Int × Int)
  | 0, _, _, _, _, _, _ => none
  | k + 1, x0, x1, x2, x6, x7, x9 => if x9 < x2 then ((incunableref04_Take.f x0 x1 x7).bind fun bt573 => (if bt573.2.2.2 = 0 then (if x6.length < 8796093022208 then (incunableref04_Decode.l0 k x0 x1 x2 (x6 ++ [(⟨bt573.1, bt573.2.1⟩ : S48)]) bt573.2.2.1 (wrap64 (x9 + 1))) else (none)) else (some (([] : List (S48)), 0, bt573.2.2.2)))) else (some (x6, x7, 0))
end
def incunableref04_Decode.f (k : Nat) (l0 : List (S32)) (l1 : List Int) (a2 : Int) : Option ((List (S48)) × Int × Int) := (incunableref04_Valid.f k l0).bind fun t572 => (if t572 = true then (if a2 < 0 then (incunableref04_Decode.j0 k l0 l1 a2 ([] : List (S48)) 0 true) else (incunableref04_Decode.j0 k l0 l1 a2 ([] : List (S48)) 0 (decide (a2 > 20000)))) else (some (([] : List (S48)), 0, 20)))
theorem incunableref04_Decode.mono_l : ∀ k, (∀ y0 y1 y2 y3 y4 y5, LeO (incunableref04_Decode.j0 k y0 y1 y2 y3 y4 y5) (incunableref04_Decode.j0 (k + 1) y0 y1 y2 y3 y4 y5)) ∧ (∀ y0 y1 y2 y3 y4 y5, LeO (incunableref04_Decode.l0 k y0 y1 y2 y3 y4 y5) (incunableref04_Decode.l0 (k + 1) y0 y1 y2 y3 y4 y5))
  | 0 => ⟨fun _ _ _ _ _ _ r h => by simp [incunableref04_Decode.j0] at h, fun _ _ _ _ _ _ r h => by simp [incunableref04_Decode.l0] at h⟩
  | k + 1 => by
    obtain ⟨ih0, ih1⟩ := incunableref04_Decode.mono_l k
    refine ⟨?_, ?_⟩
    · intro y0 y1 y2 y3 y4 y5
      unfold incunableref04_Decode.j0
      repeat' first
      | (with_reducible exact ih0 _ _ _ _ _ _)
      | (with_reducible exact ih1 _ _ _ _ _ _)
      | (with_reducible exact incunableref04_Valid.mono _ _)
      | (with_reducible exact LeO.refl _)
      | (with_reducible exact LeO.none _)
      | (with_reducible refine LeO.ite ?_ ?_)
      | (with_reducible refine LeO.bind ?_ (fun _ => ?_))
      | exact ih0 _ _ _ _ _ _
      | exact ih1 _ _ _ _ _ _
      | exact incunableref04_Valid.mono _ _
      | exact LeO.none _
      | refine LeO.ite ?_ ?_
      | refine LeO.bind ?_ (fun _ => ?_)
    · intro y0 y1 y2 y3 y4 y5
      unfold incunableref04_Decode.l0
      repeat' first
      | (with_reducible exact ih0 _ _ _ _ _ _)
      | (with_reducible exact ih1 _ _ _ _ _ _)
      | (with_reducible exact incunableref04_Valid.mono _ _)
      | (with_reducible exact LeO.refl _)
      | (with_reducible exact LeO.none _)
      | (with_reducible refine LeO.ite ?_ ?_)
      | (with_reducible refine LeO.bind ?_ (fun _ => ?_))
      | exact ih0 _ _ _ _ _ _
      | exact ih1 _ _ _ _ _ _
      | exact incunableref04_Valid.mono _ _
      | exact LeO.none _
      | refine LeO.ite ?_ ?_
      | refine LeO.bind ?_ (fun _ => ?_)
theorem incunableref04_Decode.mono : ∀ a0 a1 a2 k, LeO (incunableref04_Decode.f k a0 a1 a2) (incunableref04_Decode.f (k + 1) a0 a1 a2) := by
 intro a0 a1 a2 k; obtain ⟨ih0, ih1⟩ := incunableref04_Decode.mono_l k; unfold incunableref04_Decode.f
 repeat' first
  | (with_reducible exact ih0 _ _ _ _ _ _)
  | (with_reducible exact ih1 _ _ _ _ _ _)
  | (with_reducible exact incunableref04_Valid.mono _ _)
  | (with_reducible exact LeO.refl _)
  | (with_reducible exact LeO.none _)
  | (with_reducible refine LeO.ite ?_ ?_)
  | (with_reducible refine LeO.bind ?_ (fun _ => ?_))
  | exact ih0 _ _ _ _ _ _
  | exact ih1 _ _ _ _ _ _
  | exact incunableref04_Valid.mono _ _
  | exact LeO.none _
  | refine LeO.ite ?_ ?_
  | refine LeO.bind ?_ (fun _ => ?_)
set_option maxHeartbeats 8000000 in
set_option maxRecDepth 100000 in
theorem incunableref04_Decode.calls (k : Nat) (A0 : Option Addr) (c0 : Nat) (l0 : List (S32)) (A1 : Option Addr) (c1 : Nat) (l1 : List Int) (a2 : Int) (r1 : List (S48)) (r2 : Int) (r3 : Int) (w : World) (hr0 : Kd.C k32 w A0 l0.length l0) (hc0 : l0.length ≤ c0) (hr1 : Kd.C (Kd.int .u8) w A1 l1.length l1) (hc1 : l1.length ≤ c1) (h : incunableref04_Decode.f k l0 l1 a2 = some (r1, r2, r3)) :
    Calls Try.prog 35 #[.slice A0 l0.length c0, .slice A1 l1.length c1, .int .i64 a2] w fun e w' => ∃ v0_ : Value, e = .returned (.tuple #[v0_, .int .i64 r2, .int .i64 r3]) ∧ Kd.R k48 48 w' w.heap.size (fun _ => True) v0_ r1 ∧ Below w.heap.size w w' := by
 have hu48 := Try.underlying48; have HR0 := Aside0.mk hr0; have HC0 := Aside0.mk hc0; clear hr0 hc0; have HR1 := Aside0.mk hr1; have HC1 := Aside0.mk hc1; clear hr1 hc1; have HB := Aside0.mk (Below.refl w.heap.size w); have H : ((incunableref04_Valid.f k l0).bind fun t572 => (if t572 = true then (if a2 < 0 then (incunableref04_Decode.j0 k l0 l1 a2 ([] : List (S48)) 0 true) else (incunableref04_Decode.j0 k l0 l1 a2 ([] : List (S48)) 0 (decide (a2 > 20000)))) else (some (([] : List (S48)), 0, 20)))) = some (r1, r2, r3) := h; clear h; replace H := Option.bind_eq_some_iff.mp H; obtain ⟨t572, A40, H⟩ := H; replace H : (if t572 = true then (if a2 < 0 then (incunableref04_Decode.j0 k l0 l1 a2 ([] : List (S48)) 0 true) else (incunableref04_Decode.j0 k l0 l1 a2 ([] : List (S48)) 0 (decide (a2 > 20000)))) else (some (([] : List (S48)), 0, 20))) = some (r1, r2, r3) := H; have A4 := Aside0.mk A40; clear A40; by_cases c5 : t572 = true
 · subst c5
   (have H1 : (if a2 < 0 then (incunableref04_Decode.j0 k l0 l1 a2 ([] : List (S48)) 0 true) else (incunableref04_Decode.j0 k l0 l1 a2 ([] : List (S48)) 0 (decide (a2 > 20000)))) = some (r1, r2, r3) := by rw [if_pos rfl] at H; exact H); clear H; have H := H1; clear H1; have HC6 := Aside0.mk H; clear H; go_enter Try.func35, Try.ntmps35; go_upto_region 3 with (first | ((with_reducible refine gate_callee (f := 20) rfl ?_); refine goesL_ (some 14) rfl rfl Try.func20 (by kernel_rfl) rfl #[.slice A0 l0.length c0] rfl (by (try simp only [List.map_toArray, List.map_cons, List.map_nil]); first | done | rfl | (simp only [List.length_drop, List.length_take]; rfl)) ?_; (with_reducible refine (incunableref04_Valid.calls k _ _ l0 true _ ?side1 ?side2 A4.out).mono ?_); (case side1 => repeat (first | exact HR0.out | (with_reducible refine Kd.C_alloc ?_ _) | (with_reducible refine Kd.C_drewN ?_ _) | (with_reducible refine Kd.C_drew ?_))); (case side2 => exact HC0.out); rintro e w7 ⟨rfl, hb⟩; refine ⟨_, rfl, ?_⟩; have n0_ := Aside0.mk (below_step (by repeat (first | (with_reducible first | exact HB.out | apply below_alloc | apply pw_below_drewN | apply below_drew1) | exact HB.out)) hb); clear HB; have HB := n0_; clear n0_; (try clear hb); (try clear hb2); (try clear hk); (try clear hi))); (try simp only [Act.put, List.setIfInBounds_toArray, List.set_cons_zero, List.set_cons_succ])
   go_cut [21] (fun v21 wc => ∃ (kq : Nat) (x21_5 : Bool), v21 = .bool x21_5 ∧ Aside0 (incunableref04_Decode.j0 kq l0 l1 a2 ([] : List (S48)) 0 x21_5 = some (r1, r2, r3)) ∧ Aside0 (kq ≤ k) ∧ Aside0 (Kd.R k48 48 wc w.heap.size (fun _ => True) (.slice none 0 0) ([] : List (S48))) ∧ Aside0 (Below w.heap.size w wc))
   (case first => have H := HC6.out; clear HC6; by_cases c8 : a2 < 0; (· rw [if_pos c8] at H; have c8b0 : decide (a2 < 0) = true := decide_eq_true c8; clear c8; (first | rw [c8b0] | (simp only [i64_w, i32_w]; rw [c8b0]) | skip); have H' := Aside0.mk H; clear H; go_wp2; go_meet; (case rel => exact ⟨_, (true), (by first | rfl | (simp; done) | (simp [*]; done)), H', ⟨by first | omega | exact Nat.le_refl _⟩, ⟨by first | exact Kd.R_nil _ _ _ _ _ | exact Kd.N_nil _ _ _ _ _ | exact Kd.V_nil _ _ _ _ _ | exact Kd.Q_nil _ _ _ _ _ | exact Kd.S_nil _ _ _ _ _⟩, ⟨by repeat (first | (with_reducible first | exact HB.out | apply below_alloc | apply pw_below_drewN | apply below_drew1) | exact HB.out)⟩⟩)); (· rw [if_neg c8] at H; have c8b0 : decide (a2 < 0) = false := decide_eq_false c8; clear c8; (first | rw [c8b0] | (simp only [i64_w, i32_w]; rw [c8b0]) | skip); have H' := Aside0.mk H; clear H; go_wp2; go_meet; (case rel => exact ⟨_, (decide (a2 > 20000)), (by first | rfl | (simp; done) | (simp [*]; done)), H', ⟨by first | omega | exact Nat.le_refl _⟩, ⟨by first | exact Kd.R_nil _ _ _ _ _ | exact Kd.N_nil _ _ _ _ _ | exact Kd.V_nil _ _ _ _ _ | exact Kd.Q_nil _ _ _ _ _ | exact Kd.S_nil _ _ _ _ _⟩, ⟨by repeat (first | (with_reducible first | exact HB.out | apply below_alloc | apply pw_below_drewN | apply below_drew1) | exact HB.out)⟩⟩)))
   case rest =>
    clear HC6; (try clear c1); (try clear c2); (try clear p2); (try clear c3); (try clear c5); (try clear c8); (try clear c8b0); obtain ⟨kq, x21_5, rfl, HA, HJ5, HO_6, HB⟩ := hcut
    cases kq with
    | zero => exact absurd HA.out (by simp [incunableref04_Decode.j0])
    | succ kj5 =>
     have H := HA.out; clear HA; simp only [incunableref04_Decode.j0] at H; by_cases c9 : x21_5 = true; (· subst c9; (have H1 : (some (([] : List (S48)), 0, 2)) = some (r1, r2, r3) := by rw [if_pos rfl] at H; exact H); clear H; have H := H1; clear H1; simp only [Option.some.injEq, Prod.mk.injEq] at H; obtain ⟨rfl, rfl, rfl⟩ := H; go_wp2; go_ret3; (exact ⟨_, by first | rfl | (simp [errW_none, errW_some] <;> rfl) | (simp [*, errW_none, errW_some] <;> rfl), by first | exact Kd.R_nil _ _ _ _ _ | exact Kd.N_nil _ _ _ _ _ | exact Kd.V_nil _ _ _ _ _ | exact Kd.Q_nil _ _ _ _ _ | exact Kd.S_nil _ _ _ _ _, by repeat (first | (with_reducible first | exact HB.out | apply below_alloc | apply pw_below_drewN | apply below_drew1) | exact HB.out)⟩))
     · replace c9 := Bool.eq_false_iff.mpr c9
       subst c9; (have H1 : (incunableref04_Decode.l0 kj5 l0 l1 a2 ([] : List (S48)) 0 0) = some (r1, r2, r3) := by rw [if_neg (show ¬ (false = true) by decide)] at H; exact H); clear H; have H := H1; clear H1; have H' := Aside0.mk H; clear H; go_wp2; go_loopg [6, 7, 9] kj5 (fun kq v6 v7 v9 w' => ∃ (x6_2 : List (S48)) (x7_2 : Int) (x9_2 : Int), v7 = .int .i64 x7_2 ∧ v9 = .int .i64 x9_2 ∧ Aside0 (incunableref04_Decode.l0 kq l0 l1 a2 x6_2 x7_2 x9_2 = some (r1, r2, r3)) ∧ Aside0 (kq ≤ kj5) ∧ Aside0 (Kd.R k48 48 w' w.heap.size (fun _ => True) v6 x6_2) ∧ Aside0 (Below w.heap.size w w')); (case atStart => exact ⟨(([] : List (S48))), (0), (0), (by first | rfl | (simp; done) | (simp [*]; done)), (by first | rfl | (simp; done) | (simp [*]; done)), H', ⟨Nat.le_refl _⟩, ⟨by (with_reducible repeat (first | apply Kd.R_alloc | apply Kd.R_drewN | apply Kd.R_drew)); exact HO_6.out⟩, ⟨by repeat (first | (with_reducible first | exact HB.out | apply below_alloc | apply pw_below_drewN | apply below_drew1) | exact HB.out)⟩⟩)
       case round =>
        clear H'; (try clear c1); (try clear c2); (try clear p2); (try clear c3); (try clear c5); (try clear c8); (try clear c8b0); (try clear c9); (try clear p2); obtain ⟨x6_2, x7_2, x9_2, rfl, rfl, HA, HK2, HO_6, HB⟩ := hrel
        cases gk with
        | zero => exact absurd HA.out (by simp [incunableref04_Decode.l0])
        | succ k2 =>
         have H := HA.out; clear HA; simp only [incunableref04_Decode.l0] at H; by_cases c10 : x9_2 < a2
         (· rw [if_pos c10] at H; have c10b0 : decide (x9_2 < a2) = true := decide_eq_true c10; clear c10; replace H := Option.bind_eq_some_iff.mp H; obtain ⟨⟨t573, t574, t575, t576⟩, A110, H⟩ := H; replace H : (if t576 = 0 then (if x6_2.length < 8796093022208 then (incunableref04_Decode.l0 k2 l0 l1 a2 (x6_2 ++ [(⟨t573, t574⟩ : S48)]) t575 (wrap64 (x9_2 + 1))) else (none)) else (some (([] : List (S48)), 0, t576))) = some (r1, r2, r3) := H; have A11 := Aside0.mk A110; clear A110; by_cases c12 : t576 = 0; (· rw [if_pos c12] at H; have c12b0 : (t576 == 0) = true := beq_iff_eq.mpr c12; have c12b1 : (t576 != 0) = false := bne_eq_false_iff_eq.mpr c12; clear c12; by_cases c13 : x6_2.length < 8796093022208; (· rw [if_pos c13] at H; have LMc13 := Aside0.mk c13; clear c13; obtain ⟨y578, hy578⟩ : ∃ y_ : List (S48), y_ = (x6_2 ++ [(⟨t573, t574⟩ : S48)]) := ⟨_, rfl⟩; (replace H : (incunableref04_Decode.l0 k2 l0 l1 a2 y578 t575 (wrap64 (x9_2 + 1))) = some (r1, r2, r3) := by first | (rw [hy578]; with_reducible exact H) | (have H2_ := (Option.bind_some _ _).symm.trans H; rw [hy578]; with_reducible exact H2_) | (have H2_ := (Option.bind_some _ _).symm.trans H; with_reducible exact H2_) | with_reducible exact H | (rw [hy578]; exact H) | exact H); have Ny578 := Aside0.mk hy578; clear hy578; have H' := Aside0.mk H; clear H; go_wp2_with (first | ((with_reducible refine gate_callee (f := 61) rfl ?_); refine goesL_ (some 31) rfl rfl Try.func61 (by kernel_rfl) rfl #[.slice A0 l0.length c0, .slice A1 l1.length c1, .int .i64 x7_2] rfl (by (try simp only [List.map_toArray, List.map_cons, List.map_nil]); first | done | rfl | (simp only [List.length_drop, List.length_take]; rfl)) ?_; (with_reducible refine (incunableref04_Take.calls _ _ l0 _ _ l1 x7_2 t573 t574 t575 t576 _ ?side1 ?side2 ?side3 ?side4 A11.out).mono ?_); (case side1 => repeat (first | exact (Kd.C_below HR0.out HB.out) | (with_reducible refine Kd.C_alloc ?_ _) | (with_reducible refine Kd.C_drewN ?_ _) | (with_reducible refine Kd.C_drew ?_))); (case side2 => exact HC0.out); (case side3 => repeat (first | exact (Kd.C_below HR1.out HB.out) | (with_reducible refine Kd.C_alloc ?_ _) | (with_reducible refine Kd.C_drewN ?_ _) | (with_reducible refine Kd.C_drew ?_))); (case side4 => exact HC1.out); rintro e w14 ⟨rfl, hb⟩; refine ⟨_, rfl, ?_⟩; have n0_ := Aside0.mk (Kd.R_below (by (with_reducible repeat (first | apply Kd.R_alloc | apply Kd.R_drewN | apply Kd.R_drew)); exact HO_6.out) hb); have n1_ := Aside0.mk (below_step (by repeat (first | (with_reducible first | exact HB.out | apply below_alloc | apply pw_below_drewN | apply below_drew1) | exact HB.out)) hb); clear HO_6; clear HB; have HO_6 := n0_; have HB := n1_; clear n0_ n1_; (try clear hb); (try clear hb2); (try clear hk); (try clear hi)) | ((with_reducible refine gate_dst (N := 10) rfl ?_); refine box_event ?hg (N := 10) ?hd (cs := #[.bool false, .int .i64 0]) (t := 48) ?hr ?_; (case hd => rfl); (case hg => rfl); (case hr => first | (go_simp; done) | (go_simp; rfl)); intro gb577 hg w15 hbox hb; have n0_ := Aside0.mk (Kd.R_below (Kd.R_elderB (by (with_reducible repeat (first | apply Kd.R_alloc | apply Kd.R_drewN | apply Kd.R_drew)); exact HO_6.out) gb577 (Nat.le_of_eq hg.symm)) hb); have n1_ := Aside0.mk (below_step (by repeat (first | (with_reducible first | exact HB.out | apply below_alloc | apply pw_below_drewN | apply below_drew1) | exact HB.out)) hb); have n2_ := Aside0.mk (hbox); have n3_ := Aside0.mk ((by rw [hg]; exact (below_size (by repeat (first | (with_reducible first | exact HB.out | apply below_alloc | apply pw_below_drewN | apply below_drew1) | exact HB.out))) : w.heap.size ≤ gb577)); have n4_ := Aside0.mk ((by rw [hg]; exact (below_size (by repeat (first | (with_reducible first | exact HB.out | apply below_alloc | apply pw_below_drewN | apply below_drew1) | exact HB.out))) : w.heap.size ≤ gb577)); clear HO_6; clear HB; have HO_6 := n0_; have HB := n1_; have BK577 := n2_; have GW577 := n3_; have GE577 := n4_; clear n0_ n1_ n2_ n3_ n4_; clear hb hbox hg; have hcz16_0 : w15.cell? ⟨gb577, 0, none⟩ = some (.bool false) := (blk_cell BK577.out 0).trans rfl; have hcz16_1 : w15.cell? ⟨gb577, 1, none⟩ = some (.int .i64 0) := (blk_cell BK577.out 1).trans rfl; have hfz16_0 := blk_frozen BK577.out 0; have hfz16_1 := blk_frozen BK577.out 1) | ((with_reducible refine gate_builtin (b := .append) (xs := #[.tmp 38, .tmp 40]) rfl ?_); at_builtin; refine Kd.R_append k48 (w0 := w) w.heap.size rfl (.tmp 38) (.tmp 40) 54 48 (.agg #[(.bool false), (.int .i64 0)]) 16 rfl Try.underlying54 info48 rfl (by decide) (by omega) u6 x6_2 (⟨t573, t574⟩ : S48) [.bool t573, .int .i64 t574] (fun k_ => k_ ≠ gb577) (fun _ => False) rfl (by first | (go_simp; done) | (go_simp; rfl)) ?aP (fun _ hk => hk.elim) ?aF ?aO ?aB ?aS ?aL ?_; (case aP => exact k48_mkM _ _ _ (⟨t573, t574⟩ : S48)); (case aB => exact (by repeat (first | (with_reducible first | exact HB.out | apply below_alloc | apply pw_below_drewN | apply below_drew1 | refine below_set ?_ GE577.out) | exact HB.out))); (case aF => exact (fun k_ hk => Kd.freshB (g := gb577) (o := .cells #[.bool t573, .int .i64 t574] 48 (0, 0)) (by (with_reducible repeat (first | refine blk_drewN ?_ _ | refine blk_drew ?_ | refine blk_alloc ?_ _)); refine blk_put (cs := #[.bool t573, .int .i64 0]) ?_ 1 _ rfl; (with_reducible repeat (first | refine blk_drewN ?_ _ | refine blk_drew ?_ | refine blk_alloc ?_ _)); refine blk_put (cs := #[.bool false, .int .i64 0]) ?_ 0 _ rfl; (with_reducible repeat (first | refine blk_drewN ?_ _ | refine blk_drew ?_ | refine blk_alloc ?_ _)); exact BK577.out) k_ hk)); (case aO => exact (by (with_reducible repeat (first | apply Kd.R_alloc | apply Kd.R_drewN | apply Kd.R_drew)); exact Kd.R_mono (Kd.R_far (p := ⟨gb577, 1, none⟩) (Kd.R_far (p := ⟨gb577, 0, none⟩) (Kd.R_mono HO_6.out (fun k_ hk => (⟨hk, hk.2⟩ : _ ∧ k_ ≠ gb577))) (fun _ hk => hk.2) (.bool t573)) (fun _ hk => hk.2) (.int .i64 t574)) (fun _ hk => hk.1.2))); (case aS => exact (below_size (by repeat (first | (with_reducible first | exact HB.out | apply below_alloc | apply pw_below_drewN | apply below_drew1 | refine below_set ?_ GE577.out) | exact HB.out)))); (case aL => have := LMc13.out; omega); intro v579 w17 ho hb hg hat; rw [← Ny578.out] at ho; have n0_ := Aside0.mk (blk_grown (g := gb577) (o := .cells #[.bool t573, .int .i64 t574] 48 (0, 0)) (by (with_reducible repeat (first | refine blk_drewN ?_ _ | refine blk_drew ?_ | refine blk_alloc ?_ _)); refine blk_put (cs := #[.bool t573, .int .i64 0]) ?_ 1 _ rfl; (with_reducible repeat (first | refine blk_drewN ?_ _ | refine blk_drew ?_ | refine blk_alloc ?_ _)); refine blk_put (cs := #[.bool false, .int .i64 0]) ?_ 0 _ rfl; (with_reducible repeat (first | refine blk_drewN ?_ _ | refine blk_drew ?_ | refine blk_alloc ?_ _)); exact BK577.out) hg (Kd.R_away HO_6.out (fun _ hk => hk.2))); have n1_ := Aside0.mk (hb); have n2_ := Aside0.mk (ho); clear BK577; clear HB; clear HO_6; have BK577 := n0_; have HB := n1_; have HO580 := n2_; clear n0_ n1_ n2_; clear ho hb hg hat)); go_roundg k2; (case measure => have := HJ5.out; have := HK2.out; omega); (case rel => exact ⟨(y578), (t575), (wrap64 (x9_2 + 1)), (by first | rfl | (simp; done) | (simp [*]; done)), (by first | rfl | (simp; done) | (simp [*]; done)), H', ⟨by have := HJ5.out; have := HK2.out; omega⟩, ⟨by (with_reducible repeat (first | apply Kd.R_alloc | apply Kd.R_drewN | apply Kd.R_drew)); exact Kd.R_mono HO580.out (fun _ hk => trivial)⟩, ⟨by repeat (first | (with_reducible first | exact HB.out | apply below_alloc | apply pw_below_drewN | apply below_drew1 | refine below_set ?_ GE577.out) | exact HB.out)⟩⟩)); (· rw [if_neg c13] at H; exact absurd H (by simp))); (· rw [if_neg c12] at H; have c12b0 : (t576 == 0) = false := beq_eq_false_iff_ne.mpr c12; have c12b1 : (t576 != 0) = true := bne_iff_ne.mpr c12; simp only [Option.some.injEq, Prod.mk.injEq] at H; obtain ⟨rfl, rfl, rfl⟩ := H; go_wp2_with (first | ((with_reducible refine gate_callee (f := 61) rfl ?_); refine goesL_ (some 31) rfl rfl Try.func61 (by kernel_rfl) rfl #[.slice A0 l0.length c0, .slice A1 l1.length c1, .int .i64 x7_2] rfl (by (try simp only [List.map_toArray, List.map_cons, List.map_nil]); first | done | rfl | (simp only [List.length_drop, List.length_take]; rfl)) ?_; (with_reducible refine (incunableref04_Take.calls _ _ l0 _ _ l1 x7_2 t573 t574 t575 t576 _ ?side1 ?side2 ?side3 ?side4 A11.out).mono ?_); (case side1 => repeat (first | exact (Kd.C_below HR0.out HB.out) | (with_reducible refine Kd.C_alloc ?_ _) | (with_reducible refine Kd.C_drewN ?_ _) | (with_reducible refine Kd.C_drew ?_))); (case side2 => exact HC0.out); (case side3 => repeat (first | exact (Kd.C_below HR1.out HB.out) | (with_reducible refine Kd.C_alloc ?_ _) | (with_reducible refine Kd.C_drewN ?_ _) | (with_reducible refine Kd.C_drew ?_))); (case side4 => exact HC1.out); rintro e w18 ⟨rfl, hb⟩; refine ⟨_, rfl, ?_⟩; have n0_ := Aside0.mk (Kd.R_below (by (with_reducible repeat (first | apply Kd.R_alloc | apply Kd.R_drewN | apply Kd.R_drew)); exact HO_6.out) hb); have n1_ := Aside0.mk (below_step (by repeat (first | (with_reducible first | exact HB.out | apply below_alloc | apply pw_below_drewN | apply below_drew1) | exact HB.out)) hb); clear HO_6; clear HB; have HO_6 := n0_; have HB := n1_; clear n0_ n1_; (try clear hb); (try clear hb2); (try clear hk); (try clear hi)) | ((with_reducible refine gate_dst (N := 10) rfl ?_); refine box_event ?hg (N := 10) ?hd (cs := #[.bool false, .int .i64 0]) (t := 48) ?hr ?_; (case hd => rfl); (case hg => rfl); (case hr => first | (go_simp; done) | (go_simp; rfl)); intro gb577 hg w19 hbox hb; have n0_ := Aside0.mk (Kd.R_below (Kd.R_elderB (by (with_reducible repeat (first | apply Kd.R_alloc | apply Kd.R_drewN | apply Kd.R_drew)); exact HO_6.out) gb577 (Nat.le_of_eq hg.symm)) hb); have n1_ := Aside0.mk (below_step (by repeat (first | (with_reducible first | exact HB.out | apply below_alloc | apply pw_below_drewN | apply below_drew1) | exact HB.out)) hb); have n2_ := Aside0.mk (hbox); have n3_ := Aside0.mk ((by rw [hg]; exact (below_size (by repeat (first | (with_reducible first | exact HB.out | apply below_alloc | apply pw_below_drewN | apply below_drew1) | exact HB.out))) : w.heap.size ≤ gb577)); have n4_ := Aside0.mk ((by rw [hg]; exact (below_size (by repeat (first | (with_reducible first | exact HB.out | apply below_alloc | apply pw_below_drewN | apply below_drew1) | exact HB.out))) : w.heap.size ≤ gb577)); clear HO_6; clear HB; have HO_6 := n0_; have HB := n1_; have BK577 := n2_; have GW577 := n3_; have GE577 := n4_; clear n0_ n1_ n2_ n3_ n4_; clear hb hbox hg; have hcz20_0 : w19.cell? ⟨gb577, 0, none⟩ = some (.bool false) := (blk_cell BK577.out 0).trans rfl; have hcz20_1 : w19.cell? ⟨gb577, 1, none⟩ = some (.int .i64 0) := (blk_cell BK577.out 1).trans rfl; have hfz20_0 := blk_frozen BK577.out 0; have hfz20_1 := blk_frozen BK577.out 1)); go_ret3; (exact ⟨_, by first | rfl | (simp [errW_none, errW_some] <;> rfl) | (simp [*, errW_none, errW_some] <;> rfl), by first | exact Kd.R_nil _ _ _ _ _ | exact Kd.N_nil _ _ _ _ _ | exact Kd.V_nil _ _ _ _ _ | exact Kd.Q_nil _ _ _ _ _ | exact Kd.S_nil _ _ _ _ _, by repeat (first | (with_reducible first | exact HB.out | apply below_alloc | apply pw_below_drewN | apply below_drew1 | refine below_set ?_ GE577.out) | exact HB.out)⟩)))
         (· rw [if_neg c10] at H; have c10b0 : decide (x9_2 < a2) = false := decide_eq_false c10; clear c10; simp only [Option.some.injEq, Prod.mk.injEq] at H; obtain ⟨rfl, rfl, rfl⟩ := H; go_wp2; go_ret3; (exact ⟨_, by first | rfl | (simp [errW_none, errW_some] <;> rfl) | (simp [*, errW_none, errW_some] <;> rfl), by (with_reducible repeat (first | apply Kd.R_alloc | apply Kd.R_drewN | apply Kd.R_drew)); exact HO_6.out, by repeat (first | (with_reducible first | exact HB.out | apply below_alloc | apply pw_below_drewN | apply below_drew1) | exact HB.out)⟩))
 (· replace c5 := Bool.eq_false_iff.mpr c5; subst c5; (have H1 : (some (([] : List (S48)), 0, 20)) = some (r1, r2, r3) := by rw [if_neg (show ¬ (false = true) by decide)] at H; exact H); clear H; have H := H1; clear H1; simp only [Option.some.injEq, Prod.mk.injEq] at H; obtain ⟨rfl, rfl, rfl⟩ := H; go_enter Try.func35, Try.ntmps35; go_wp2_with (first | ((with_reducible refine gate_callee (f := 20) rfl ?_); refine goesL_ (some 14) rfl rfl Try.func20 (by kernel_rfl) rfl #[.slice A0 l0.length c0] rfl (by (try simp only [List.map_toArray, List.map_cons, List.map_nil]); first | done | rfl | (simp only [List.length_drop, List.length_take]; rfl)) ?_; (with_reducible refine (incunableref04_Valid.calls k _ _ l0 false _ ?side1 ?side2 A4.out).mono ?_); (case side1 => repeat (first | exact HR0.out | (with_reducible refine Kd.C_alloc ?_ _) | (with_reducible refine Kd.C_drewN ?_ _) | (with_reducible refine Kd.C_drew ?_))); (case side2 => exact HC0.out); rintro e w21 ⟨rfl, hb⟩; refine ⟨_, rfl, ?_⟩; have n0_ := Aside0.mk (below_step (by repeat (first | (with_reducible first | exact HB.out | apply below_alloc | apply pw_below_drewN | apply below_drew1) | exact HB.out)) hb); clear HB; have HB := n0_; clear n0_; (try clear hb); (try clear hb2); (try clear hk); (try clear hi))); go_ret3; (exact ⟨_, by first | rfl | (simp [errW_none, errW_some] <;> rfl) | (simp [*, errW_none, errW_some] <;> rfl), by first | exact Kd.R_nil _ _ _ _ _ | exact Kd.N_nil _ _ _ _ _ | exact Kd.V_nil _ _ _ _ _ | exact Kd.Q_nil _ _ _ _ _ | exact Kd.S_nil _ _ _ _ _, by repeat (first | (with_reducible first | exact HB.out | apply below_alloc | apply pw_below_drewN | apply below_drew1) | exact HB.out)⟩))
end Go.Proofs.Ytnadgcdkcabdoaa.U
namespace Go.Proofs.Ytnadgcdkcabdoaa.U
open Go.RowKit Go.Proofs.YtnadgcdkcabdoaaW.PrintWords Go.Proofs.YtnadgcdkcabdoaaW.PrintLast Go.Proofs.YtnadgcdkcabdoaaW.PrintMore
attribute [local go_sem] max2_int min2_int max_two min_two max_three min_three max_four min_four   -- for this text's walks alone
theorem eqA48 (d : Nat) (w : World) (x0 y0 : Bool) (x1 y1 : Int) :
    (Op.equalIn (d + 2) 48 (.agg #[.bool x0, .int .i64 x1]) (.agg #[.bool y0, .int .i64 y1])).run Try.prog w = .ok (x0 == y0 && (x1 == y1)) w := by
  refine eqA_of Try.underlying48 (by kernel_rfl) ?_
  refine eqf_cons (by rfl) (by go_simp; rfl) (by go_simp; rfl) (by go_simp) ?_
  exact eqf_last (by rfl) (by go_simp; rfl) (by go_simp; rfl) (by go_simp)
end Go.Proofs.Ytnadgcdkcabdoaa.U
namespace Go.Proofs.Ytnadgcdkcabdoaa.U
open Go.RowKit Go.Proofs.YtnadgcdkcabdoaaW.PrintWords Go.Proofs.YtnadgcdkcabdoaaW.PrintLast Go.Proofs.YtnadgcdkcabdoaaW.PrintMore
attribute [local go_sem] max2_int min2_int max_two min_two max_three min_three max_four min_four   -- for this text's walks alone
attribute [local go_sem high] eqA48
def incunableref04_SameNums.l0 : Nat → List (S48) → List (S48) → Int → Int → Option (Bool)
  | 0, _, _, _, _ => none
  | k + 1, x0, x1, x12, x13 => if x13 < x12 then (if 0 ≤ x13 then (if x13 < (x0.length : Int) then (if x13 < (x1.length : Int) then (if (!(((rd_T48 x0 x13).f0) == ((rd_T48 x1 x13).f0)) || (!(((rd_T48 x0 x13).f1) == ((rd_T48 x1 x13).f1)))) = true then (some false) else (incunableref04_SameNums.l0 k x0 x1 x12 (wrap64 (x13 + 1)))) else (none)) else (none)) else (none)) else (some true)
def incunableref04_SameNums.f (k : Nat) (l0 : List (S48)) (l1 : List (S48)) : Option (Bool) := if (l0.length : Int) = (l1.length : Int) then (incunableref04_SameNums.l0 k l0 l1 (l0.length : Int) 0) else (some false)
theorem incunableref04_SameNums.mono_l : ∀ k, (∀ y0 y1 y2 y3, LeO (incunableref04_SameNums.l0 k y0 y1 y2 y3) (incunableref04_SameNums.l0 (k + 1) y0 y1 y2 y3))
  | 0 => fun _ _ _ _ r h => by simp [incunableref04_SameNums.l0] at h
  | k + 1 => by
    have ih0 := incunableref04_SameNums.mono_l k
    · intro y0 y1 y2 y3
      unfold incunableref04_SameNums.l0
      repeat' first
      | (with_reducible exact ih0 _ _ _ _)
      | (with_reducible exact LeO.refl _)
      | (with_reducible exact LeO.none _)
      | (with_reducible refine LeO.ite ?_ ?_)
      | (with_reducible refine LeO.bind ?_ (fun _ => ?_))
      | exact ih0 _ _ _ _
      | exact LeO.none _
      | refine LeO.ite ?_ ?_
      | refine LeO.bind ?_ (fun _ => ?_)
theorem incunableref04_SameNums.mono : ∀ a0 a1 k, LeO (incunableref04_SameNums.f k a0 a1) (incunableref04_SameNums.f (k + 1) a0 a1) := by
 intro a0 a1 k; have ih0 := incunableref04_SameNums.mono_l k; unfold incunableref04_SameNums.f
 repeat' first
  | (with_reducible exact ih0 _ _ _ _)
  | (with_reducible exact LeO.refl _)
  | (with_reducible exact LeO.none _)
  | (with_reducible refine LeO.ite ?_ ?_)
  | (with_reducible refine LeO.bind ?_ (fun _ => ?_))
  | exact ih0 _ _ _ _
  | exact LeO.none _
  | refine LeO.ite ?_ ?_
  | refine LeO.bind ?_ (fun _ => ?_)
set_option maxHeartbeats 8000000 in
set_option maxRecDepth 100000 in
theorem incunableref04_SameNums.calls (k : Nat) (A0 : Option Addr) (c0 : Nat) (l0 : List (S48)) (A1 : Option Addr) (c1 : Nat) (l1 : List (S48)) (r : Bool) (w : World) (hr0 : Kd.C k48 w A0 l0.length l0) (hc0 : l0.length ≤ c0) (hr1 : Kd.C k48 w A1 l1.length l1) (hc1 : l1.length ≤ c1) (h : incunableref04_SameNums.f k l0 l1 = some r) :
    Calls Try.prog 36 #[.slice A0 l0.length c0, .slice A1 l1.length c1] w fun e w' => e = .returned (.bool r) ∧ Drawn0 w w' := by
 have hu48 := Try.underlying48; have HR0 := Aside0.mk hr0; have HC0 := Aside0.mk hc0; clear hr0 hc0; have HR1 := Aside0.mk hr1; have HC1 := Aside0.mk hc1; clear hr1 hc1; have H : (if (l0.length : Int) = (l1.length : Int) then (incunableref04_SameNums.l0 k l0 l1 (l0.length : Int) 0) else (some false)) = some r := h; clear h; by_cases c3 : (l0.length : Int) = (l1.length : Int)
 · rw [if_pos c3] at H
   have c3b0 : ((l0.length : Int) == (l1.length : Int)) = true := beq_iff_eq.mpr c3; have c3b1 : ((l0.length : Int) != (l1.length : Int)) = false := bne_eq_false_iff_eq.mpr c3; (have c3b2 : (l0.length == l1.length) = true := by first | simpa using c3 | (simp at c3 ⊢; omega)); clear c3; have H' := Aside0.mk H; clear H; go_enter Try.func36, Try.ntmps36; go_wp2; (repeat (go_quiet (fail); try go_wp2)); go_loopg [13] k (fun kq v13 w' => ∃ (x13_1 : Int), v13 = .int .i64 x13_1 ∧ Aside0 (incunableref04_SameNums.l0 kq l0 l1 (l0.length : Int) x13_1 = some r) ∧ Aside0 (kq ≤ k) ∧ Drawn0 w w'); (case atStart => exact ⟨(0), (by first | rfl | (simp; done) | (simp [*]; done)), H', ⟨Nat.le_refl _⟩, by repeat (first | exact Drawn0.refl _ | apply Drawn0.step)⟩)
   case round =>
    clear H'; (try clear c1); (try clear p2); (try clear c3); (try clear c3b0); (try clear c3b1); (try clear c3b2); obtain ⟨x13_1, rfl, HA, HK1, ⟨m1, rfl⟩⟩ := hrel
    cases gk with
    | zero => exact absurd HA.out (by simp [incunableref04_SameNums.l0])
    | succ k1 =>
     have H := HA.out; clear HA; simp only [incunableref04_SameNums.l0] at H; by_cases c4 : x13_1 < (l0.length : Int)
     (· rw [if_pos c4] at H; have c4b0 : decide (x13_1 < (l0.length : Int)) = true := decide_eq_true c4; clear c4; by_cases c5 : 0 ≤ x13_1; (· rw [if_pos c5] at H; have c5b0 : decide (0 ≤ x13_1) = true := decide_eq_true c5; clear c5; by_cases c6 : x13_1 < (l0.length : Int); (· rw [if_pos c6] at H; have c6b0 : decide (x13_1 < (l0.length : Int)) = true := decide_eq_true c6; clear c6; by_cases c7 : x13_1 < (l1.length : Int); (· rw [if_pos c7] at H; have c7b0 : decide (x13_1 < (l1.length : Int)) = true := decide_eq_true c7; clear c7; by_cases c8 : (!(((rd_T48 l0 x13_1).f0) == ((rd_T48 l1 x13_1).f0)) || (!(((rd_T48 l0 x13_1).f1) == ((rd_T48 l1 x13_1).f1)))) = true; (· rw [if_pos c8] at H; have c8b0 : (!(((rd_T48 l0 x13_1).f0) == ((rd_T48 l1 x13_1).f0)) || (!(((rd_T48 l0 x13_1).f1) == ((rd_T48 l1 x13_1).f1)))) = true := c8; clear c8; obtain rfl := Option.some.inj H; have p581 : 0 ≤ (x13_1 : Int) := of_decide_eq_true (by first | (with_reducible assumption) | assumption); have q581 : x13_1 < (l0.length : Int) := of_decide_eq_true (by first | (with_reducible assumption) | assumption); obtain ⟨ad581, e581, hx581_0, hx581_1⟩ := at_T48 HR0.out x13_1 p581 q581; cases e581; replace p581 := eq_true p581; replace q581 := eq_true q581; have p582 : 0 ≤ (x13_1 : Int) := of_decide_eq_true (by first | (with_reducible assumption) | assumption); have q582 : x13_1 < (l1.length : Int) := of_decide_eq_true (by first | (with_reducible assumption) | assumption); obtain ⟨ad582, e582, hx582_0, hx582_1⟩ := at_T48 HR1.out x13_1 p582 q582; cases e582; replace p582 := eq_true p582; replace q582 := eq_true q582; go_wp2; (repeat (go_quiet (fail); try go_wp2)); go_ret; exact ⟨by first | rfl | (simp; done) | (simp [*]; done), by repeat (first | exact Drawn0.refl _ | apply Drawn0.step)⟩); (· rw [if_neg c8] at H; (have c8b0 : (!(((rd_T48 l0 x13_1).f0) == ((rd_T48 l1 x13_1).f0)) || (!(((rd_T48 l0 x13_1).f1) == ((rd_T48 l1 x13_1).f1)))) = false := by simpa using c8); clear c8; have H' := Aside0.mk H; clear H; have p581 : 0 ≤ (x13_1 : Int) := of_decide_eq_true (by first | (with_reducible assumption) | assumption); have q581 : x13_1 < (l0.length : Int) := of_decide_eq_true (by first | (with_reducible assumption) | assumption); obtain ⟨ad581, e581, hx581_0, hx581_1⟩ := at_T48 HR0.out x13_1 p581 q581; cases e581; replace p581 := eq_true p581; replace q581 := eq_true q581; have p582 : 0 ≤ (x13_1 : Int) := of_decide_eq_true (by first | (with_reducible assumption) | assumption); have q582 : x13_1 < (l1.length : Int) := of_decide_eq_true (by first | (with_reducible assumption) | assumption); obtain ⟨ad582, e582, hx582_0, hx582_1⟩ := at_T48 HR1.out x13_1 p582 q582; cases e582; replace p582 := eq_true p582; replace q582 := eq_true q582; go_wp2; (repeat (go_quiet (fail); try go_wp2)); go_roundg k1; (case measure => have := HK1.out; omega); (case rel => exact ⟨(wrap64 (x13_1 + 1)), (by first | rfl | (simp; done) | (simp [*]; done)), H', ⟨by have := HK1.out; omega⟩, by repeat (first | exact Drawn0.refl _ | apply Drawn0.step)⟩))); (· rw [if_neg c7] at H; exact absurd H (by simp))); (· rw [if_neg c6] at H; exact absurd H (by simp))); (· rw [if_neg c5] at H; exact absurd H (by simp)))
     (· rw [if_neg c4] at H; have c4b0 : decide (x13_1 < (l0.length : Int)) = false := decide_eq_false c4; clear c4; obtain rfl := Option.some.inj H; go_wp2; (repeat (go_quiet (fail); try go_wp2)); go_ret; exact ⟨by first | rfl | (simp; done) | (simp [*]; done), by repeat (first | exact Drawn0.refl _ | apply Drawn0.step)⟩)
 (· rw [if_neg c3] at H; have c3b0 : ((l0.length : Int) == (l1.length : Int)) = false := beq_eq_false_iff_ne.mpr c3; have c3b1 : ((l0.length : Int) != (l1.length : Int)) = true := bne_iff_ne.mpr c3; (have c3b2 : (l0.length == l1.length) = false := by first | simpa using c3 | (simp at c3 ⊢; omega)); obtain rfl := Option.some.inj H; go_enter Try.func36, Try.ntmps36; go_wp2; (repeat (go_quiet (fail); try go_wp2)); go_ret; exact ⟨by first | rfl | (simp; done) | (simp [*]; done), by repeat (first | exact Drawn0.refl _ | apply Drawn0.step)⟩)
end Go.Proofs.Ytnadgcdkcabdoaa.U
