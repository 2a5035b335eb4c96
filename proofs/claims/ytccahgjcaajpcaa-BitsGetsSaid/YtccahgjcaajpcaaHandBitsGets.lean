/- GetSize and GetSigned read in any bytes what the reference reads, and what is read is written with just these bytes: for every list of bytes and every offset. -/
import Derived.Test.YtccahgjcaajpcaaPBitsGetsx0
import Derived.Test.YtccahgjcaajpcaaPBitsGetsx1
import Derived.Test.YtccahgjcaajpcaaGotGets
import Derived.Test.YtccahgjcaajpcaaAid
import Derived.Test.YtccahgjcaajpcaaHandAid
import Derived.Test.YtccahgjcaajpcaaRows
import Derived.WalkKit
import Derived.ProofKit
import Derived.OpenShut
import Derived.ShutString
import Derived.ChangeOld
import Derived.Below
import Derived.SizedLaws
import Derived.Test.YtccahgjcaajpcaaWSized
namespace Go.Proofs.Ytccahgjcaajpcaa.HandBitsGets
open Go Go.RowKit Go.Proofs.Ytccahgjcaajpcaa.PBitsGets Go.Proofs.YtccahgjcaajpcaaW.PrintWords Go.Proofs.YtccahgjcaajpcaaW.PrintLast Go.Proofs.YtccahgjcaajpcaaW.PrintMore Go.Proofs.Ytccahgjcaajpcaa.Aid Go.Proofs.Ytccahgjcaajpcaa.HandAid
set_option linter.unusedVariables false
set_option linter.unusedSimpArgs false
def sumFrom (s : Int) : List Int → Int
  | [] => s
  | c :: cs => sumFrom ((s * 31 + c) % 65521) cs
theorem bits_Sum_loop (l : List Int) (hl : Bytes l) (hn : l.length ≤ 140737488351232) : ∀ (d i : Nat) (s : Int), i + d = l.length → 0 ≤ s → s < 65521 → Ev (fun k => bits_Sum.l0 k s l (l.length : Int) (i : Int)) (sumFrom s (l.drop i))
  | 0, i, s, hd, h0, h1 => by
    refine ev_succ ?_
    simp only [bits_Sum.l0]
    refine ev_neg (by omega) ?_
    rw [List.drop_of_length_le (by omega)]
    exact Ev.now _
  | d + 1, i, s, hd, h0, h1 => by
    refine ev_succ ?_
    simp only [bits_Sum.l0]
    refine ev_pos (by omega) (ev_pos (by omega) (ev_pos (by omega) ?_))
    have hb := bytes_rd hl (i := i) (by omega)
    simp (disch := omega) only [wrap_id, tmod_id]
    rw [drop_rd (by omega)]
    exact bits_Sum_loop l hl hn d (i + 1) _ (by omega) (by omega) (by omega)
theorem bits_Sum_ev (l : List Int) (hl : Bytes l) (hn : l.length ≤ 140737488351232) : Ev (fun k => bits_Sum.f k l) (sumFrom 1 l) :=
  bits_Sum_loop l hl hn l.length 0 1 (by omega) (by omega) (by omega)
def sizeBytes (n : Int) : List Int :=
  if n < 128 then [n] else if n < 16384 then [n / 128 + 128, n % 128] else
  if n < 2097152 then [n / 16384 + 128, n / 128 % 128 + 128, n % 128] else
  if n < 268435456 then [n / 2097152 + 128, n / 16384 % 128 + 128, n / 128 % 128 + 128, n % 128] else
  [n / 268435456 + 128, n / 2097152 % 128 + 128, n / 16384 % 128 + 128, n / 128 % 128 + 128, n % 128]
theorem bits_Size_l0_end (n : Int) (acc : List Int) (h : n ≤ 0) : Ev (fun k => bits_Size.l0 k n acc) (acc, 0) := by
  refine ev_succ ?_
  simp only [bits_Size.l0]
  exact ev_neg (by omega) (Ev.now _)
theorem bits_Size_l0_go (n : Int) (acc : List Int) {r} (h : 0 < n) (h2 : n ≤ 2147483647) (ha : acc.length < 100) (hr : Ev (fun k => bits_Size.l0 k (n / 128) ((n % 128 + 128) :: acc)) r) : Ev (fun k => bits_Size.l0 k n acc) r := by
  refine ev_succ ?_
  simp only [bits_Size.l0]
  refine ev_pos (by omega) (ev_some (ev_pos (by simp; omega) ?_))
  simp (disch := omega) only [wrap_id, tmod_id, tdiv_id]
  rw [show (n % 128 % 256 + 128) % 256 = n % 128 + 128 by omega]
  exact hr
theorem bits_Size_ev (n : Int) (h : 0 ≤ n) (h2 : n ≤ 2147483647) : Ev (fun k => bits_Size.f k n) (sizeBytes n, 0) := by
  unfold bits_Size.f
  refine ev_neg (by omega) ?_
  rw [show decide (n > 2147483647) = false by simp; omega]
  refine ev_succ ?_
  simp only [bits_Size.j0]
  refine ev_neg (by simp) ?_
  simp (disch := omega) only [wrap_id, tmod_id, tdiv_id]
  rw [show n % 128 % 256 = n % 128 by omega]
  unfold sizeBytes
  by_cases c1 : n < 128
  · rw [if_pos c1]
    refine ev_eq (bits_Size_l0_end _ _ (by omega)) ?_
    rw [show n % 128 = n by omega]
  rw [if_neg c1]
  refine bits_Size_l0_go _ _ (by omega) (by omega) (by simp) ?_
  by_cases c2 : n < 16384
  · rw [if_pos c2]
    refine ev_eq (bits_Size_l0_end _ _ (by omega)) ?_
    rw [show n / 128 % 128 = n / 128 by omega]
  rw [if_neg c2]
  refine bits_Size_l0_go _ _ (by omega) (by omega) (by simp) ?_
  rw [show n / 128 / 128 = n / 16384 by omega]
  by_cases c3 : n < 2097152
  · rw [if_pos c3]
    refine ev_eq (bits_Size_l0_end _ _ (by omega)) ?_
    rw [show n / 16384 % 128 = n / 16384 by omega]
  rw [if_neg c3]
  refine bits_Size_l0_go _ _ (by omega) (by omega) (by simp) ?_
  rw [show n / 16384 / 128 = n / 2097152 by omega]
  by_cases c4 : n < 268435456
  · rw [if_pos c4]
    refine ev_eq (bits_Size_l0_end _ _ (by omega)) ?_
    rw [show n / 2097152 % 128 = n / 2097152 by omega]
  rw [if_neg c4]
  refine bits_Size_l0_go _ _ (by omega) (by omega) (by simp) ?_
  rw [show n / 2097152 / 128 = n / 268435456 by omega]
  refine ev_eq (bits_Size_l0_end _ _ (by omega)) ?_
  rw [show n / 268435456 % 128 = n / 268435456 by omega]
theorem bits_Size_bad (n : Int) (h : n < 0 ∨ 2147483647 < n) : Ev (fun k => bits_Size.f k n) ([], 2) := by
  unfold bits_Size.f
  by_cases c : n < 0
  · refine ev_pos c (ev_succ ?_)
    simp only [bits_Size.j0]
    exact ev_pos (by simp) (Ev.now _)
  · refine ev_neg c ?_
    rw [show decide (n > 2147483647) = true by simp; omega]
    refine ev_succ ?_
    simp only [bits_Size.j0]
    exact ev_pos (by simp) (Ev.now _)
theorem bits_Signed_ev (n : Int) (h : -1073741824 ≤ n) (h2 : n < 1073741824) : Ev (fun k => bits_Signed.f k n) (sizeBytes (if n < 0 then -2 * n - 1 else 2 * n), 0) := by
  unfold bits_Signed.f
  by_cases c : n < 0
  · refine ev_neg (by omega) (ev_succ ?_)
    simp only [bits_Signed.j0]
    refine ev_neg (by simp) (ev_pos c (ev_pos (by omega) ?_))
    simp (disch := omega) only [wrap_id]
    rw [if_pos c]
    exact ev_bind (bits_Size_ev _ (by omega) (by omega)) (Ev.now _)
  · refine ev_pos (by omega) ?_
    rw [show decide (n < 1073741824) = true by simp; omega]
    refine ev_succ ?_
    simp only [bits_Signed.j0]
    refine ev_pos (by simp) ?_
    simp (disch := omega) only [wrap_id]
    rw [if_neg c]
    exact ev_bind (bits_Size_ev _ (by omega) (by omega)) (Ev.now _)
theorem same_ev {α} {f : Nat → Bool → Option α} {r : α} (a : List Int) (h : Ev (fun k => f k true) r) : Ev (fun k => (incunableref01_SameBytes.f a a).bind (f k)) r := by
  refine ev_pure ?_ h
  unfold incunableref01_SameBytes.f
  rw [same_self]
theorem sane_ev : Ev (fun k => incunablelaw01_Sane.f k) true := by
  unfold incunablelaw01_Sane.f
  refine ev_bind (bits_Size_ev 300 (by omega) (by omega)) ?_
  refine ev_bind (bits_Signed_ev (-1) (by omega) (by omega)) ?_
  refine ev_pos rfl (ev_pos rfl ?_)
  refine same_ev [130, 44] (ev_pos rfl (same_ev [1] (ev_pos rfl ?_)))
  refine ev_bind (bits_Sum_ev [65] (by unfold Bytes; decide) (by decide)) (Ev.now _)
theorem long_no (l : List Int) (h : l.length ≤ 2000) : incunablelaw01_Long.f l = some false := by
  unfold incunablelaw01_Long.f
  rw [show decide ((l.length : Int) > 2000) = false by simp; omega]
theorem long_yes (l : List Int) (h : 2000 < l.length) : incunablelaw01_Long.f l = some true := by
  unfold incunablelaw01_Long.f
  rw [show decide ((l.length : Int) > 2000) = true by simp; omega]
theorem same_calls (A : Option Addr) (c : Nat) (A' : Option Addr) (c' : Nat) (l : List Int) (n n' : Nat) (w : World) (hn : n = l.length) (hn' : n' = l.length) (hC : Kd.C (Kd.int .u8) w A l.length l) (hc : l.length ≤ c) (hC' : Kd.C (Kd.int .u8) w A' l.length l) (hc' : l.length ≤ c') :
    Calls Try.prog 18 #[.slice A n c, .slice A' n' c'] w fun e w' => e = .returned (.bool true) ∧ Drawn0 w w' := by
  subst hn hn'
  exact incunableref01_SameBytes.calls A c l A' c' l true w hC hc hC' hc' (by unfold incunableref01_SameBytes.f; rw [same_self])
/-- What GetSize's loop tells, from the byte i on. -/
def getFrom (l : List Int) (at' : Int) : Nat → Int → Int → Int × Int × Int
  | 0, _, _ => (0, 0, 3)
  | d + 1, n, i =>
    if at' + i ≥ (l.length : Int) then (0, 0, 6) else
    if rd l (at' + i) < 128 then
      (if n * 128 + rd l (at' + i) % 128 > 2147483647 then (0, 0, 3) else if i > 0 ∧ rd l at' = 128 then (0, 0, 3) else (n * 128 + rd l (at' + i) % 128, at' + i + 1, 0))
    else getFrom l at' d (n * 128 + rd l (at' + i) % 128) (i + 1)
theorem bits_GetSize_loop (l : List Int) (hl : Bytes l) (hn : l.length ≤ 140737488351232) (at' : Int) (h0 : 0 ≤ at') (h1 : at' ≤ l.length) : ∀ (d : Nat) (n i : Int), i + d = 5 → 0 ≤ i → 0 ≤ n → n < 128 ^ i.toNat →
    Ev (fun k => bits_GetSize.l0 k l at' n i) (getFrom l at' d n i)
  | 0, n, i, hd, hi, hn0, hn1 => by
    refine ev_succ ?_
    simp only [bits_GetSize.l0]
    exact ev_neg (by omega) (Ev.now _)
  | d + 1, n, i, hd, hi, hn0, hn1 => by
    have hp : (128 : Int) ^ i.toNat ≤ 128 ^ 4 := by
      have : i.toNat ≤ 4 := by omega
      exact_mod_cast Nat.pow_le_pow_right (by omega) this
    have hp5 : (128 : Int) ^ 4 = 268435456 := by decide
    refine ev_succ ?_
    simp only [bits_GetSize.l0, getFrom]
    refine ev_pos (by omega) ?_
    simp (disch := omega) only [wrap_id, tmod_id]
    by_cases c1 : at' + i ≥ l.length
    · rw [if_pos c1]; exact ev_pos c1 (Ev.now _)
    rw [if_neg c1]
    refine ev_neg c1 (ev_pos (by omega) (ev_pos (by omega) ?_))
    have hb := bytes_rdI hl (i := at' + i) (by omega) (by omega)
    simp (disch := omega) only [wrap_id, tmod_id]
    by_cases c2 : rd l (at' + i) < 128
    · rw [if_pos c2]
      refine ev_pos c2 ?_
      by_cases c3 : n * 128 + rd l (at' + i) % 128 > 2147483647
      · exact ev_eq (ev_pos c3 (Ev.now _)) (by rw [if_pos c3])
      refine ev_neg c3 ?_
      by_cases c4 : i > 0
      · refine ev_pos c4 (ev_pos (by omega) (ev_pos (by omega) ?_))
        by_cases c5 : rd l at' = 128
        · exact ev_eq (ev_pos c5 (Ev.now _)) (by rw [if_neg c3, if_pos ⟨c4, c5⟩])
        · exact ev_eq (ev_neg c5 (Ev.now _)) (by rw [if_neg c3, if_neg (fun h => c5 h.2)])
      · exact ev_eq (ev_neg c4 (Ev.now _)) (by rw [if_neg c3, if_neg (fun h => c4 h.1)])
    · rw [if_neg c2]
      refine ev_neg c2 ?_
      refine bits_GetSize_loop l hl hn at' h0 h1 d _ _ (by omega) (by omega) (by omega) ?_
      rw [show (i + 1).toNat = i.toNat + 1 by omega, Int.pow_succ]
      omega
theorem bits_GetSize_ev (l : List Int) (hl : Bytes l) (hn : l.length ≤ 140737488351232) (at' : Int) : Ev (fun k => bits_GetSize.f k l at') (if at' < 0 ∨ at' > l.length then (0, 0, 2) else getFrom l at' 5 0 0) := by
  unfold bits_GetSize.f
  by_cases c : at' < 0
  · rw [if_pos (.inl c)]
    refine ev_pos c (ev_succ ?_)
    simp only [bits_GetSize.j0]
    exact ev_pos (by simp) (Ev.now _)
  · refine ev_neg c (ev_succ ?_)
    by_cases c' : at' > l.length
    · rw [if_pos (.inr c')]
      simp only [bits_GetSize.j0]
      exact ev_pos (by simpa using c') (Ev.now _)
    · rw [if_neg (by simp [c, c'])]
      simp only [bits_GetSize.j0]
      exact ev_neg (by simpa using c') (bits_GetSize_loop l hl hn at' (by omega) (by omega) 5 0 0 (by omega) (by omega) (by omega) (by simp))
theorem rd_mid (a b c : List Int) (i : Nat) (h : i < b.length) : rd (a ++ b ++ c) ((a.length : Int) + (i : Int)) = b[i] := by
  unfold rd
  rw [show ((a.length : Int) + (i : Int)).toNat = a.length + i by omega]
  rw [List.getD_eq_getElem?_getD, List.getElem?_append_left (by simp; omega), List.getElem?_append_right (by omega), Nat.add_sub_cancel_left, List.getElem?_eq_getElem h]; rfl
theorem getFrom_size (n : Int) (h : 0 ≤ n) (h2 : n ≤ 2147483647) (a c : List Int) : getFrom (a ++ sizeBytes n ++ c) (a.length : Int) 5 0 0 = (n, (a.length : Int) + ((sizeBytes n).length : Int), 0) := by
  unfold sizeBytes
  by_cases c1 : n < 128
  · rw [if_pos c1]
    have r0 := rd_mid a [n] c 0 (by simp)
    simp only [Int.natCast_zero, List.getElem_cons_zero] at r0
    simp only [getFrom, r0]
    rw [if_neg (by simp; omega), if_pos c1, if_neg (by omega), if_neg (by omega)]
    simp; omega
  rw [if_neg c1]
  by_cases c2 : n < 16384
  · rw [if_pos c2]
    have r0 : rd (a ++ [n / 128 + 128, n % 128] ++ c) ((a.length : Int) + 0) = n / 128 + 128 := rd_mid a [n / 128 + 128, n % 128] c 0 (by simp)
    have r1 : rd (a ++ [n / 128 + 128, n % 128] ++ c) ((a.length : Int) + 1) = n % 128 := rd_mid a [n / 128 + 128, n % 128] c 1 (by simp)
    have r0' := r0; rw [Int.add_zero] at r0'
    simp only [getFrom, r0, r0', Int.zero_add, r1]
    rw [if_neg (by simp; omega), if_neg (by omega), if_neg (by simp; omega), if_pos (by omega), if_neg (by omega), if_neg (by omega)]
    simp; omega
  rw [if_neg c2]
  by_cases c3 : n < 2097152
  · rw [if_pos c3]
    have r0 : rd (a ++ [n / 16384 + 128, n / 128 % 128 + 128, n % 128] ++ c) ((a.length : Int) + 0) = n / 16384 + 128 := rd_mid a [n / 16384 + 128, n / 128 % 128 + 128, n % 128] c 0 (by simp)
    have r1 : rd (a ++ [n / 16384 + 128, n / 128 % 128 + 128, n % 128] ++ c) ((a.length : Int) + 1) = n / 128 % 128 + 128 := rd_mid a [n / 16384 + 128, n / 128 % 128 + 128, n % 128] c 1 (by simp)
    have r2 : rd (a ++ [n / 16384 + 128, n / 128 % 128 + 128, n % 128] ++ c) ((a.length : Int) + (1 + 1)) = n % 128 := rd_mid a [n / 16384 + 128, n / 128 % 128 + 128, n % 128] c 2 (by simp)
    have r0' := r0; rw [Int.add_zero] at r0'
    simp only [getFrom, r0, r0', Int.zero_add, r1, r2]
    rw [if_neg (by simp; omega), if_neg (by omega), if_neg (by simp; omega), if_neg (by omega), if_neg (by simp; omega), if_pos (by omega), if_neg (by omega), if_neg (by omega)]
    simp; omega
  rw [if_neg c3]
  by_cases c4 : n < 268435456
  · rw [if_pos c4]
    have r0 : rd (a ++ [n / 2097152 + 128, n / 16384 % 128 + 128, n / 128 % 128 + 128, n % 128] ++ c) ((a.length : Int) + 0) = n / 2097152 + 128 := rd_mid a [n / 2097152 + 128, n / 16384 % 128 + 128, n / 128 % 128 + 128, n % 128] c 0 (by simp)
    have r1 : rd (a ++ [n / 2097152 + 128, n / 16384 % 128 + 128, n / 128 % 128 + 128, n % 128] ++ c) ((a.length : Int) + 1) = n / 16384 % 128 + 128 := rd_mid a [n / 2097152 + 128, n / 16384 % 128 + 128, n / 128 % 128 + 128, n % 128] c 1 (by simp)
    have r2 : rd (a ++ [n / 2097152 + 128, n / 16384 % 128 + 128, n / 128 % 128 + 128, n % 128] ++ c) ((a.length : Int) + (1 + 1)) = n / 128 % 128 + 128 := rd_mid a [n / 2097152 + 128, n / 16384 % 128 + 128, n / 128 % 128 + 128, n % 128] c 2 (by simp)
    have r3 : rd (a ++ [n / 2097152 + 128, n / 16384 % 128 + 128, n / 128 % 128 + 128, n % 128] ++ c) ((a.length : Int) + (1 + 1 + 1)) = n % 128 := rd_mid a [n / 2097152 + 128, n / 16384 % 128 + 128, n / 128 % 128 + 128, n % 128] c 3 (by simp)
    have r0' := r0; rw [Int.add_zero] at r0'
    simp only [getFrom, r0, r0', Int.zero_add, r1, r2, r3]
    rw [if_neg (by simp; omega), if_neg (by omega), if_neg (by simp; omega), if_neg (by omega), if_neg (by simp; omega), if_neg (by omega), if_neg (by simp; omega), if_pos (by omega), if_neg (by omega), if_neg (by omega)]
    simp; omega
  rw [if_neg c4]
  have r0 : rd (a ++ [n / 268435456 + 128, n / 2097152 % 128 + 128, n / 16384 % 128 + 128, n / 128 % 128 + 128, n % 128] ++ c) ((a.length : Int) + 0) = n / 268435456 + 128 := rd_mid a [n / 268435456 + 128, n / 2097152 % 128 + 128, n / 16384 % 128 + 128, n / 128 % 128 + 128, n % 128] c 0 (by simp)
  have r1 : rd (a ++ [n / 268435456 + 128, n / 2097152 % 128 + 128, n / 16384 % 128 + 128, n / 128 % 128 + 128, n % 128] ++ c) ((a.length : Int) + 1) = n / 2097152 % 128 + 128 := rd_mid a [n / 268435456 + 128, n / 2097152 % 128 + 128, n / 16384 % 128 + 128, n / 128 % 128 + 128, n % 128] c 1 (by simp)
  have r2 : rd (a ++ [n / 268435456 + 128, n / 2097152 % 128 + 128, n / 16384 % 128 + 128, n / 128 % 128 + 128, n % 128] ++ c) ((a.length : Int) + (1 + 1)) = n / 16384 % 128 + 128 := rd_mid a [n / 268435456 + 128, n / 2097152 % 128 + 128, n / 16384 % 128 + 128, n / 128 % 128 + 128, n % 128] c 2 (by simp)
  have r3 : rd (a ++ [n / 268435456 + 128, n / 2097152 % 128 + 128, n / 16384 % 128 + 128, n / 128 % 128 + 128, n % 128] ++ c) ((a.length : Int) + (1 + 1 + 1)) = n / 128 % 128 + 128 := rd_mid a [n / 268435456 + 128, n / 2097152 % 128 + 128, n / 16384 % 128 + 128, n / 128 % 128 + 128, n % 128] c 3 (by simp)
  have r4 : rd (a ++ [n / 268435456 + 128, n / 2097152 % 128 + 128, n / 16384 % 128 + 128, n / 128 % 128 + 128, n % 128] ++ c) ((a.length : Int) + (1 + 1 + 1 + 1)) = n % 128 := rd_mid a [n / 268435456 + 128, n / 2097152 % 128 + 128, n / 16384 % 128 + 128, n / 128 % 128 + 128, n % 128] c 4 (by simp)
  have r0' := r0; rw [Int.add_zero] at r0'
  simp only [getFrom, r0, r0', Int.zero_add, r1, r2, r3, r4]
  rw [if_neg (by simp; omega), if_neg (by omega), if_neg (by simp; omega), if_neg (by omega), if_neg (by simp; omega), if_neg (by omega), if_neg (by simp; omega), if_neg (by omega), if_neg (by simp; omega), if_pos (by omega), if_neg (by omega), if_neg (by omega)]
  simp; omega
theorem sizeBytes_bytes (n : Int) (h : 0 ≤ n) (h2 : n ≤ 2147483647) : Bytes (sizeBytes n) := by
  unfold sizeBytes Bytes
  by_cases c1 : n < 128
  · rw [if_pos c1]; intro x hx; simp at hx; omega
  rw [if_neg c1]
  by_cases c2 : n < 16384
  · rw [if_pos c2]; intro x hx; simp at hx; omega
  rw [if_neg c2]
  by_cases c3 : n < 2097152
  · rw [if_pos c3]; intro x hx; simp at hx; omega
  rw [if_neg c3]
  by_cases c4 : n < 268435456
  · rw [if_pos c4]; intro x hx; simp at hx; omega
  rw [if_neg c4]
  intro x hx; simp at hx; omega
/-- The number that a size stands for. -/
def signedOf (n : Int) : Int := if n % 2 = 1 then -((n + 1) / 2) else n / 2
theorem tdiv_neg (n : Int) (h : 0 ≤ n) (h2 : n % 2 = 0) : Int.tdiv (-n) 2 = -(n / 2) := by
  obtain ⟨m, rfl⟩ : ∃ m, n = 2 * m := ⟨n / 2, by omega⟩
  rw [Int.neg_tdiv, Int.tdiv_eq_ediv_of_nonneg h]
theorem getFrom_range (l : List Int) (hl : Bytes l) (at' : Int) (h0 : 0 ≤ at') : ∀ (d : Nat) (n i : Int), 0 ≤ i → 0 ≤ n → 0 ≤ (getFrom l at' d n i).1 ∧ (getFrom l at' d n i).1 ≤ 2147483647 ∧ ((getFrom l at' d n i).2.2 ≠ 0 → (getFrom l at' d n i).1 = 0 ∧ (getFrom l at' d n i).2.1 = 0)
  | 0, n, i, hi, hn => by simp [getFrom]
  | d + 1, n, i, hi, hn => by
    unfold getFrom
    by_cases c1 : at' + i ≥ l.length
    · rw [if_pos c1]; simp
    rw [if_neg c1]
    have hb := bytes_rdI hl (i := at' + i) (by omega) (by omega)
    by_cases c2 : rd l (at' + i) < 128
    · rw [if_pos c2]
      split
      · simp
      split
      · simp
      · exact ⟨by show 0 ≤ n * 128 + rd l (at' + i) % 128; omega, by show n * 128 + rd l (at' + i) % 128 ≤ _; omega, by simp⟩
    · rw [if_neg c2]
      exact getFrom_range l hl at' h0 d _ _ (by omega) (by omega)
/-- What GetSize tells. -/
def getSize (l : List Int) (at' : Int) : Int × Int × Int := if at' < 0 ∨ at' > l.length then (0, 0, 2) else getFrom l at' 5 0 0
theorem getSize_range (l : List Int) (hl : Bytes l) (at' : Int) : 0 ≤ (getSize l at').1 ∧ (getSize l at').1 ≤ 2147483647 ∧ ((getSize l at').2.2 ≠ 0 → (getSize l at').1 = 0 ∧ (getSize l at').2.1 = 0) := by
  unfold getSize
  split
  · simp
  · exact getFrom_range l hl at' (by omega) 5 0 0 (by omega) (by omega)
theorem bits_GetSigned_ev (l : List Int) (hl : Bytes l) (hn : l.length ≤ 140737488351232) (at' : Int) : Ev (fun k => bits_GetSigned.f k l at') (signedOf (getSize l at').1, (getSize l at').2.1, (getSize l at').2.2) := by
  unfold bits_GetSigned.f
  have hr := getSize_range l hl at'
  refine ev_bind (bits_GetSize_ev l hl hn at') ?_
  change Ev (fun n => if Int.tmod (getSize l at').1 2 = 1 then some (wrap64 (Int.tdiv (wrap64 (-wrap64 ((getSize l at').1 + 1))) 2), (getSize l at').2.1, (getSize l at').2.2) else some (wrap64 (Int.tdiv (getSize l at').1 2), (getSize l at').2.1, (getSize l at').2.2)) _
  simp (disch := omega) only [wrap_id, tmod_id, tdiv_id]
  by_cases c : (getSize l at').1 % 2 = 1
  · refine ev_eq (ev_pos c (Ev.now _)) ?_
    rw [tdiv_neg _ (by omega) (by omega), wrap_id (by omega) (by omega)]
    unfold signedOf
    rw [if_pos c]
  · refine ev_eq (ev_neg c (Ev.now _)) ?_
    unfold signedOf
    rw [if_neg c]
theorem ref_GetSize_loop (l : List Int) (hl : Bytes l) (hn : l.length ≤ 140737488351232) (at' : Int) (h0 : 0 ≤ at') (h1 : at' ≤ l.length) : ∀ (d : Nat) (n i : Int), i + d = 5 → 0 ≤ i → 0 ≤ n → n < 128 ^ i.toNat →
    Ev (fun k => incunableref01_GetSize.l0 k l at' n i) (getFrom l at' d n i)
  | 0, n, i, hd, hi, hn0, hn1 => by
    refine ev_succ ?_
    simp only [incunableref01_GetSize.l0]
    exact ev_neg (by omega) (Ev.now _)
  | d + 1, n, i, hd, hi, hn0, hn1 => by
    have hp : (128 : Int) ^ i.toNat ≤ 128 ^ 4 := by
      have : i.toNat ≤ 4 := by omega
      exact_mod_cast Nat.pow_le_pow_right (by omega) this
    have hp5 : (128 : Int) ^ 4 = 268435456 := by decide
    refine ev_succ ?_
    simp only [incunableref01_GetSize.l0, getFrom]
    refine ev_pos (by omega) ?_
    simp (disch := omega) only [wrap_id, tmod_id]
    rw [Int.mul_comm 128 n]
    by_cases c1 : at' + i ≥ l.length
    · rw [if_pos c1]; exact ev_pos c1 (Ev.now _)
    rw [if_neg c1]
    refine ev_neg c1 (ev_pos (by omega) (ev_pos (by omega) ?_))
    have hb := bytes_rdI hl (i := at' + i) (by omega) (by omega)
    simp (disch := omega) only [wrap_id, tmod_id]
    by_cases c2 : rd l (at' + i) < 128
    · rw [if_pos c2]
      refine ev_pos c2 ?_
      by_cases c3 : n * 128 + rd l (at' + i) % 128 > 2147483647
      · exact ev_eq (ev_pos c3 (Ev.now _)) (by rw [if_pos c3])
      refine ev_neg c3 ?_
      by_cases c4 : i > 0
      · refine ev_pos c4 (ev_pos (by omega) (ev_pos (by omega) ?_))
        by_cases c5 : rd l at' = 128
        · exact ev_eq (ev_pos c5 (Ev.now _)) (by rw [if_neg c3, if_pos ⟨c4, c5⟩])
        · exact ev_eq (ev_neg c5 (Ev.now _)) (by rw [if_neg c3, if_neg (fun h => c5 h.2)])
      · exact ev_eq (ev_neg c4 (Ev.now _)) (by rw [if_neg c3, if_neg (fun h => c4 h.1)])
    · rw [if_neg c2]
      refine ev_neg c2 ?_
      refine ref_GetSize_loop l hl hn at' h0 h1 d _ _ (by omega) (by omega) (by omega) ?_
      rw [show (i + 1).toNat = i.toNat + 1 by omega, Int.pow_succ]
      omega
theorem ref_GetSize_ev (l : List Int) (hl : Bytes l) (hn : l.length ≤ 140737488351232) (at' : Int) : Ev (fun k => incunableref01_GetSize.f k l at') (getSize l at') := by
  unfold incunableref01_GetSize.f getSize
  by_cases c : at' < 0
  · rw [if_pos (.inl c)]
    refine ev_pos c (ev_succ ?_)
    simp only [incunableref01_GetSize.j0]
    exact ev_pos (by simp) (Ev.now _)
  · refine ev_neg c (ev_succ ?_)
    by_cases c' : at' > l.length
    · rw [if_pos (.inr c')]
      simp only [incunableref01_GetSize.j0]
      exact ev_pos (by simpa using c') (Ev.now _)
    · rw [if_neg (by simp [c, c'])]
      simp only [incunableref01_GetSize.j0]
      exact ev_neg (by simpa using c') (ref_GetSize_loop l hl hn at' (by omega) (by omega) 5 0 0 (by omega) (by omega) (by omega) (by simp))
theorem ref_GetSigned_ev (l : List Int) (hl : Bytes l) (hn : l.length ≤ 140737488351232) (at' : Int) : Ev (fun k => incunableref01_GetSigned.f k l at') (signedOf (getSize l at').1, (getSize l at').2.1, (getSize l at').2.2) := by
  unfold incunableref01_GetSigned.f
  have hr := getSize_range l hl at'
  refine ev_bind (ref_GetSize_ev l hl hn at') ?_
  by_cases e : (getSize l at').2.2 = 0
  · refine ev_pos e ?_
    simp (disch := omega) only [wrap_id, tmod_id, tdiv_id]
    by_cases c : (getSize l at').1 % 2 = 1
    · refine ev_eq (ev_pos c (Ev.now _)) ?_
      rw [tdiv_neg _ (by omega) (by omega), wrap_id (by omega) (by omega)]
      unfold signedOf
      rw [if_pos c, e]
    · refine ev_eq (ev_neg c (Ev.now _)) ?_
      unfold signedOf
      rw [if_neg c, e]
  · refine ev_eq (ev_neg e (Ev.now _)) ?_
    rw [(hr.2.2 e).1, (hr.2.2 e).2]
    simp [signedOf]
theorem cut1 (l : List Int) (i : Nat) (h : i + 1 ≤ l.length) : (l.take (i + 1)).drop i = [rd l (i : Int)] := by
  rw [List.drop_take, drop_rd (by omega), Nat.add_sub_cancel_left]; rfl
theorem cut2 (l : List Int) (i : Nat) (h : i + 2 ≤ l.length) : (l.take (i + 2)).drop i = [rd l (i : Int), rd l ((i + 1 : Nat) : Int)] := by
  rw [List.drop_take, drop_rd (by omega), drop_rd (by omega), Nat.add_sub_cancel_left]; rfl
theorem cut3 (l : List Int) (i : Nat) (h : i + 3 ≤ l.length) : (l.take (i + 3)).drop i = [rd l (i : Int), rd l ((i + 1 : Nat) : Int), rd l ((i + 1 + 1 : Nat) : Int)] := by
  rw [List.drop_take, drop_rd (by omega), drop_rd (by omega), drop_rd (by omega), Nat.add_sub_cancel_left]; rfl
theorem cut4 (l : List Int) (i : Nat) (h : i + 4 ≤ l.length) : (l.take (i + 4)).drop i = [rd l (i : Int), rd l ((i + 1 : Nat) : Int), rd l ((i + 1 + 1 : Nat) : Int), rd l ((i + 1 + 1 + 1 : Nat) : Int)] := by
  rw [List.drop_take, drop_rd (by omega), drop_rd (by omega), drop_rd (by omega), drop_rd (by omega), Nat.add_sub_cancel_left]; rfl
theorem cut5 (l : List Int) (i : Nat) (h : i + 5 ≤ l.length) : (l.take (i + 5)).drop i = [rd l (i : Int), rd l ((i + 1 : Nat) : Int), rd l ((i + 1 + 1 : Nat) : Int), rd l ((i + 1 + 1 + 1 : Nat) : Int), rd l ((i + 1 + 1 + 1 + 1 : Nat) : Int)] := by
  rw [List.drop_take, drop_rd (by omega), drop_rd (by omega), drop_rd (by omega), drop_rd (by omega), drop_rd (by omega), Nat.add_sub_cancel_left]; rfl
theorem getFrom_back (l : List Int) (hl : Bytes l) (a : Nat) (n next : Int) (h : getFrom l (a : Int) 5 0 0 = (n, next, 0)) : (a : Int) ≤ next ∧ next ≤ l.length ∧ (l.take next.toNat).drop a = sizeBytes n := by
  simp only [getFrom, Int.zero_mul, Int.zero_add, Int.add_zero] at h
  by_cases e0 : (a : Int) ≥ l.length
  · rw [if_pos e0] at h; simp at h
  rw [if_neg e0] at h
  have b0 := bytes_rdI hl (i := (a : Int)) (by omega) (by omega)
  by_cases c0 : rd l (a : Int) < 128
  · rw [if_pos c0, if_neg (by omega), if_neg (by omega)] at h
    simp only [Prod.mk.injEq] at h
    obtain ⟨rfl, rfl, _⟩ := h
    rw [show ((a : Int) + 1).toNat = a + 1 by omega, cut1 l a (by omega)]
    refine ⟨by omega, by omega, ?_⟩
    unfold sizeBytes
    rw [if_pos (by omega)]
    congr 1
    omega
  rw [if_neg c0] at h
  by_cases e1 : (a : Int) + 1 ≥ l.length
  · rw [if_pos e1] at h; simp at h
  rw [if_neg e1] at h
  have b1 := bytes_rdI hl (i := (a : Int) + 1) (by omega) (by omega)
  have h00 : ∀ x : Int, ¬ (x > 0 ∧ False) := fun x h => h.2
  by_cases c1 : rd l ((a : Int) + 1) < 128
  · rw [if_pos c1, if_neg (by omega)] at h
    by_cases z : rd l (a : Int) = 128
    · rw [if_pos ⟨by omega, z⟩] at h; simp at h
    rw [if_neg (fun h => z h.2)] at h
    simp only [Prod.mk.injEq] at h
    obtain ⟨rfl, rfl, _⟩ := h
    rw [show ((a : Int) + 1 + 1).toNat = a + 2 by omega, cut2 l a (by omega)]
    refine ⟨by omega, by omega, ?_⟩
    unfold sizeBytes
    rw [if_neg (by omega), if_pos (by omega)]
    simp only [Int.natCast_add, Int.natCast_one, List.cons.injEq]
    refine ⟨by omega, by omega, trivial⟩
  rw [if_neg c1] at h
  by_cases e2 : (a : Int) + (1 + 1) ≥ l.length
  · rw [if_pos e2] at h; simp at h
  rw [if_neg e2] at h
  have b2 := bytes_rdI hl (i := (a : Int) + (1 + 1)) (by omega) (by omega)
  by_cases c2 : rd l ((a : Int) + (1 + 1)) < 128
  · rw [if_pos c2, if_neg (by omega)] at h
    by_cases z : rd l (a : Int) = 128
    · rw [if_pos ⟨by omega, z⟩] at h; simp at h
    rw [if_neg (fun h => z h.2)] at h
    simp only [Prod.mk.injEq] at h
    obtain ⟨rfl, rfl, _⟩ := h
    rw [show ((a : Int) + (1 + 1) + 1).toNat = a + 3 by omega, cut3 l a (by omega)]
    refine ⟨by omega, by omega, ?_⟩
    unfold sizeBytes
    rw [if_neg (by omega), if_neg (by omega), if_pos (by omega)]
    simp only [Int.natCast_add, Int.natCast_one, List.cons.injEq, Int.add_assoc]
    refine ⟨by omega, by omega, by omega, trivial⟩
  rw [if_neg c2] at h
  by_cases e3 : (a : Int) + (1 + 1 + 1) ≥ l.length
  · rw [if_pos e3] at h; simp at h
  rw [if_neg e3] at h
  have b3 := bytes_rdI hl (i := (a : Int) + (1 + 1 + 1)) (by omega) (by omega)
  by_cases c3 : rd l ((a : Int) + (1 + 1 + 1)) < 128
  · rw [if_pos c3, if_neg (by omega)] at h
    by_cases z : rd l (a : Int) = 128
    · rw [if_pos ⟨by omega, z⟩] at h; simp at h
    rw [if_neg (fun h => z h.2)] at h
    simp only [Prod.mk.injEq] at h
    obtain ⟨rfl, rfl, _⟩ := h
    rw [show ((a : Int) + (1 + 1 + 1) + 1).toNat = a + 4 by omega, cut4 l a (by omega)]
    refine ⟨by omega, by omega, ?_⟩
    unfold sizeBytes
    rw [if_neg (by omega), if_neg (by omega), if_neg (by omega), if_pos (by omega)]
    simp only [Int.natCast_add, Int.natCast_one, List.cons.injEq, Int.add_assoc] at *
    refine ⟨by omega, by omega, by omega, by omega, trivial⟩
  rw [if_neg c3] at h
  by_cases e4 : (a : Int) + (1 + 1 + 1 + 1) ≥ l.length
  · rw [if_pos e4] at h; simp at h
  rw [if_neg e4] at h
  have b4 := bytes_rdI hl (i := (a : Int) + (1 + 1 + 1 + 1)) (by omega) (by omega)
  by_cases c4 : rd l ((a : Int) + (1 + 1 + 1 + 1)) < 128
  · rw [if_pos c4] at h
    by_cases y : ((((rd l (a : Int) % 128) * 128 + rd l ((a : Int) + 1) % 128) * 128 + rd l ((a : Int) + (1 + 1)) % 128) * 128 + rd l ((a : Int) + (1 + 1 + 1)) % 128) * 128 + rd l ((a : Int) + (1 + 1 + 1 + 1)) % 128 > 2147483647
    · rw [if_pos y] at h; simp at h
    rw [if_neg y] at h
    by_cases z : rd l (a : Int) = 128
    · rw [if_pos ⟨by omega, z⟩] at h; simp at h
    rw [if_neg (fun h => z h.2)] at h
    simp only [Prod.mk.injEq] at h
    obtain ⟨rfl, rfl, _⟩ := h
    rw [show ((a : Int) + (1 + 1 + 1 + 1) + 1).toNat = a + 5 by omega, cut5 l a (by omega)]
    refine ⟨by omega, by omega, ?_⟩
    unfold sizeBytes
    rw [if_neg (by omega), if_neg (by omega), if_neg (by omega), if_neg (by omega)]
    simp only [Int.natCast_add, Int.natCast_one, List.cons.injEq, Int.add_assoc] at *
    refine ⟨by omega, by omega, by omega, by omega, by omega, trivial⟩
  · rw [if_neg c4] at h; simp at h
set_option maxHeartbeats 4000000 in
theorem walk (w : World) (A0 : Option Addr) (c0 : Nat) (b : List Int) (hC0 : Kd.C (Kd.int .u8) w A0 b.length b) (hc0 : b.length ≤ c0) (y0 : b.length * 1 ≤ 140737488351232) (hw0 : ∀ x ∈ b, (Lit.int .u8 x).wf = true)
    (at' : Int) (hw1 : (Lit.int .i64 at').wf = true) :
    Calls Try.prog 8 #[.slice A0 b.length c0, .int .i64 at'] w fun e w' => e = .returned (.bool true) ∧ Below w.heap.size w w' := by
  have hb := bytes_of hw0
  obtain ⟨k, hsane⟩ := Ev.rounds sane_ev
  have hS := Aside0.mk hsane
  have HC0 := Aside0.mk hC0
  clear hsane hC0 hw0
  by_cases hL : 2000 < b.length
  · have hlong := Aside0.mk (long_yes b hL)
    go_enter Try.func8, Try.ntmps8
    go_wp2_with (first
      | (go_at_call 11; with_reducible refine (incunablelaw01_Long.calls A0 c0 b true _ HC0.out hc0 hlong.out).mono ?_; rintro e w' ⟨rfl, ⟨⟨m, rfl⟩⟩⟩)
      | (go_at_call 12; with_reducible refine (incunablelaw01_Sane.calls k true _ hS.out).mono ?_; rintro e w2 ⟨rfl, hb⟩; have HB2 := Aside0.mk hb; clear hb))
    go_ret
    exact ⟨rfl, below_undrew HB2.out⟩
  have hlong := Aside0.mk (long_no b (by omega))
  have hr := getSize_range b hb at'
  have hq : ∀ n next, getSize b at' = (n, next, 0) → 0 ≤ at' ∧ at' ≤ next ∧ next ≤ b.length ∧ (b.take next.toNat).drop at'.toNat = sizeBytes n := by
    intro n next h
    unfold getSize at h
    by_cases c : at' < 0 ∨ at' > b.length
    · rw [if_pos c] at h; simp at h
    rw [if_neg c] at h
    obtain ⟨a, rfl⟩ : ∃ a : Nat, at' = (a : Int) := ⟨at'.toNat, by omega⟩
    have := getFrom_back b hb a n next h
    exact ⟨by omega, this.1, this.2.1, by simpa using this.2.2⟩
  have hg : Ev (fun k => bits_GetSize.f k b at') (getSize b at') := bits_GetSize_ev b hb (by omega) at'
  obtain ⟨k1, q1⟩ := Ev.rounds hg
  obtain ⟨k2, q2⟩ := Ev.rounds (bits_GetSigned_ev b hb (by omega) at')
  obtain ⟨k3, q3⟩ := Ev.rounds (ref_GetSigned_ev b hb (by omega) at')
  obtain ⟨k4, q4⟩ := Ev.rounds (ref_GetSize_ev b hb (by omega) at')
  clear hg
  generalize getSize b at' = g at *
  obtain ⟨n, next, e⟩ := g
  obtain ⟨k5, q5⟩ : ∃ k, bits_Size.f k n = some (sizeBytes n, 0) := Ev.rounds (bits_Size_ev n hr.1 hr.2.1)
  have H1 := Aside0.mk q1
  have H2 := Aside0.mk q2
  have H3 := Aside0.mk q3
  have H4 := Aside0.mk q4
  have H5 := Aside0.mk q5
  clear q1 q2 q3 q4 q5
  by_cases he : e = 0
  · subst he
    obtain ⟨h1, h2, h3, h4⟩ := hq n next rfl
    have H6 := Aside0.mk h4
    clear h4 hq hr
    obtain ⟨A9, c9, hcut, hc9, hC9⟩ := cutU8 A0 b.length c0 at' next h1 h2 h3 hc0
    have hlen : (sizeBytes n).length = next.toNat - at'.toNat := by rw [← H6.out]; simp; omega
    have HC9' : Aside0 (∀ w1, Below w.heap.size w w1 → Kd.C (Kd.int .u8) w1 A9 (sizeBytes n).length (sizeBytes n)) := ⟨fun w1 hB => by
      have h := hC9 w1 b rfl (Kd.C_below HC0.out hB)
      rw [H6.out, ← hlen] at h
      exact h⟩
    have HLEN := Aside0.mk hlen
    have hlen2 : (sizeBytes n).length ≤ c9 := by omega
    have HL2 := Aside0.mk hlen2
    clear hC9 hlen hlen2
    go_enter Try.func8, Try.ntmps8
    go_wp2_with (first
      | (go_at_call 11; with_reducible refine (incunablelaw01_Long.calls A0 c0 b false _ HC0.out hc0 hlong.out).mono ?_; rintro e w' ⟨rfl, ⟨⟨m, rfl⟩⟩⟩)
      | (go_at_call 19; refine (bits_GetSize.calls k1 A0 c0 b at' _ _ _ _ (Kd.C_drewN HC0.out _) hc0 H1.out).mono ?_; rintro e w' ⟨rfl, ⟨⟨m1, rfl⟩⟩⟩)
      | (go_at_call 28; refine (incunableref01_GetSize.calls k4 A0 c0 b at' _ _ _ _ (Kd.C_drewN HC0.out _) hc0 H4.out).mono ?_; rintro e w' ⟨rfl, ⟨⟨m2, rfl⟩⟩⟩)
      | (go_at_call 27; refine (bits_GetSigned.calls k2 A0 c0 b at' _ _ _ _ (Kd.C_drewN HC0.out _) hc0 H2.out).mono ?_; rintro e w' ⟨rfl, ⟨⟨m3, rfl⟩⟩⟩)
      | (go_at_call 29; refine (incunableref01_GetSigned.calls k3 A0 c0 b at' _ _ _ _ (Kd.C_drewN HC0.out _) hc0 H3.out).mono ?_; rintro e w' ⟨rfl, ⟨⟨m4, rfl⟩⟩⟩)
      | (go_at_call 16; refine (bits_Size.calls k5 n _ _ _ H5.out).mono ?_; rintro e w1 ⟨v, rfl, hR, hB⟩; obtain ⟨A1, c1, rfl⟩ := Kd.R_slice hR; have HR := Aside0.mk hR; have HB1 := Aside0.mk (below_undrew hB); clear hR hB)
      | (go_at_call 18; refine (same_calls A1 c1 A9 c9 (sizeBytes n) _ _ _ rfl HLEN.out.symm (Kd.R_reads' HR.out).2.2 (Kd.R_reads' HR.out).2.1 (HC9'.out _ HB1.out) HL2.out).mono ?_; rintro e w' ⟨rfl, ⟨⟨m5, rfl⟩⟩⟩)
      | (go_at_call 12; with_reducible refine (incunablelaw01_Sane.calls k true _ hS.out).mono ?_; rintro e w2 ⟨rfl, hb⟩; have HB2 := Aside0.mk (below_undrew hb); clear hb))
    go_ret
    exact ⟨rfl, below_then HB1.out HB1.out.size HB2.out⟩
  · clear hq hr
    go_enter Try.func8, Try.ntmps8
    go_wp2_with (first
      | (go_at_call 11; with_reducible refine (incunablelaw01_Long.calls A0 c0 b false _ HC0.out hc0 hlong.out).mono ?_; rintro e w' ⟨rfl, ⟨⟨m, rfl⟩⟩⟩)
      | (go_at_call 19; refine (bits_GetSize.calls k1 A0 c0 b at' _ _ _ _ (Kd.C_drewN HC0.out _) hc0 H1.out).mono ?_; rintro e w' ⟨rfl, ⟨⟨m1, rfl⟩⟩⟩)
      | (go_at_call 28; refine (incunableref01_GetSize.calls k4 A0 c0 b at' _ _ _ _ (Kd.C_drewN HC0.out _) hc0 H4.out).mono ?_; rintro e w' ⟨rfl, ⟨⟨m2, rfl⟩⟩⟩)
      | (go_at_call 27; refine (bits_GetSigned.calls k2 A0 c0 b at' _ _ _ _ (Kd.C_drewN HC0.out _) hc0 H2.out).mono ?_; rintro e w' ⟨rfl, ⟨⟨m3, rfl⟩⟩⟩)
      | (go_at_call 29; refine (incunableref01_GetSigned.calls k3 A0 c0 b at' _ _ _ _ (Kd.C_drewN HC0.out _) hc0 H3.out).mono ?_; rintro e w' ⟨rfl, ⟨⟨m4, rfl⟩⟩⟩)
      | (go_at_call 12; with_reducible refine (incunablelaw01_Sane.calls k true _ hS.out).mono ?_; rintro e w2 ⟨rfl, hb⟩; have HB2 := Aside0.mk (below_undrew hb); clear hb))
    go_ret
    exact ⟨rfl, HB2.out⟩
open Go.ChangeShapes Go.WideShapes Go.ChangeAt
open Go.ChangeMaps (open_string shut_string)
theorem own : ownKnob Try.prog.godebug = none := by kernel_rfl
theorem laidOut : laidOutB Try.prog = true := by kernel_rfl
def IsRow (k : IntKind) (w : World) (a : Option Addr) (len cap : Nat) (zs : List Int) : Prop :=
  (a = none ∧ len = 0 ∧ cap = 0 ∧ zs = []) ∨
  ∃ x, a = some x ∧ len ≤ cap ∧ cap ≤ maxLen ∧ zs.length = cap ∧ (∀ i, i < zs.length → w.cell? (x.add i) = some (.int k (zs.getD i 0))) ∧ ∀ n ∈ zs, (Lit.int k n).wf = true
set_option maxRecDepth 100000 in
theorem lifted (os : Os) (started : os.Started) (H : Type) (enc : TypeId × Value → H) :
    ReturnsInHanded {} Try.checked os 8 .any (Rows.bitsGetsSpec.pre6 enc Try.prog Try.f8 Rows.bitsGetsRow.domain false) (Rows.bitsGetsSpec.post enc Try.prog Try.f8 false true false false) := by
  refine returnsInHanded_of_change_sized (C := Try.checked) own started (by kernel_rfl) Try.func8
    (ChangeSpec.witness6 (enc := enc) (C := Try.checked) false ⟨#[], #[.slice none 0 0, .int .i64 0], []⟩ 8 (by kernel_rfl) (by kernel_rfl) (by kernel_rfl) (by kernel_rfl)) ?_
  intro W base args ds gs before hval0 hW hcnd hsz0 _
  have hsz : (DataW.weightsEach Try.prog (Try.f8.params.toList ++ Rows.bitsGetsSpec.plain.varTypes Try.prog) (ds ++ gs)).all (· ≤ reachBytes) = true := hsz0
  have hval : ∀ (j : Nat) t v, Try.f8.params[j]? = some t → args[j]? = some v → Value.okWide Try.prog W .any base t v := hval0
  have hW' := hW
  obtain ⟨p, q, hA0, hV, rfl, hfz, hnd⟩ := hW
  have hA : DataW.TrodAll enc Try.prog W 0 (fun _ => true) true Try.f8.params.toList args.toList ds p := hA0
  rw [Try.params8] at hA hval hsz
  obtain ⟨v0, vs0, d0, ds0, p0, q0, hargs, rfl, rfl, h0, r0⟩ := trodAll_cons hA
  obtain ⟨v1, vs1, d1, ds1, p1, q1, rfl, rfl, rfl, h1, r1⟩ := trodAll_cons r0
  obtain ⟨rfl, rfl, rfl⟩ := trodAll_nil r1
  obtain rfl : args = #[v0, v1] := by cases args; simp_all
  obtain ⟨rfl, rfl⟩ := trodVars_none hV
  obtain ⟨a0, len0, cap0, rfl⟩ := okWide_slice Try.underlying22 (hval 0 22 v0 rfl rfl)
  have k0 := h0
  have lt0 : ∀ x ∈ p0, x.block < W.heap.size := by obtain ⟨m, hm⟩ := k0; exact DataW.trod_lt m _ _ _ hm
  obtain ⟨z0, w0⟩ : ∃ zs, IsRow .u8 W a0 len0 cap0 zs := by
    obtain ⟨fuel, hf⟩ := h0
    rcases open_ints Try.underlying22 Try.underlying5 (by kernel_rfl) hf with ⟨hcs, _⟩ | ⟨x, l, c, zs, hcs, _, hl, hm, hz, _, hcell, hwz⟩
    · simp [Value.cells] at hcs
      obtain ⟨rfl, rfl, rfl⟩ := hcs
      exact ⟨[], .inl ⟨rfl, rfl, rfl, rfl⟩⟩
    · simp [Value.cells] at hcs
      obtain ⟨rfl, rfl, rfl⟩ := hcs
      exact ⟨zs, .inr ⟨_, rfl, hl, hm, by simpa using hz, hcell, hwz⟩⟩
  have y0 : len0 * 1 ≤ 140737488351232 := sized_ints hsz (j := 0) (t := 22) rfl rfl Try.underlying22 Try.underlying5 (by kernel_rfl) (by kernel_rfl) h0
  obtain ⟨l0, rfl, hr0, hm0, hw0, hc0⟩ := ReadsInt.ofRowC w0
  obtain ⟨a1, rfl, rfl, rfl, w1⟩ := open_int Try.underlying3 (hval 1 3 v1 rfl rfl) h1
  clear hA0 hval0 hsz0 hsz
  refine (walk W _ _ l0 (Kd.C_of_reads (d := (0 : Int)) (h1 := fun _ => rfl) hr0) hc0 y0 hw0 a1 w1).mono fun e W' ⟨he, bel⟩ => ?_
  subst he
  exact ⟨_, rfl, _, _, _, [], _, [], hW', trodAll_mk1 (shut_bool Try.underlying4 _), (trodAll_cons_mk (Below.trod laidOut (by kernel_rfl) (of_decide_eq_true (by kernel_rfl)) k0 bel lt0) (trodAll_cons_mk (shut_int Try.underlying3 w1) trodAll_mk0)), rfl, bel.frame _, fun h => by cases h⟩
theorem over : Rows.bitsGetsRow.holds Try.pinned (OpenSpec.ofChange Rows.bitsGetsSpec) :=
  OpenClaim.holds_of_wide 8 Try.f8 rfl rfl rfl rfl rfl rfl rfl ⟨rfl, rfl, rfl, rfl, rfl⟩ rfl rfl rfl rfl rfl (by kernel_rfl) Try.func8 (by kernel_rfl)
    (of_decide_eq_true (by kernel_rfl)) (by unfold Func.isWrapper; first | (rw [if_pos (by decide +kernel)]; kernel_rfl) | (rw [if_neg (by decide +kernel)]; exact ⟨rfl, rfl⟩))
    (fun os started H enc _ => lifted os started H enc)
theorem proved : Rows.BitsGetsSaid := over
#print axioms proved
end Go.Proofs.Ytccahgjcaajpcaa.HandBitsGets
namespace Go.Proofs.Ytccahgjcaajpcaa
/-- The row, under a short name, for the claim. -/
theorem bitsGets_holds : Rows.BitsGetsSaid := HandBitsGets.proved
end Go.Proofs.Ytccahgjcaajpcaa
