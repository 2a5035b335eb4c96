/- Signed returns the reference's bytes, and GetSigned reads them at any offset, whatever stands behind: for every number and all bytes in front and behind. -/
import Derived.Test.YtccahgjcaajpcaaPBitsSignedx2
import Derived.Test.YtccahgjcaajpcaaAid
import Derived.Test.YtccahgjcaajpcaaHandAid
import Derived.Test.YtccahgjcaajpcaaRows
import Derived.WalkKit
import Derived.ProofKit
import Derived.OpenShut
import Derived.ShutString
import Derived.ChangeOld
import Derived.Below
import Derived.SizedLaws
import Derived.Test.YtccahgjcaajpcaaWSized
namespace Go.Proofs.Ytccahgjcaajpcaa.HandBitsSigned
open Go Go.RowKit Go.Proofs.Ytccahgjcaajpcaa.PBitsSigned Go.Proofs.YtccahgjcaajpcaaW.PrintWords Go.Proofs.YtccahgjcaajpcaaW.PrintLast Go.Proofs.YtccahgjcaajpcaaW.PrintMore Go.Proofs.Ytccahgjcaajpcaa.Aid Go.Proofs.Ytccahgjcaajpcaa.HandAid
set_option linter.unusedVariables false
set_option linter.unusedSimpArgs false
def sumFrom (s : Int) : List Int → Int
  | [] => s
  | c :: cs => sumFrom ((s * 31 + c) % 65521) cs
theorem bits_Sum_loop (l : List Int) (hl : Bytes l) (hn : l.length ≤ 140737488351232) : ∀ (d i : Nat) (s : Int), i + d = l.length → 0 ≤ s → s < 65521 → Ev (fun k => bits_Sum.l0 k s l (l.length : Int) (i : Int)) (sumFrom s (l.drop i))
  | 0, i, s, hd, h0, h1 => by
    refine ev_succ ?_
    simp only [bits_Sum.l0]
    refine ev_neg (by omega) ?_
    rw [List.drop_of_length_le (by omega)]
    exact Ev.now _
  | d + 1, i, s, hd, h0, h1 => by
    refine ev_succ ?_
    simp only [bits_Sum.l0]
    refine ev_pos (by omega) (ev_pos (by omega) (ev_pos (by omega) ?_))
    have hb := bytes_rd hl (i := i) (by omega)
    simp (disch := omega) only [wrap_id, tmod_id]
    rw [drop_rd (by omega)]
    exact bits_Sum_loop l hl hn d (i + 1) _ (by omega) (by omega) (by omega)
theorem bits_Sum_ev (l : List Int) (hl : Bytes l) (hn : l.length ≤ 140737488351232) : Ev (fun k => bits_Sum.f k l) (sumFrom 1 l) :=
  bits_Sum_loop l hl hn l.length 0 1 (by omega) (by omega) (by omega)
def sizeBytes (n : Int) : List Int :=
  if n < 128 then [n] else if n < 16384 then [n / 128 + 128, n % 128] else
  if n < 2097152 then [n / 16384 + 128, n / 128 % 128 + 128, n % 128] else
  if n < 268435456 then [n / 2097152 + 128, n / 16384 % 128 + 128, n / 128 % 128 + 128, n % 128] else
  [n / 268435456 + 128, n / 2097152 % 128 + 128, n / 16384 % 128 + 128, n / 128 % 128 + 128, n % 128]
theorem bits_Size_l0_end (n : Int) (acc : List Int) (h : n ≤ 0) : Ev (fun k => bits_Size.l0 k n acc) (acc, 0) := by
  refine ev_succ ?_
  simp only [bits_Size.l0]
  exact ev_neg (by omega) (Ev.now _)
theorem bits_Size_l0_go (n : Int) (acc : List Int) {r} (h : 0 < n) (h2 : n ≤ 2147483647) (ha : acc.length < 100) (hr : Ev (fun k => bits_Size.l0 k (n / 128) ((n % 128 + 128) :: acc)) r) : Ev (fun k => bits_Size.l0 k n acc) r := by
  refine ev_succ ?_
  simp only [bits_Size.l0]
  refine ev_pos (by omega) (ev_some (ev_pos (by simp; omega) ?_))
  simp (disch := omega) only [wrap_id, tmod_id, tdiv_id]
  rw [show (n % 128 % 256 + 128) % 256 = n % 128 + 128 by omega]
  exact hr
theorem bits_Size_ev (n : Int) (h : 0 ≤ n) (h2 : n ≤ 2147483647) : Ev (fun k => bits_Size.f k n) (sizeBytes n, 0) := by
  unfold bits_Size.f
  refine ev_neg (by omega) ?_
  rw [show decide (n > 2147483647) = false by simp; omega]
  refine ev_succ ?_
  simp only [bits_Size.j0]
  refine ev_neg (by simp) ?_
  simp (disch := omega) only [wrap_id, tmod_id, tdiv_id]
  rw [show n % 128 % 256 = n % 128 by omega]
  unfold sizeBytes
  by_cases c1 : n < 128
  · rw [if_pos c1]
    refine ev_eq (bits_Size_l0_end _ _ (by omega)) ?_
    rw [show n % 128 = n by omega]
  rw [if_neg c1]
  refine bits_Size_l0_go _ _ (by omega) (by omega) (by simp) ?_
  by_cases c2 : n < 16384
  · rw [if_pos c2]
    refine ev_eq (bits_Size_l0_end _ _ (by omega)) ?_
    rw [show n / 128 % 128 = n / 128 by omega]
  rw [if_neg c2]
  refine bits_Size_l0_go _ _ (by omega) (by omega) (by simp) ?_
  rw [show n / 128 / 128 = n / 16384 by omega]
  by_cases c3 : n < 2097152
  · rw [if_pos c3]
    refine ev_eq (bits_Size_l0_end _ _ (by omega)) ?_
    rw [show n / 16384 % 128 = n / 16384 by omega]
  rw [if_neg c3]
  refine bits_Size_l0_go _ _ (by omega) (by omega) (by simp) ?_
  rw [show n / 16384 / 128 = n / 2097152 by omega]
  by_cases c4 : n < 268435456
  · rw [if_pos c4]
    refine ev_eq (bits_Size_l0_end _ _ (by omega)) ?_
    rw [show n / 2097152 % 128 = n / 2097152 by omega]
  rw [if_neg c4]
  refine bits_Size_l0_go _ _ (by omega) (by omega) (by simp) ?_
  rw [show n / 2097152 / 128 = n / 268435456 by omega]
  refine ev_eq (bits_Size_l0_end _ _ (by omega)) ?_
  rw [show n / 268435456 % 128 = n / 268435456 by omega]
theorem bits_Size_bad (n : Int) (h : n < 0 ∨ 2147483647 < n) : Ev (fun k => bits_Size.f k n) ([], 2) := by
  unfold bits_Size.f
  by_cases c : n < 0
  · refine ev_pos c (ev_succ ?_)
    simp only [bits_Size.j0]
    exact ev_pos (by simp) (Ev.now _)
  · refine ev_neg c ?_
    rw [show decide (n > 2147483647) = true by simp; omega]
    refine ev_succ ?_
    simp only [bits_Size.j0]
    exact ev_pos (by simp) (Ev.now _)
theorem bits_Signed_ev (n : Int) (h : -1073741824 ≤ n) (h2 : n < 1073741824) : Ev (fun k => bits_Signed.f k n) (sizeBytes (if n < 0 then -2 * n - 1 else 2 * n), 0) := by
  unfold bits_Signed.f
  by_cases c : n < 0
  · refine ev_neg (by omega) (ev_succ ?_)
    simp only [bits_Signed.j0]
    refine ev_neg (by simp) (ev_pos c (ev_pos (by omega) ?_))
    simp (disch := omega) only [wrap_id]
    rw [if_pos c]
    exact ev_bind (bits_Size_ev _ (by omega) (by omega)) (Ev.now _)
  · refine ev_pos (by omega) ?_
    rw [show decide (n < 1073741824) = true by simp; omega]
    refine ev_succ ?_
    simp only [bits_Signed.j0]
    refine ev_pos (by simp) ?_
    simp (disch := omega) only [wrap_id]
    rw [if_neg c]
    exact ev_bind (bits_Size_ev _ (by omega) (by omega)) (Ev.now _)
theorem same_ev {α} {f : Nat → Bool → Option α} {r : α} (a : List Int) (h : Ev (fun k => f k true) r) : Ev (fun k => (incunableref01_SameBytes.f a a).bind (f k)) r := by
  refine ev_pure ?_ h
  unfold incunableref01_SameBytes.f
  rw [same_self]
theorem sane_ev : Ev (fun k => incunablelaw01_Sane.f k) true := by
  unfold incunablelaw01_Sane.f
  refine ev_bind (bits_Size_ev 300 (by omega) (by omega)) ?_
  refine ev_bind (bits_Signed_ev (-1) (by omega) (by omega)) ?_
  refine ev_pos rfl (ev_pos rfl ?_)
  refine same_ev [130, 44] (ev_pos rfl (same_ev [1] (ev_pos rfl ?_)))
  refine ev_bind (bits_Sum_ev [65] (by unfold Bytes; decide) (by decide)) (Ev.now _)
theorem ref_Size_l0_end (n : Int) (acc : List Int) (h : n ≤ 0) : Ev (fun k => incunableref01_Size.l0 k n acc) (acc, 0) := by
  refine ev_succ ?_
  simp only [incunableref01_Size.l0]
  exact ev_neg (by omega) (Ev.now _)
theorem ref_Size_l0_go (n : Int) (acc : List Int) {r} (h : 0 < n) (h2 : n ≤ 2147483647) (ha : acc.length < 100) (hr : Ev (fun k => incunableref01_Size.l0 k (n / 128) ((n % 128 + 128) :: acc)) r) : Ev (fun k => incunableref01_Size.l0 k n acc) r := by
  refine ev_succ ?_
  simp only [incunableref01_Size.l0]
  refine ev_pos (by omega) (ev_some (ev_pos (by simp; omega) ?_))
  simp (disch := omega) only [wrap_id, tmod_id, tdiv_id]
  rw [show (128 + n % 128) % 256 = n % 128 + 128 by omega]
  exact hr
theorem ref_Size_ev (n : Int) (h : 0 ≤ n) (h2 : n ≤ 2147483647) : Ev (fun k => incunableref01_Size.f k n) (sizeBytes n, 0) := by
  unfold incunableref01_Size.f
  refine ev_neg (by omega) ?_
  rw [show decide (n > 2147483647) = false by simp; omega]
  refine ev_succ ?_
  simp only [incunableref01_Size.j0]
  refine ev_neg (by simp) ?_
  simp (disch := omega) only [wrap_id, tmod_id, tdiv_id]
  rw [show n % 128 % 256 = n % 128 by omega]
  unfold sizeBytes
  by_cases c1 : n < 128
  · rw [if_pos c1]
    refine ev_eq (ref_Size_l0_end _ _ (by omega)) ?_
    rw [show n % 128 = n by omega]
  rw [if_neg c1]
  refine ref_Size_l0_go _ _ (by omega) (by omega) (by simp) ?_
  by_cases c2 : n < 16384
  · rw [if_pos c2]
    refine ev_eq (ref_Size_l0_end _ _ (by omega)) ?_
    rw [show n / 128 % 128 = n / 128 by omega]
  rw [if_neg c2]
  refine ref_Size_l0_go _ _ (by omega) (by omega) (by simp) ?_
  rw [show n / 128 / 128 = n / 16384 by omega]
  by_cases c3 : n < 2097152
  · rw [if_pos c3]
    refine ev_eq (ref_Size_l0_end _ _ (by omega)) ?_
    rw [show n / 16384 % 128 = n / 16384 by omega]
  rw [if_neg c3]
  refine ref_Size_l0_go _ _ (by omega) (by omega) (by simp) ?_
  rw [show n / 16384 / 128 = n / 2097152 by omega]
  by_cases c4 : n < 268435456
  · rw [if_pos c4]
    refine ev_eq (ref_Size_l0_end _ _ (by omega)) ?_
    rw [show n / 2097152 % 128 = n / 2097152 by omega]
  rw [if_neg c4]
  refine ref_Size_l0_go _ _ (by omega) (by omega) (by simp) ?_
  rw [show n / 2097152 / 128 = n / 268435456 by omega]
  refine ev_eq (ref_Size_l0_end _ _ (by omega)) ?_
  rw [show n / 268435456 % 128 = n / 268435456 by omega]
theorem ref_Size_bad (n : Int) (h : n < 0 ∨ 2147483647 < n) : Ev (fun k => incunableref01_Size.f k n) ([], 2) := by
  unfold incunableref01_Size.f
  by_cases c : n < 0
  · refine ev_pos c (ev_succ ?_)
    simp only [incunableref01_Size.j0]
    exact ev_pos (by simp) (Ev.now _)
  · refine ev_neg c ?_
    rw [show decide (n > 2147483647) = true by simp; omega]
    refine ev_succ ?_
    simp only [incunableref01_Size.j0]
    exact ev_pos (by simp) (Ev.now _)
theorem bits_Signed_bad (n : Int) (h : n < -1073741824 ∨ 1073741824 ≤ n) : Ev (fun k => bits_Signed.f k n) ([], 2) := by
  unfold bits_Signed.f
  by_cases c : n < 0
  · refine ev_neg (by omega) (ev_succ ?_)
    simp only [bits_Signed.j0]
    exact ev_neg (by simp) (ev_pos c (ev_neg (by omega) (Ev.now _)))
  · refine ev_pos (by omega) ?_
    rw [show decide (n < 1073741824) = false by simp; omega]
    refine ev_succ ?_
    simp only [bits_Signed.j0]
    exact ev_neg (by simp) (ev_neg c (Ev.now _))
theorem ref_Signed_ev (n : Int) (h : -1073741824 ≤ n) (h2 : n < 1073741824) : Ev (fun k => incunableref01_Signed.f k n) (sizeBytes (if n < 0 then -2 * n - 1 else 2 * n), 0) := by
  unfold incunableref01_Signed.f
  refine ev_neg (by omega) ?_
  rw [show decide (n ≥ 1073741824) = false by simp; omega]
  refine ev_succ ?_
  simp only [incunableref01_Signed.j0]
  refine ev_neg (by simp) ?_
  simp (disch := omega) only [wrap_id]
  by_cases c : n < 0
  · rw [if_pos c]
    exact ev_pos c (ev_bind (ref_Size_ev _ (by omega) (by omega)) (Ev.now _))
  · rw [if_neg c]
    exact ev_neg c (ev_bind (ref_Size_ev _ (by omega) (by omega)) (Ev.now _))
theorem ref_Signed_bad (n : Int) (h : n < -1073741824 ∨ 1073741824 ≤ n) : Ev (fun k => incunableref01_Signed.f k n) ([], 2) := by
  unfold incunableref01_Signed.f
  have hj : Ev (fun k => incunableref01_Signed.j0 k n true) ([], 2) := by
    refine ev_succ ?_
    simp only [incunableref01_Signed.j0]
    exact ev_pos (by simp) (Ev.now _)
  by_cases c : n < -1073741824
  · exact ev_pos c hj
  · rw [show decide (n ≥ 1073741824) = true by simp; omega]
    exact ev_neg c hj
theorem long_no (l : List Int) (h : l.length ≤ 2000) : incunablelaw01_Long.f l = some false := by
  unfold incunablelaw01_Long.f
  rw [show decide ((l.length : Int) > 2000) = false by simp; omega]
theorem long_yes (l : List Int) (h : 2000 < l.length) : incunablelaw01_Long.f l = some true := by
  unfold incunablelaw01_Long.f
  rw [show decide ((l.length : Int) > 2000) = true by simp; omega]
theorem around_eq (a b c : List Int) (ha : a.length ≤ 2000) (hb : b.length ≤ 2000) (hc : c.length ≤ 2000) : incunablelaw01_around.f a b c = some (a ++ b ++ c) := by
  unfold incunablelaw01_around.f incunablelaw01_copyOf.f
  simp only [Option.bind_some, List.nil_append, List.length_nil]
  rw [if_pos (by omega)]
  simp only [Option.bind_some]
  rw [if_pos (by omega), if_pos (by simp; omega)]
theorem sizeBytes_len (n : Int) : 1 ≤ (sizeBytes n).length ∧ (sizeBytes n).length ≤ 5 := by
  unfold sizeBytes
  repeat' split
  all_goals simp
/-- What GetSize's loop tells, from the byte i on. -/
def getFrom (l : List Int) (at' : Int) : Nat → Int → Int → Int × Int × Int
  | 0, _, _ => (0, 0, 3)
  | d + 1, n, i =>
    if at' + i ≥ (l.length : Int) then (0, 0, 6) else
    if rd l (at' + i) < 128 then
      (if n * 128 + rd l (at' + i) % 128 > 2147483647 then (0, 0, 3) else if i > 0 ∧ rd l at' = 128 then (0, 0, 3) else (n * 128 + rd l (at' + i) % 128, at' + i + 1, 0))
    else getFrom l at' d (n * 128 + rd l (at' + i) % 128) (i + 1)
theorem bits_GetSize_loop (l : List Int) (hl : Bytes l) (hn : l.length ≤ 140737488351232) (at' : Int) (h0 : 0 ≤ at') (h1 : at' ≤ l.length) : ∀ (d : Nat) (n i : Int), i + d = 5 → 0 ≤ i → 0 ≤ n → n < 128 ^ i.toNat →
    Ev (fun k => bits_GetSize.l0 k l at' n i) (getFrom l at' d n i)
  | 0, n, i, hd, hi, hn0, hn1 => by
    refine ev_succ ?_
    simp only [bits_GetSize.l0]
    exact ev_neg (by omega) (Ev.now _)
  | d + 1, n, i, hd, hi, hn0, hn1 => by
    have hp : (128 : Int) ^ i.toNat ≤ 128 ^ 4 := by
      have : i.toNat ≤ 4 := by omega
      exact_mod_cast Nat.pow_le_pow_right (by omega) this
    have hp5 : (128 : Int) ^ 4 = 268435456 := by decide
    refine ev_succ ?_
    simp only [bits_GetSize.l0, getFrom]
    refine ev_pos (by omega) ?_
    simp (disch := omega) only [wrap_id, tmod_id]
    by_cases c1 : at' + i ≥ l.length
    · rw [if_pos c1]; exact ev_pos c1 (Ev.now _)
    rw [if_neg c1]
    refine ev_neg c1 (ev_pos (by omega) (ev_pos (by omega) ?_))
    have hb := bytes_rdI hl (i := at' + i) (by omega) (by omega)
    simp (disch := omega) only [wrap_id, tmod_id]
    by_cases c2 : rd l (at' + i) < 128
    · rw [if_pos c2]
      refine ev_pos c2 ?_
      by_cases c3 : n * 128 + rd l (at' + i) % 128 > 2147483647
      · exact ev_eq (ev_pos c3 (Ev.now _)) (by rw [if_pos c3])
      refine ev_neg c3 ?_
      by_cases c4 : i > 0
      · refine ev_pos c4 (ev_pos (by omega) (ev_pos (by omega) ?_))
        by_cases c5 : rd l at' = 128
        · exact ev_eq (ev_pos c5 (Ev.now _)) (by rw [if_neg c3, if_pos ⟨c4, c5⟩])
        · exact ev_eq (ev_neg c5 (Ev.now _)) (by rw [if_neg c3, if_neg (fun h => c5 h.2)])
      · exact ev_eq (ev_neg c4 (Ev.now _)) (by rw [if_neg c3, if_neg (fun h => c4 h.1)])
    · rw [if_neg c2]
      refine ev_neg c2 ?_
      refine bits_GetSize_loop l hl hn at' h0 h1 d _ _ (by omega) (by omega) (by omega) ?_
      rw [show (i + 1).toNat = i.toNat + 1 by omega, Int.pow_succ]
      omega
theorem bits_GetSize_ev (l : List Int) (hl : Bytes l) (hn : l.length ≤ 140737488351232) (at' : Int) : Ev (fun k => bits_GetSize.f k l at') (if at' < 0 ∨ at' > l.length then (0, 0, 2) else getFrom l at' 5 0 0) := by
  unfold bits_GetSize.f
  by_cases c : at' < 0
  · rw [if_pos (.inl c)]
    refine ev_pos c (ev_succ ?_)
    simp only [bits_GetSize.j0]
    exact ev_pos (by simp) (Ev.now _)
  · refine ev_neg c (ev_succ ?_)
    by_cases c' : at' > l.length
    · rw [if_pos (.inr c')]
      simp only [bits_GetSize.j0]
      exact ev_pos (by simpa using c') (Ev.now _)
    · rw [if_neg (by simp [c, c'])]
      simp only [bits_GetSize.j0]
      exact ev_neg (by simpa using c') (bits_GetSize_loop l hl hn at' (by omega) (by omega) 5 0 0 (by omega) (by omega) (by omega) (by simp))
theorem rd_mid (a b c : List Int) (i : Nat) (h : i < b.length) : rd (a ++ b ++ c) ((a.length : Int) + (i : Int)) = b[i] := by
  unfold rd
  rw [show ((a.length : Int) + (i : Int)).toNat = a.length + i by omega]
  rw [List.getD_eq_getElem?_getD, List.getElem?_append_left (by simp; omega), List.getElem?_append_right (by omega), Nat.add_sub_cancel_left, List.getElem?_eq_getElem h]; rfl
theorem getFrom_size (n : Int) (h : 0 ≤ n) (h2 : n ≤ 2147483647) (a c : List Int) : getFrom (a ++ sizeBytes n ++ c) (a.length : Int) 5 0 0 = (n, (a.length : Int) + ((sizeBytes n).length : Int), 0) := by
  unfold sizeBytes
  by_cases c1 : n < 128
  · rw [if_pos c1]
    have r0 := rd_mid a [n] c 0 (by simp)
    simp only [Int.natCast_zero, List.getElem_cons_zero] at r0
    simp only [getFrom, r0]
    rw [if_neg (by simp; omega), if_pos c1, if_neg (by omega), if_neg (by omega)]
    simp; omega
  rw [if_neg c1]
  by_cases c2 : n < 16384
  · rw [if_pos c2]
    have r0 : rd (a ++ [n / 128 + 128, n % 128] ++ c) ((a.length : Int) + 0) = n / 128 + 128 := rd_mid a [n / 128 + 128, n % 128] c 0 (by simp)
    have r1 : rd (a ++ [n / 128 + 128, n % 128] ++ c) ((a.length : Int) + 1) = n % 128 := rd_mid a [n / 128 + 128, n % 128] c 1 (by simp)
    have r0' := r0; rw [Int.add_zero] at r0'
    simp only [getFrom, r0, r0', Int.zero_add, r1]
    rw [if_neg (by simp; omega), if_neg (by omega), if_neg (by simp; omega), if_pos (by omega), if_neg (by omega), if_neg (by omega)]
    simp; omega
  rw [if_neg c2]
  by_cases c3 : n < 2097152
  · rw [if_pos c3]
    have r0 : rd (a ++ [n / 16384 + 128, n / 128 % 128 + 128, n % 128] ++ c) ((a.length : Int) + 0) = n / 16384 + 128 := rd_mid a [n / 16384 + 128, n / 128 % 128 + 128, n % 128] c 0 (by simp)
    have r1 : rd (a ++ [n / 16384 + 128, n / 128 % 128 + 128, n % 128] ++ c) ((a.length : Int) + 1) = n / 128 % 128 + 128 := rd_mid a [n / 16384 + 128, n / 128 % 128 + 128, n % 128] c 1 (by simp)
    have r2 : rd (a ++ [n / 16384 + 128, n / 128 % 128 + 128, n % 128] ++ c) ((a.length : Int) + (1 + 1)) = n % 128 := rd_mid a [n / 16384 + 128, n / 128 % 128 + 128, n % 128] c 2 (by simp)
    have r0' := r0; rw [Int.add_zero] at r0'
    simp only [getFrom, r0, r0', Int.zero_add, r1, r2]
    rw [if_neg (by simp; omega), if_neg (by omega), if_neg (by simp; omega), if_neg (by omega), if_neg (by simp; omega), if_pos (by omega), if_neg (by omega), if_neg (by omega)]
    simp; omega
  rw [if_neg c3]
  by_cases c4 : n < 268435456
  · rw [if_pos c4]
    have r0 : rd (a ++ [n / 2097152 + 128, n / 16384 % 128 + 128, n / 128 % 128 + 128, n % 128] ++ c) ((a.length : Int) + 0) = n / 2097152 + 128 := rd_mid a [n / 2097152 + 128, n / 16384 % 128 + 128, n / 128 % 128 + 128, n % 128] c 0 (by simp)
    have r1 : rd (a ++ [n / 2097152 + 128, n / 16384 % 128 + 128, n / 128 % 128 + 128, n % 128] ++ c) ((a.length : Int) + 1) = n / 16384 % 128 + 128 := rd_mid a [n / 2097152 + 128, n / 16384 % 128 + 128, n / 128 % 128 + 128, n % 128] c 1 (by simp)
    have r2 : rd (a ++ [n / 2097152 + 128, n / 16384 % 128 + 128, n / 128 % 128 + 128, n % 128] ++ c) ((a.length : Int) + (1 + 1)) = n / 128 % 128 + 128 := rd_mid a [n / 2097152 + 128, n / 16384 % 128 + 128, n / 128 % 128 + 128, n % 128] c 2 (by simp)
    have r3 : rd (a ++ [n / 2097152 + 128, n / 16384 % 128 + 128, n / 128 % 128 + 128, n % 128] ++ c) ((a.length : Int) + (1 + 1 + 1)) = n % 128 := rd_mid a [n / 2097152 + 128, n / 16384 % 128 + 128, n / 128 % 128 + 128, n % 128] c 3 (by simp)
    have r0' := r0; rw [Int.add_zero] at r0'
    simp only [getFrom, r0, r0', Int.zero_add, r1, r2, r3]
    rw [if_neg (by simp; omega), if_neg (by omega), if_neg (by simp; omega), if_neg (by omega), if_neg (by simp; omega), if_neg (by omega), if_neg (by simp; omega), if_pos (by omega), if_neg (by omega), if_neg (by omega)]
    simp; omega
  rw [if_neg c4]
  have r0 : rd (a ++ [n / 268435456 + 128, n / 2097152 % 128 + 128, n / 16384 % 128 + 128, n / 128 % 128 + 128, n % 128] ++ c) ((a.length : Int) + 0) = n / 268435456 + 128 := rd_mid a [n / 268435456 + 128, n / 2097152 % 128 + 128, n / 16384 % 128 + 128, n / 128 % 128 + 128, n % 128] c 0 (by simp)
  have r1 : rd (a ++ [n / 268435456 + 128, n / 2097152 % 128 + 128, n / 16384 % 128 + 128, n / 128 % 128 + 128, n % 128] ++ c) ((a.length : Int) + 1) = n / 2097152 % 128 + 128 := rd_mid a [n / 268435456 + 128, n / 2097152 % 128 + 128, n / 16384 % 128 + 128, n / 128 % 128 + 128, n % 128] c 1 (by simp)
  have r2 : rd (a ++ [n / 268435456 + 128, n / 2097152 % 128 + 128, n / 16384 % 128 + 128, n / 128 % 128 + 128, n % 128] ++ c) ((a.length : Int) + (1 + 1)) = n / 16384 % 128 + 128 := rd_mid a [n / 268435456 + 128, n / 2097152 % 128 + 128, n / 16384 % 128 + 128, n / 128 % 128 + 128, n % 128] c 2 (by simp)
  have r3 : rd (a ++ [n / 268435456 + 128, n / 2097152 % 128 + 128, n / 16384 % 128 + 128, n / 128 % 128 + 128, n % 128] ++ c) ((a.length : Int) + (1 + 1 + 1)) = n / 128 % 128 + 128 := rd_mid a [n / 268435456 + 128, n / 2097152 % 128 + 128, n / 16384 % 128 + 128, n / 128 % 128 + 128, n % 128] c 3 (by simp)
  have r4 : rd (a ++ [n / 268435456 + 128, n / 2097152 % 128 + 128, n / 16384 % 128 + 128, n / 128 % 128 + 128, n % 128] ++ c) ((a.length : Int) + (1 + 1 + 1 + 1)) = n % 128 := rd_mid a [n / 268435456 + 128, n / 2097152 % 128 + 128, n / 16384 % 128 + 128, n / 128 % 128 + 128, n % 128] c 4 (by simp)
  have r0' := r0; rw [Int.add_zero] at r0'
  simp only [getFrom, r0, r0', Int.zero_add, r1, r2, r3, r4]
  rw [if_neg (by simp; omega), if_neg (by omega), if_neg (by simp; omega), if_neg (by omega), if_neg (by simp; omega), if_neg (by omega), if_neg (by simp; omega), if_neg (by omega), if_neg (by simp; omega), if_pos (by omega), if_neg (by omega), if_neg (by omega)]
  simp; omega
theorem sizeBytes_bytes (n : Int) (h : 0 ≤ n) (h2 : n ≤ 2147483647) : Bytes (sizeBytes n) := by
  unfold sizeBytes Bytes
  by_cases c1 : n < 128
  · rw [if_pos c1]; intro x hx; simp at hx; omega
  rw [if_neg c1]
  by_cases c2 : n < 16384
  · rw [if_pos c2]; intro x hx; simp at hx; omega
  rw [if_neg c2]
  by_cases c3 : n < 2097152
  · rw [if_pos c3]; intro x hx; simp at hx; omega
  rw [if_neg c3]
  by_cases c4 : n < 268435456
  · rw [if_pos c4]; intro x hx; simp at hx; omega
  rw [if_neg c4]
  intro x hx; simp at hx; omega
/-- The number that a size stands for. -/
def signedOf (n : Int) : Int := if n % 2 = 1 then -((n + 1) / 2) else n / 2
theorem tdiv_neg (n : Int) (h : 0 ≤ n) (h2 : n % 2 = 0) : Int.tdiv (-n) 2 = -(n / 2) := by
  obtain ⟨m, rfl⟩ : ∃ m, n = 2 * m := ⟨n / 2, by omega⟩
  rw [Int.neg_tdiv, Int.tdiv_eq_ediv_of_nonneg h]
theorem getFrom_range (l : List Int) (hl : Bytes l) (at' : Int) (h0 : 0 ≤ at') : ∀ (d : Nat) (n i : Int), 0 ≤ i → 0 ≤ n → 0 ≤ (getFrom l at' d n i).1 ∧ (getFrom l at' d n i).1 ≤ 2147483647 ∧ ((getFrom l at' d n i).2.2 ≠ 0 → (getFrom l at' d n i).1 = 0 ∧ (getFrom l at' d n i).2.1 = 0)
  | 0, n, i, hi, hn => by simp [getFrom]
  | d + 1, n, i, hi, hn => by
    unfold getFrom
    by_cases c1 : at' + i ≥ l.length
    · rw [if_pos c1]; simp
    rw [if_neg c1]
    have hb := bytes_rdI hl (i := at' + i) (by omega) (by omega)
    by_cases c2 : rd l (at' + i) < 128
    · rw [if_pos c2]
      split
      · simp
      split
      · simp
      · exact ⟨by show 0 ≤ n * 128 + rd l (at' + i) % 128; omega, by show n * 128 + rd l (at' + i) % 128 ≤ _; omega, by simp⟩
    · rw [if_neg c2]
      exact getFrom_range l hl at' h0 d _ _ (by omega) (by omega)
/-- What GetSize tells. -/
def getSize (l : List Int) (at' : Int) : Int × Int × Int := if at' < 0 ∨ at' > l.length then (0, 0, 2) else getFrom l at' 5 0 0
theorem getSize_range (l : List Int) (hl : Bytes l) (at' : Int) : 0 ≤ (getSize l at').1 ∧ (getSize l at').1 ≤ 2147483647 ∧ ((getSize l at').2.2 ≠ 0 → (getSize l at').1 = 0 ∧ (getSize l at').2.1 = 0) := by
  unfold getSize
  split
  · simp
  · exact getFrom_range l hl at' (by omega) 5 0 0 (by omega) (by omega)
theorem bits_GetSigned_ev (l : List Int) (hl : Bytes l) (hn : l.length ≤ 140737488351232) (at' : Int) : Ev (fun k => bits_GetSigned.f k l at') (signedOf (getSize l at').1, (getSize l at').2.1, (getSize l at').2.2) := by
  unfold bits_GetSigned.f
  have hr := getSize_range l hl at'
  refine ev_bind (bits_GetSize_ev l hl hn at') ?_
  change Ev (fun n => if Int.tmod (getSize l at').1 2 = 1 then some (wrap64 (Int.tdiv (wrap64 (-wrap64 ((getSize l at').1 + 1))) 2), (getSize l at').2.1, (getSize l at').2.2) else some (wrap64 (Int.tdiv (getSize l at').1 2), (getSize l at').2.1, (getSize l at').2.2)) _
  simp (disch := omega) only [wrap_id, tmod_id, tdiv_id]
  by_cases c : (getSize l at').1 % 2 = 1
  · refine ev_eq (ev_pos c (Ev.now _)) ?_
    rw [tdiv_neg _ (by omega) (by omega), wrap_id (by omega) (by omega)]
    unfold signedOf
    rw [if_pos c]
  · refine ev_eq (ev_neg c (Ev.now _)) ?_
    unfold signedOf
    rw [if_neg c]
theorem BitsSigned : incunablelaw01_BitsSigned.Pure := by
  intro n front behind hn hfm hfn hf hbm hbn hb
  have hf := bytes_of hf
  have hb := bytes_of hb
  have hn := wf_i64 hn
  apply Ev.rounds
  unfold incunablelaw01_BitsSigned.f
  have hj : Ev (fun k => incunablelaw01_BitsSigned.j0 k n front behind true) true := by
    refine ev_succ ?_
    simp only [incunablelaw01_BitsSigned.j0]
    exact ev_pos (by simp) (ev_bind sane_ev (Ev.now _))
  by_cases hL : 2000 < front.length
  · exact ev_pure (long_yes _ hL) (ev_pos (by simp) hj)
  refine ev_pure (long_no _ (by omega)) (ev_neg (by simp) ?_)
  by_cases hM : 2000 < behind.length
  · exact ev_pure (long_yes _ hM) hj
  refine ev_pure (long_no _ (by omega)) (ev_succ ?_)
  simp only [incunablelaw01_BitsSigned.j0]
  refine ev_neg (by simp) ?_
  by_cases hbad : n < -1073741824 ∨ 1073741824 ≤ n
  · refine ev_bind (bits_Signed_bad n hbad) (ev_bind (ref_Signed_bad n hbad) (ev_pos rfl (same_ev _ (ev_succ ?_))))
    simp only [incunablelaw01_BitsSigned.j1]
    refine ev_neg (by simp) (ev_neg (by simp) ?_)
    exact ev_bind sane_ev (Ev.now _)
  refine ev_bind (bits_Signed_ev n (by omega) (by omega)) (ev_bind (ref_Signed_ev n (by omega) (by omega)) (ev_pos rfl (same_ev _ (ev_succ ?_))))
  simp only [incunablelaw01_BitsSigned.j1]
  obtain ⟨m, hm⟩ : ∃ m, m = (if n < 0 then -2 * n - 1 else 2 * n) := ⟨_, rfl⟩
  have hm0 : 0 ≤ m ∧ m ≤ 2147483647 ∧ signedOf m = n := by
    unfold signedOf
    rw [hm]
    by_cases c : n < 0
    · rw [if_pos c, if_pos (by omega)]; omega
    · rw [if_neg c, if_neg (by omega)]; omega
  rw [← hm]
  have hlen := sizeBytes_len m
  refine ev_neg (by simp) (ev_pos (by simp) (ev_pure (around_eq _ _ _ (by omega) (by omega) (by omega)) ?_))
  have hby : Bytes (front ++ sizeBytes m ++ behind) := by
    intro x hx
    simp only [List.mem_append] at hx
    rcases hx with (h | h) | h
    · exact hf x h
    · exact sizeBytes_bytes m hm0.1 hm0.2.1 x h
    · exact hb x h
  refine ev_bind (bits_GetSigned_ev _ hby (by simp; omega) _) ?_
  rw [show getSize (front ++ sizeBytes m ++ behind) (front.length : Int) = (m, (front.length : Int) + ((sizeBytes m).length : Int), 0) from by
    unfold getSize
    rw [if_neg (by simp; omega), getFrom_size m hm0.1 hm0.2.1]]
  simp (disch := omega) only [wrap_id]
  exact ev_pos (by simp) (ev_pos hm0.2.2 (ev_pos (by simp) (ev_bind sane_ev (Ev.now _))))
theorem walk (w : World) (a0 : Int) (w0 : (Lit.int .i64 a0).wf = true) (A1 : Option Addr) (c1 : Nat) (l1 : List Int) (hC1 : Kd.C (Kd.int .u8) w A1 l1.length l1) (hc1 : l1.length ≤ c1) (y1 : l1.length * 1 ≤ 140737488351232) (hw1 : ∀ x ∈ l1, (Lit.int .u8 x).wf = true) (A2 : Option Addr) (c2 : Nat) (l2 : List Int) (hC2 : Kd.C (Kd.int .u8) w A2 l2.length l2) (hc2 : l2.length ≤ c2) (y2 : l2.length * 1 ≤ 140737488351232) (hw2 : ∀ x ∈ l2, (Lit.int .u8 x).wf = true) : Calls Try.prog 7 #[.int .i64 a0, .slice A1 l1.length c1, .slice A2 l2.length c2] w fun e w' => e = .returned (.bool true) ∧ Below w.heap.size w w' := by
  obtain ⟨k, h⟩ := BitsSigned a0 l1 l2 w0 (by unfold maxLen; omega) y1 hw1 (by unfold maxLen; omega) y2 hw2
  refine (incunablelaw01_BitsSigned.calls k a0 A1 c1 l1 A2 c2 l2 true w hC1 hc1 hC2 hc2 h).mono ?_
  rintro e w' ⟨rfl, hd⟩
  exact ⟨rfl, hd⟩
open Go.ChangeShapes Go.WideShapes Go.ChangeAt
open Go.ChangeMaps (open_string shut_string)
theorem own : ownKnob Try.prog.godebug = none := by kernel_rfl
theorem laidOut : laidOutB Try.prog = true := by kernel_rfl
def IsRow (k : IntKind) (w : World) (a : Option Addr) (len cap : Nat) (zs : List Int) : Prop :=
  (a = none ∧ len = 0 ∧ cap = 0 ∧ zs = []) ∨
  ∃ x, a = some x ∧ len ≤ cap ∧ cap ≤ maxLen ∧ zs.length = cap ∧ (∀ i, i < zs.length → w.cell? (x.add i) = some (.int k (zs.getD i 0))) ∧ ∀ n ∈ zs, (Lit.int k n).wf = true
set_option maxRecDepth 100000 in
theorem lifted (os : Os) (started : os.Started) (H : Type) (enc : TypeId × Value → H) :
    ReturnsInHanded {} Try.checked os 7 .any (Rows.bitsSignedSpec.pre6 enc Try.prog Try.f7 Rows.bitsSignedRow.domain false) (Rows.bitsSignedSpec.post enc Try.prog Try.f7 false true false false) := by
  refine returnsInHanded_of_change_sized (C := Try.checked) own started (by kernel_rfl) Try.func7
    (ChangeSpec.witness6 (enc := enc) (C := Try.checked) false ⟨#[], #[.int .i64 0, .slice none 0 0, .slice none 0 0], []⟩ 8 (by kernel_rfl) (by kernel_rfl) (by kernel_rfl) (by kernel_rfl)) ?_
  intro W base args ds gs before hval0 hW hcnd hsz0 _
  have hsz : (DataW.weightsEach Try.prog (Try.f7.params.toList ++ Rows.bitsSignedSpec.plain.varTypes Try.prog) (ds ++ gs)).all (· ≤ reachBytes) = true := hsz0
  have hval : ∀ (j : Nat) t v, Try.f7.params[j]? = some t → args[j]? = some v → Value.okWide Try.prog W .any base t v := hval0
  have hW' := hW
  obtain ⟨p, q, hA0, hV, rfl, hfz, hnd⟩ := hW
  have hA : DataW.TrodAll enc Try.prog W 0 (fun _ => true) true Try.f7.params.toList args.toList ds p := hA0
  rw [Try.params7] at hA hval hsz
  obtain ⟨v0, vs0, d0, ds0, p0, q0, hargs, rfl, rfl, h0, r0⟩ := trodAll_cons hA
  obtain ⟨v1, vs1, d1, ds1, p1, q1, rfl, rfl, rfl, h1, r1⟩ := trodAll_cons r0
  obtain ⟨v2, vs2, d2, ds2, p2, q2, rfl, rfl, rfl, h2, r2⟩ := trodAll_cons r1
  obtain ⟨rfl, rfl, rfl⟩ := trodAll_nil r2
  obtain rfl : args = #[v0, v1, v2] := by cases args; simp_all
  obtain ⟨rfl, rfl⟩ := trodVars_none hV
  obtain ⟨a0, rfl, rfl, rfl, w0⟩ := open_int Try.underlying3 (hval 0 3 v0 rfl rfl) h0
  obtain ⟨a1, len1, cap1, rfl⟩ := okWide_slice Try.underlying22 (hval 1 22 v1 rfl rfl)
  have k1 := h1
  have lt1 : ∀ x ∈ p1, x.block < W.heap.size := by obtain ⟨m, hm⟩ := k1; exact DataW.trod_lt m _ _ _ hm
  obtain ⟨z1, w1⟩ : ∃ zs, IsRow .u8 W a1 len1 cap1 zs := by
    obtain ⟨fuel, hf⟩ := h1
    rcases open_ints Try.underlying22 Try.underlying5 (by kernel_rfl) hf with ⟨hcs, _⟩ | ⟨x, l, c, zs, hcs, _, hl, hm, hz, _, hcell, hwz⟩
    · simp [Value.cells] at hcs
      obtain ⟨rfl, rfl, rfl⟩ := hcs
      exact ⟨[], .inl ⟨rfl, rfl, rfl, rfl⟩⟩
    · simp [Value.cells] at hcs
      obtain ⟨rfl, rfl, rfl⟩ := hcs
      exact ⟨zs, .inr ⟨_, rfl, hl, hm, by simpa using hz, hcell, hwz⟩⟩
  have y1 : len1 * 1 ≤ 140737488351232 := sized_ints hsz (j := 1) (t := 22) rfl rfl Try.underlying22 Try.underlying5 (by kernel_rfl) (by kernel_rfl) h1
  obtain ⟨l1, rfl, hr1, hm1, hw1, hc1⟩ := ReadsInt.ofRowC w1
  obtain ⟨a2, len2, cap2, rfl⟩ := okWide_slice Try.underlying22 (hval 2 22 v2 rfl rfl)
  have k2 := h2
  have lt2 : ∀ x ∈ p2, x.block < W.heap.size := by obtain ⟨m, hm⟩ := k2; exact DataW.trod_lt m _ _ _ hm
  obtain ⟨z2, w2⟩ : ∃ zs, IsRow .u8 W a2 len2 cap2 zs := by
    obtain ⟨fuel, hf⟩ := h2
    rcases open_ints Try.underlying22 Try.underlying5 (by kernel_rfl) hf with ⟨hcs, _⟩ | ⟨x, l, c, zs, hcs, _, hl, hm, hz, _, hcell, hwz⟩
    · simp [Value.cells] at hcs
      obtain ⟨rfl, rfl, rfl⟩ := hcs
      exact ⟨[], .inl ⟨rfl, rfl, rfl, rfl⟩⟩
    · simp [Value.cells] at hcs
      obtain ⟨rfl, rfl, rfl⟩ := hcs
      exact ⟨zs, .inr ⟨_, rfl, hl, hm, by simpa using hz, hcell, hwz⟩⟩
  have y2 : len2 * 1 ≤ 140737488351232 := sized_ints hsz (j := 2) (t := 22) rfl rfl Try.underlying22 Try.underlying5 (by kernel_rfl) (by kernel_rfl) h2
  obtain ⟨l2, rfl, hr2, hm2, hw2, hc2⟩ := ReadsInt.ofRowC w2
  clear hA0 hval0 hsz0 hsz
  refine (walk W a0 w0 _ _ l1 (Kd.C_of_reads (d := (0 : Int)) (h1 := fun _ => rfl) hr1) hc1 y1 hw1 _ _ l2 (Kd.C_of_reads (d := (0 : Int)) (h1 := fun _ => rfl) hr2) hc2 y2 hw2).mono fun e W' ⟨he, bel⟩ => ?_
  subst he
  exact ⟨_, rfl, _, _, _, [], _, [], hW', trodAll_mk1 (shut_bool Try.underlying4 _), (trodAll_cons_mk (shut_int Try.underlying3 w0) (trodAll_cons_mk (Below.trod laidOut (by kernel_rfl) (of_decide_eq_true (by kernel_rfl)) k1 bel lt1) (trodAll_cons_mk (Below.trod laidOut (by kernel_rfl) (of_decide_eq_true (by kernel_rfl)) k2 bel lt2) trodAll_mk0))), rfl, bel.frame _, fun h => by cases h⟩
theorem over : Rows.bitsSignedRow.holds Try.pinned (OpenSpec.ofChange Rows.bitsSignedSpec) :=
  OpenClaim.holds_of_wide 7 Try.f7 rfl rfl rfl rfl rfl rfl rfl ⟨rfl, rfl, rfl, rfl, rfl⟩ rfl rfl rfl rfl rfl (by kernel_rfl) Try.func7 (by kernel_rfl)
    (of_decide_eq_true (by kernel_rfl)) (by unfold Func.isWrapper; first | (rw [if_pos (by decide +kernel)]; kernel_rfl) | (rw [if_neg (by decide +kernel)]; exact ⟨rfl, rfl⟩))
    (fun os started H enc _ => lifted os started H enc)
theorem proved : Rows.BitsSignedSaid := over
#print axioms proved
end Go.Proofs.Ytccahgjcaajpcaa.HandBitsSigned
namespace Go.Proofs.Ytccahgjcaajpcaa
/-- The row, under a short name, for the claim. -/
theorem bitsSigned_holds : Rows.BitsSignedSaid := HandBitsSigned.proved
end Go.Proofs.Ytccahgjcaajpcaa
