/- Pack packs bits as the reference does, changes nothing, and Unpack of it is the bits: for every list of bytes. -/
import Derived.Test.YtccahgjcaajpcaaPBitsPacksx0
import Derived.Test.YtccahgjcaajpcaaPBitsPacksx1
import Derived.Test.YtccahgjcaajpcaaPBitsPacksx2
import Derived.Test.YtccahgjcaajpcaaAid
import Derived.Test.YtccahgjcaajpcaaHandAid
import Derived.Test.YtccahgjcaajpcaaUnp
import Derived.Test.YtccahgjcaajpcaaRows
import Derived.WalkKit
import Derived.ProofKit
import Derived.OpenShut
import Derived.ShutString
import Derived.ChangeOld
import Derived.Below
import Derived.SizedLaws
import Derived.Test.YtccahgjcaajpcaaWSized
namespace Go.Proofs.Ytccahgjcaajpcaa.HandBitsPacks
open Go Go.RowKit Go.Proofs.Ytccahgjcaajpcaa.PBitsPacks Go.Proofs.YtccahgjcaajpcaaW.PrintWords Go.Proofs.YtccahgjcaajpcaaW.PrintLast Go.Proofs.YtccahgjcaajpcaaW.PrintMore Go.Proofs.Ytccahgjcaajpcaa.Aid Go.Proofs.Ytccahgjcaajpcaa.HandAid Go.Proofs.Ytccahgjcaajpcaa.Unp
set_option linter.unusedVariables false
set_option linter.unusedSimpArgs false
def sumFrom (s : Int) : List Int → Int
  | [] => s
  | c :: cs => sumFrom ((s * 31 + c) % 65521) cs
theorem bits_Sum_loop (l : List Int) (hl : Bytes l) (hn : l.length ≤ 140737488351232) : ∀ (d i : Nat) (s : Int), i + d = l.length → 0 ≤ s → s < 65521 → Ev (fun k => bits_Sum.l0 k s l (l.length : Int) (i : Int)) (sumFrom s (l.drop i))
  | 0, i, s, hd, h0, h1 => by
    refine ev_succ ?_
    simp only [bits_Sum.l0]
    refine ev_neg (by omega) ?_
    rw [List.drop_of_length_le (by omega)]
    exact Ev.now _
  | d + 1, i, s, hd, h0, h1 => by
    refine ev_succ ?_
    simp only [bits_Sum.l0]
    refine ev_pos (by omega) (ev_pos (by omega) (ev_pos (by omega) ?_))
    have hb := bytes_rd hl (i := i) (by omega)
    simp (disch := omega) only [wrap_id, tmod_id]
    rw [drop_rd (by omega)]
    exact bits_Sum_loop l hl hn d (i + 1) _ (by omega) (by omega) (by omega)
theorem bits_Sum_ev (l : List Int) (hl : Bytes l) (hn : l.length ≤ 140737488351232) : Ev (fun k => bits_Sum.f k l) (sumFrom 1 l) :=
  bits_Sum_loop l hl hn l.length 0 1 (by omega) (by omega) (by omega)
def sizeBytes (n : Int) : List Int :=
  if n < 128 then [n] else if n < 16384 then [n / 128 + 128, n % 128] else
  if n < 2097152 then [n / 16384 + 128, n / 128 % 128 + 128, n % 128] else
  if n < 268435456 then [n / 2097152 + 128, n / 16384 % 128 + 128, n / 128 % 128 + 128, n % 128] else
  [n / 268435456 + 128, n / 2097152 % 128 + 128, n / 16384 % 128 + 128, n / 128 % 128 + 128, n % 128]
theorem bits_Size_l0_end (n : Int) (acc : List Int) (h : n ≤ 0) : Ev (fun k => bits_Size.l0 k n acc) (acc, 0) := by
  refine ev_succ ?_
  simp only [bits_Size.l0]
  exact ev_neg (by omega) (Ev.now _)
theorem bits_Size_l0_go (n : Int) (acc : List Int) {r} (h : 0 < n) (h2 : n ≤ 2147483647) (ha : acc.length < 100) (hr : Ev (fun k => bits_Size.l0 k (n / 128) ((n % 128 + 128) :: acc)) r) : Ev (fun k => bits_Size.l0 k n acc) r := by
  refine ev_succ ?_
  simp only [bits_Size.l0]
  refine ev_pos (by omega) (ev_some (ev_pos (by simp; omega) ?_))
  simp (disch := omega) only [wrap_id, tmod_id, tdiv_id]
  rw [show (n % 128 % 256 + 128) % 256 = n % 128 + 128 by omega]
  exact hr
theorem bits_Size_ev (n : Int) (h : 0 ≤ n) (h2 : n ≤ 2147483647) : Ev (fun k => bits_Size.f k n) (sizeBytes n, 0) := by
  unfold bits_Size.f
  refine ev_neg (by omega) ?_
  rw [show decide (n > 2147483647) = false by simp; omega]
  refine ev_succ ?_
  simp only [bits_Size.j0]
  refine ev_neg (by simp) ?_
  simp (disch := omega) only [wrap_id, tmod_id, tdiv_id]
  rw [show n % 128 % 256 = n % 128 by omega]
  unfold sizeBytes
  by_cases c1 : n < 128
  · rw [if_pos c1]
    refine ev_eq (bits_Size_l0_end _ _ (by omega)) ?_
    rw [show n % 128 = n by omega]
  rw [if_neg c1]
  refine bits_Size_l0_go _ _ (by omega) (by omega) (by simp) ?_
  by_cases c2 : n < 16384
  · rw [if_pos c2]
    refine ev_eq (bits_Size_l0_end _ _ (by omega)) ?_
    rw [show n / 128 % 128 = n / 128 by omega]
  rw [if_neg c2]
  refine bits_Size_l0_go _ _ (by omega) (by omega) (by simp) ?_
  rw [show n / 128 / 128 = n / 16384 by omega]
  by_cases c3 : n < 2097152
  · rw [if_pos c3]
    refine ev_eq (bits_Size_l0_end _ _ (by omega)) ?_
    rw [show n / 16384 % 128 = n / 16384 by omega]
  rw [if_neg c3]
  refine bits_Size_l0_go _ _ (by omega) (by omega) (by simp) ?_
  rw [show n / 16384 / 128 = n / 2097152 by omega]
  by_cases c4 : n < 268435456
  · rw [if_pos c4]
    refine ev_eq (bits_Size_l0_end _ _ (by omega)) ?_
    rw [show n / 2097152 % 128 = n / 2097152 by omega]
  rw [if_neg c4]
  refine bits_Size_l0_go _ _ (by omega) (by omega) (by simp) ?_
  rw [show n / 2097152 / 128 = n / 268435456 by omega]
  refine ev_eq (bits_Size_l0_end _ _ (by omega)) ?_
  rw [show n / 268435456 % 128 = n / 268435456 by omega]
theorem bits_Size_bad (n : Int) (h : n < 0 ∨ 2147483647 < n) : Ev (fun k => bits_Size.f k n) ([], 2) := by
  unfold bits_Size.f
  by_cases c : n < 0
  · refine ev_pos c (ev_succ ?_)
    simp only [bits_Size.j0]
    exact ev_pos (by simp) (Ev.now _)
  · refine ev_neg c ?_
    rw [show decide (n > 2147483647) = true by simp; omega]
    refine ev_succ ?_
    simp only [bits_Size.j0]
    exact ev_pos (by simp) (Ev.now _)
theorem bits_Signed_ev (n : Int) (h : -1073741824 ≤ n) (h2 : n < 1073741824) : Ev (fun k => bits_Signed.f k n) (sizeBytes (if n < 0 then -2 * n - 1 else 2 * n), 0) := by
  unfold bits_Signed.f
  by_cases c : n < 0
  · refine ev_neg (by omega) (ev_succ ?_)
    simp only [bits_Signed.j0]
    refine ev_neg (by simp) (ev_pos c (ev_pos (by omega) ?_))
    simp (disch := omega) only [wrap_id]
    rw [if_pos c]
    exact ev_bind (bits_Size_ev _ (by omega) (by omega)) (Ev.now _)
  · refine ev_pos (by omega) ?_
    rw [show decide (n < 1073741824) = true by simp; omega]
    refine ev_succ ?_
    simp only [bits_Signed.j0]
    refine ev_pos (by simp) ?_
    simp (disch := omega) only [wrap_id]
    rw [if_neg c]
    exact ev_bind (bits_Size_ev _ (by omega) (by omega)) (Ev.now _)
theorem same_ev {α} {f : Nat → Bool → Option α} {r : α} (a : List Int) (h : Ev (fun k => f k true) r) : Ev (fun k => (incunableref01_SameBytes.f a a).bind (f k)) r := by
  refine ev_pure ?_ h
  unfold incunableref01_SameBytes.f
  rw [same_self]
theorem sane_ev : Ev (fun k => incunablelaw01_Sane.f k) true := by
  unfold incunablelaw01_Sane.f
  refine ev_bind (bits_Size_ev 300 (by omega) (by omega)) ?_
  refine ev_bind (bits_Signed_ev (-1) (by omega) (by omega)) ?_
  refine ev_pos rfl (ev_pos rfl ?_)
  refine same_ev [130, 44] (ev_pos rfl (same_ev [1] (ev_pos rfl ?_)))
  refine ev_bind (bits_Sum_ev [65] (by unfold Bytes; decide) (by decide)) (Ev.now _)
theorem long_no (l : List Int) (h : l.length ≤ 2000) : incunablelaw01_Long.f l = some false := by
  unfold incunablelaw01_Long.f
  rw [show decide ((l.length : Int) > 2000) = false by simp; omega]
theorem long_yes (l : List Int) (h : 2000 < l.length) : incunablelaw01_Long.f l = some true := by
  unfold incunablelaw01_Long.f
  rw [show decide ((l.length : Int) > 2000) = true by simp; omega]
theorem same_calls (A : Option Addr) (c : Nat) (A' : Option Addr) (c' : Nat) (l : List Int) (n n' : Nat) (w : World) (hn : n = l.length) (hn' : n' = l.length) (hC : Kd.C (Kd.int .u8) w A l.length l) (hc : l.length ≤ c) (hC' : Kd.C (Kd.int .u8) w A' l.length l) (hc' : l.length ≤ c') :
    Calls Try.prog 18 #[.slice A n c, .slice A' n' c'] w fun e w' => e = .returned (.bool true) ∧ Drawn0 w w' := by
  subst hn hn'
  exact incunableref01_SameBytes.calls A c l A' c' l true w hC hc hC' hc' (by unfold incunableref01_SameBytes.f; rw [same_self])
def gb (c p v : Int) : Int := if p < c then v else 0
theorem gb_step {c p : Int} (v : Int) (h : p ≠ c) : gb (c + 1) p v = gb c p v := by
  unfold gb
  by_cases h1 : p < c
  · rw [if_pos h1, if_pos (by omega)]
  · rw [if_neg h1, if_neg (by omega)]
theorem gb_out {c p : Int} (v : Int) (h : c ≤ p) : gb c p v = 0 := if_neg (by omega)
theorem gb_in {c p : Int} (v : Int) (h : p < c) : gb c p v = v := if_pos h
theorem gb_bit {c p v : Int} (h : 0 ≤ v ∧ v ≤ 1) : 0 ≤ gb c p v ∧ gb c p v ≤ 1 := by
  unfold gb
  split <;> omega
/-- The byte j of the first c bits, packed. -/
def packByte (l : List Int) (c j : Int) : Int :=
  gb c (8 * j) (rd l (8 * j)) * 128 + gb c (8 * j + 1) (rd l (8 * j + 1)) * 64 + gb c (8 * j + 2) (rd l (8 * j + 2)) * 32 + gb c (8 * j + 3) (rd l (8 * j + 3)) * 16 +
  gb c (8 * j + 4) (rd l (8 * j + 4)) * 8 + gb c (8 * j + 5) (rd l (8 * j + 5)) * 4 + gb c (8 * j + 6) (rd l (8 * j + 6)) * 2 + gb c (8 * j + 7) (rd l (8 * j + 7))
def packUpTo (l : List Int) (c : Int) (m : Nat) : List Int := (List.range m).map fun (j : Nat) => packByte l c (j : Int)
/-- A list of bits. -/
def Bits (l : List Int) : Prop := ∀ x ∈ l, 0 ≤ x ∧ x ≤ 1
theorem bits_rd {l : List Int} (h : Bits l) (i : Int) (h0 : 0 ≤ i) : 0 ≤ rd l i ∧ rd l i ≤ 1 := by
  by_cases c : i < l.length
  · exact h _ (rd_mem h0 c)
  · rw [rd_nonneg_out (by omega)]; omega
theorem packByte_zero (l : List Int) (j : Int) (h : 0 ≤ j) : packByte l 0 j = 0 := by
  unfold packByte
  simp (disch := omega) only [gb_out]
  omega
theorem packByte_far (l : List Int) (c j : Int) (h : c < 8 * j ∨ 8 * j + 8 ≤ c) : packByte l (c + 1) j = packByte l c j := by
  unfold packByte
  simp (disch := omega) only [gb_step]
/-- One more bit: what stands there is a number with zeros behind, to which the bit is added. -/
theorem packByte_step (l : List Int) (hl : Bits l) (c j t : Int) (hj : 0 ≤ j) (hc : c = 8 * j + t) (h0 : 0 ≤ t) (h1 : t ≤ 7) :
    packByte l (c + 1) j = packByte l c j + rd l c * 2 ^ (7 - t).toNat ∧ 0 ≤ packByte l c j ∧ packByte l c j < 256 ∧ packByte l c j % 2 ^ (8 - t).toNat = 0 ∧ rd l c * 2 ^ (7 - t).toNat < 2 ^ (8 - t).toNat ∧ rd l c * 2 ^ (7 - t).toNat < 256 ∧ packByte l c j + rd l c * 2 ^ (7 - t).toNat < 256 := by
  have b0 := bits_rd hl (8 * j) (by omega)
  have b1 := bits_rd hl (8 * j + 1) (by omega)
  have b2 := bits_rd hl (8 * j + 2) (by omega)
  have b3 := bits_rd hl (8 * j + 3) (by omega)
  have b4 := bits_rd hl (8 * j + 4) (by omega)
  have b5 := bits_rd hl (8 * j + 5) (by omega)
  have b6 := bits_rd hl (8 * j + 6) (by omega)
  have b7 := bits_rd hl (8 * j + 7) (by omega)
  have ht : t = 0 ∨ t = 1 ∨ t = 2 ∨ t = 3 ∨ t = 4 ∨ t = 5 ∨ t = 6 ∨ t = 7 := by omega
  rcases ht with rfl | rfl | rfl | rfl | rfl | rfl | rfl | rfl <;> subst hc <;> unfold packByte <;>
    simp (disch := omega) only [gb_out, gb_in, Int.add_zero] <;> simp <;> omega
theorem packByte_bit (l : List Int) (hl : Bits l) (c j t : Int) (hj : 0 ≤ j) (h0 : 0 ≤ t) (h1 : t ≤ 7) (hc : 8 * j + t < c) : 0 ≤ packByte l c j ∧ packByte l c j < 256 ∧ packByte l c j / 2 ^ (7 - t).toNat % 2 = rd l (8 * j + t) := by
  have b0 := gb_bit (c := c) (p := 8 * j) (bits_rd hl (8 * j) (by omega))
  have b1 := gb_bit (c := c) (p := 8 * j + 1) (bits_rd hl (8 * j + 1) (by omega))
  have b2 := gb_bit (c := c) (p := 8 * j + 2) (bits_rd hl (8 * j + 2) (by omega))
  have b3 := gb_bit (c := c) (p := 8 * j + 3) (bits_rd hl (8 * j + 3) (by omega))
  have b4 := gb_bit (c := c) (p := 8 * j + 4) (bits_rd hl (8 * j + 4) (by omega))
  have b5 := gb_bit (c := c) (p := 8 * j + 5) (bits_rd hl (8 * j + 5) (by omega))
  have b6 := gb_bit (c := c) (p := 8 * j + 6) (bits_rd hl (8 * j + 6) (by omega))
  have b7 := gb_bit (c := c) (p := 8 * j + 7) (bits_rd hl (8 * j + 7) (by omega))
  have ht : t = 0 ∨ t = 1 ∨ t = 2 ∨ t = 3 ∨ t = 4 ∨ t = 5 ∨ t = 6 ∨ t = 7 := by omega
  unfold packByte
  rcases ht with rfl | rfl | rfl | rfl | rfl | rfl | rfl | rfl
  · have e := gb_in (c := c) (rd l (8 * j)) (p := 8 * j) (by omega)
    simp; omega
  · have e := gb_in (c := c) (rd l (8 * j + 1)) (p := 8 * j + 1) (by omega)
    simp; omega
  · have e := gb_in (c := c) (rd l (8 * j + 2)) (p := 8 * j + 2) (by omega)
    simp; omega
  · have e := gb_in (c := c) (rd l (8 * j + 3)) (p := 8 * j + 3) (by omega)
    simp; omega
  · have e := gb_in (c := c) (rd l (8 * j + 4)) (p := 8 * j + 4) (by omega)
    simp; omega
  · have e := gb_in (c := c) (rd l (8 * j + 5)) (p := 8 * j + 5) (by omega)
    simp; omega
  · have e := gb_in (c := c) (rd l (8 * j + 6)) (p := 8 * j + 6) (by omega)
    simp; omega
  · have e := gb_in (c := c) (rd l (8 * j + 7)) (p := 8 * j + 7) (by omega)
    simp; omega
theorem packUpTo_len (l : List Int) (c : Int) (m : Nat) : (packUpTo l c m).length = m := by simp [packUpTo]
theorem packUpTo_rd (l : List Int) (c : Int) (m : Nat) (i : Int) (h0 : 0 ≤ i) (h : i < m) : rd (packUpTo l c m) i = packByte l c i := by
  obtain ⟨j, rfl⟩ : ∃ j : Nat, i = (j : Int) := ⟨i.toNat, by omega⟩
  exact rd_range_map _ (by omega)
theorem packUpTo_step (l : List Int) (hl : Bits l) (c : Int) (m : Nat) (h0 : 0 ≤ c) (h : c / 8 < m) :
    (packUpTo l c m).set (c / 8).toNat (packByte l c (c / 8) + rd l c * 2 ^ (7 - c % 8).toNat) = packUpTo l (c + 1) m := by
  refine set_range_map _ _ _ _ (by omega) ?_ ?_
  · have := (packByte_step l hl c (c / 8) (c % 8) (by omega) (by omega) (by omega) (by omega)).1
    rw [← this, show ((c / 8).toNat : Int) = c / 8 by omega]
  · intro j h1 h2
    rw [packByte_far l c j (by omega)]
theorem packUpTo_zero (l : List Int) (m : Nat) : packUpTo l 0 m = List.replicate m 0 := by
  apply List.ext_getElem
  · simp [packUpTo]
  intro j h1 h2
  simp [packUpTo, packByte_zero]
def unpackUpTo (b : List Int) (n : Nat) : List Int := (List.range n).map fun (i : Nat) => bitOf b (i : Int)
theorem unpack_pack (l : List Int) (hl : Bits l) : unpackUpTo (packUpTo l l.length ((l.length + 7) / 8)) l.length = l := by
  apply List.ext_getElem
  · simp [unpackUpTo]
  intro i h1 h2
  simp only [unpackUpTo, List.getElem_map, List.getElem_range, bitOf]
  rw [packUpTo_rd _ _ _ _ (by omega) (by omega)]
  have := packByte_bit l hl l.length ((i : Int) / 8) ((i : Int) % 8) (by omega) (by omega) (by omega) (by omega)
  rw [this.2.2, show 8 * ((i : Int) / 8) + (i : Int) % 8 = (i : Int) by omega, rd_at h2]
theorem packUpTo_bytes (l : List Int) (hl : Bits l) (c : Int) (m : Nat) : Bytes (packUpTo l c m) := by
  intro x hx
  simp only [packUpTo, List.mem_map, List.mem_range] at hx
  obtain ⟨j, hj, rfl⟩ := hx
  have b0 := gb_bit (c := c) (p := 8 * (j : Int)) (bits_rd hl (8 * j) (by omega))
  have b1 := gb_bit (c := c) (p := 8 * (j : Int) + 1) (bits_rd hl (8 * j + 1) (by omega))
  have b2 := gb_bit (c := c) (p := 8 * (j : Int) + 2) (bits_rd hl (8 * j + 2) (by omega))
  have b3 := gb_bit (c := c) (p := 8 * (j : Int) + 3) (bits_rd hl (8 * j + 3) (by omega))
  have b4 := gb_bit (c := c) (p := 8 * (j : Int) + 4) (bits_rd hl (8 * j + 4) (by omega))
  have b5 := gb_bit (c := c) (p := 8 * (j : Int) + 5) (bits_rd hl (8 * j + 5) (by omega))
  have b6 := gb_bit (c := c) (p := 8 * (j : Int) + 6) (bits_rd hl (8 * j + 6) (by omega))
  have b7 := gb_bit (c := c) (p := 8 * (j : Int) + 7) (bits_rd hl (8 * j + 7) (by omega))
  unfold packByte
  omega
theorem unpackUpTo_bits (b : List Int) (n : Nat) : Bits (unpackUpTo b n) := by
  intro x hx
  simp only [unpackUpTo, List.mem_map, List.mem_range] at hx
  obtain ⟨j, hj, rfl⟩ := hx
  exact bitOf_range b j
theorem unpackUpTo_rd (b : List Int) (n : Nat) (i : Int) (h0 : 0 ≤ i) (h : i < n) : rd (unpackUpTo b n) i = bitOf b i := by
  obtain ⟨j, rfl⟩ : ∃ j : Nat, i = (j : Int) := ⟨i.toNat, by omega⟩
  exact rd_range_map _ (by omega)
theorem pack_unpack (b : List Int) (hb : Bytes b) (n : Nat) (j : Int) (h0 : 0 ≤ j) (h : 8 * j + 8 ≤ n) (hn : n ≤ 8 * b.length) : packByte (unpackUpTo b n) n j = rd b j := by
  have hr := bytes_rdI hb (i := j) h0 (by omega)
  unfold packByte
  simp (disch := omega) only [gb_in]
  simp (disch := omega) only [unpackUpTo_rd]
  unfold bitOf
  simp only [show 8 * j / 8 = j by omega, show (8 * j + 1) / 8 = j by omega, show (8 * j + 2) / 8 = j by omega, show (8 * j + 3) / 8 = j by omega, show (8 * j + 4) / 8 = j by omega, show (8 * j + 5) / 8 = j by omega, show (8 * j + 6) / 8 = j by omega, show (8 * j + 7) / 8 = j by omega,
    show 8 * j % 8 = 0 by omega, show (8 * j + 1) % 8 = 1 by omega, show (8 * j + 2) % 8 = 2 by omega, show (8 * j + 3) % 8 = 3 by omega, show (8 * j + 4) % 8 = 4 by omega, show (8 * j + 5) % 8 = 5 by omega, show (8 * j + 6) % 8 = 6 by omega, show (8 * j + 7) % 8 = 7 by omega]
  simp
  omega
theorem bits_Pack_loop (l : List Int) (hl : Bits l) (hn : l.length ≤ 140737488351232) (m : Nat) (hm : (m : Int) = (l.length + 7) / 8) : ∀ (d : Nat) (i : Int), i + d = l.length → 0 ≤ i → Ev (fun k => bits_Pack.l0 k (packUpTo l i m) l (l.length : Int) i) (packUpTo l l.length m, 0)
  | 0, i, hd, h0 => by
    refine ev_succ ?_
    simp only [bits_Pack.l0]
    refine ev_eq (ev_neg (by omega) (Ev.now _)) ?_
    rw [show i = l.length by omega]
  | d + 1, i, hd, h0 => by
    refine ev_succ ?_
    simp only [bits_Pack.l0]
    have hb := bits_rd hl i h0
    simp (disch := omega) only [wrap_id, tmod_id, tdiv_id]
    refine ev_pos (by omega) (ev_pos (by omega) (ev_pos (by omega) (ev_neg (by omega) (ev_pos (by omega) (ev_pos (by rw [packUpTo_len]; omega) (ev_pos (by omega) ?_))))))
    rw [packUpTo_rd _ _ _ _ (by omega) (by omega)]
    have hs := packByte_step l hl i (i / 8) (i % 8) (by omega) (by omega) (by omega) (by omega)
    rw [shl_u8 hb.1 (by omega) (by omega) hs.2.2.2.2.2.1]
    rw [or_add (8 - i % 8).toNat hs.2.1 hs.2.2.2.1 hs.2.2.1 (Int.mul_nonneg hb.1 (Int.pow_nonneg (by decide))) hs.2.2.2.2.1 hs.2.2.2.2.2.1]
    rw [packUpTo_step l hl i m h0 (by omega)]
    exact bits_Pack_loop l hl hn m hm d (i + 1) (by omega) (by omega)
theorem bits_Pack_loop_bad (l : List Int) (hl : Bytes l) (hn : l.length ≤ 140737488351232) : ∀ (d : Nat) (i : Int) (x : List Int), (x.length : Int) = (l.length + 7) / 8 → i + d = l.length → 0 ≤ i → (∃ j, i ≤ j ∧ j < l.length ∧ 1 < rd l j) → Ev (fun k => bits_Pack.l0 k x l (l.length : Int) i) ([], 2)
  | 0, i, x, hx, hd, h0, hb => by obtain ⟨j, h1, h2, _⟩ := hb; omega
  | d + 1, i, x, hx, hd, h0, hb => by
    refine ev_succ ?_
    simp only [bits_Pack.l0]
    simp (disch := omega) only [wrap_id, tmod_id, tdiv_id]
    refine ev_pos (by omega) (ev_pos (by omega) (ev_pos (by omega) ?_))
    by_cases c : rd l i > 1
    · exact ev_pos c (Ev.now _)
    refine ev_neg c (ev_pos (by omega) (ev_pos (by omega) (ev_pos (by omega) ?_)))
    refine bits_Pack_loop_bad l hl hn d (i + 1) _ (by simp; omega) (by omega) (by omega) ?_
    obtain ⟨j, h1, h2, h3⟩ := hb
    have : j ≠ i := by intro e; subst e; exact c h3
    exact ⟨j, by omega, h2, h3⟩
theorem bits_Pack_ev (l : List Int) (hl : Bits l) (hn : l.length ≤ 140737488351232) : Ev (fun k => bits_Pack.f k l) (packUpTo l l.length ((l.length + 7) / 8), 0) := by
  unfold bits_Pack.f
  simp (disch := omega) only [wrap_id, tmod_id, tdiv_id]
  refine ev_pos (by omega) (ev_pos (by omega) ?_)
  rw [show (((l.length : Int) + 7) / 8).toNat = (l.length + 7) / 8 by omega, ← packUpTo_zero l]
  exact bits_Pack_loop l hl hn _ (by omega) l.length 0 (by omega) (by omega)
theorem bits_Pack_bad (l : List Int) (hl : Bytes l) (hn : l.length ≤ 140737488351232) (hb : ∃ j, 0 ≤ j ∧ j < (l.length : Int) ∧ 1 < rd l j) : Ev (fun k => bits_Pack.f k l) ([], 2) := by
  unfold bits_Pack.f
  simp (disch := omega) only [wrap_id, tmod_id, tdiv_id]
  refine ev_pos (by omega) (ev_pos (by omega) ?_)
  exact bits_Pack_loop_bad l hl hn l.length 0 _ (by simp; omega) (by omega) (by omega) hb
theorem ref_IsBits_loop (l : List Int) (hl : Bits l) (hn : l.length ≤ 140737488351232) : ∀ (d : Nat) (i : Int), i + d = l.length → 0 ≤ i → Ev (fun k => incunableref01_IsBits.l0 k l i) true
  | 0, i, hd, h0 => by
    refine ev_succ ?_
    simp only [incunableref01_IsBits.l0]
    exact ev_neg (by omega) (Ev.now _)
  | d + 1, i, hd, h0 => by
    refine ev_succ ?_
    simp only [incunableref01_IsBits.l0]
    have hb := bits_rd hl i h0
    simp (disch := omega) only [wrap_id]
    exact ev_pos (by omega) (ev_pos (by omega) (ev_neg (by omega) (ref_IsBits_loop l hl hn d (i + 1) (by omega) (by omega))))
theorem ref_IsBits_bad (l : List Int) (hn : l.length ≤ 140737488351232) : ∀ (d : Nat) (i : Int), i + d = l.length → 0 ≤ i → (∃ j, i ≤ j ∧ j < (l.length : Int) ∧ 1 < rd l j) → Ev (fun k => incunableref01_IsBits.l0 k l i) false
  | 0, i, hd, h0, hb => by obtain ⟨j, h1, h2, _⟩ := hb; omega
  | d + 1, i, hd, h0, hb => by
    refine ev_succ ?_
    simp only [incunableref01_IsBits.l0]
    simp (disch := omega) only [wrap_id]
    refine ev_pos (by omega) (ev_pos (by omega) ?_)
    by_cases c : rd l i > 1
    · exact ev_pos c (Ev.now _)
    refine ev_neg c (ref_IsBits_bad l hn d (i + 1) (by omega) (by omega) ?_)
    obtain ⟨j, h1, h2, h3⟩ := hb
    have : j ≠ i := by intro e; subst e; exact c h3
    exact ⟨j, by omega, h2, h3⟩
theorem ref_Pack_loop (l : List Int) (hl : Bits l) (hn : l.length ≤ 140737488351232) (m : Nat) (hm : (m : Int) = (l.length + 7) / 8) : ∀ (d : Nat) (i : Int), i + d = l.length → 0 ≤ i → Ev (fun k => incunableref01_Pack.l0 k l (packUpTo l i m) i) (packUpTo l l.length m, 0)
  | 0, i, hd, h0 => by
    refine ev_succ ?_
    simp only [incunableref01_Pack.l0]
    refine ev_eq (ev_neg (by omega) (Ev.now _)) ?_
    rw [show i = l.length by omega]
  | d + 1, i, hd, h0 => by
    refine ev_succ ?_
    simp only [incunableref01_Pack.l0]
    have hb := bits_rd hl i h0
    simp (disch := omega) only [wrap_id, tmod_id, tdiv_id]
    refine ev_pos (by omega) (ev_pos (by omega) (ev_pos (by rw [packUpTo_len]; omega) (ev_pos (by omega) (ev_pos (by omega) ?_))))
    rw [packUpTo_rd _ _ _ _ (by omega) (by omega)]
    have hs := packByte_step l hl i (i / 8) (i % 8) (by omega) (by omega) (by omega) (by omega)
    rw [shl_u8 hb.1 (by omega) (by omega) hs.2.2.2.2.2.1]
    rw [Int.emod_eq_of_lt (Int.add_nonneg hs.2.1 (Int.mul_nonneg hb.1 (Int.pow_nonneg (by decide)))) hs.2.2.2.2.2.2]
    rw [packUpTo_step l hl i m h0 (by omega)]
    exact ref_Pack_loop l hl hn m hm d (i + 1) (by omega) (by omega)
theorem ref_Pack_ev (l : List Int) (hl : Bits l) (hn : l.length ≤ 140737488351232) : Ev (fun k => incunableref01_Pack.f k l) (packUpTo l l.length ((l.length + 7) / 8), 0) := by
  unfold incunableref01_Pack.f incunableref01_IsBits.f
  refine ev_bind (ref_IsBits_loop l hl hn l.length 0 (by omega) (by omega)) (ev_pos rfl ?_)
  simp (disch := omega) only [wrap_id, tmod_id, tdiv_id]
  refine ev_pos (by omega) (ev_pos (by omega) ?_)
  rw [show (((l.length : Int) + 7) / 8).toNat = (l.length + 7) / 8 by omega, ← packUpTo_zero l]
  exact ref_Pack_loop l hl hn _ (by omega) l.length 0 (by omega) (by omega)
theorem ref_Pack_bad (l : List Int) (hn : l.length ≤ 140737488351232) (hb : ∃ j, 0 ≤ j ∧ j < (l.length : Int) ∧ 1 < rd l j) : Ev (fun k => incunableref01_Pack.f k l) ([], 2) := by
  unfold incunableref01_Pack.f incunableref01_IsBits.f
  exact ev_bind (ref_IsBits_bad l hn l.length 0 (by omega) (by omega) hb) (ev_neg (by simp) (Ev.now _))
theorem copyOf_eq (a : List Int) (ha : a.length ≤ 2000) : incunablelaw01_copyOf.f a = some a := by
  unfold incunablelaw01_copyOf.f
  simp only [Option.bind_some, List.nil_append, List.length_nil]
  rw [if_pos (by omega)]
theorem unpack_pack' (l : List Int) (hl : Bits l) : Unp.unpackUpTo (packUpTo l l.length ((l.length + 7) / 8)) l.length = l := unpack_pack l hl
set_option maxHeartbeats 4000000 in
theorem walk (w : World) (A0 : Option Addr) (c0 : Nat) (l : List Int) (hC0 : Kd.C (Kd.int .u8) w A0 l.length l) (hc0 : l.length ≤ c0) (y0 : l.length * 1 ≤ 140737488351232) (hw0 : ∀ x ∈ l, (Lit.int .u8 x).wf = true) :
    Calls Try.prog 5 #[.slice A0 l.length c0] w fun e w' => e = .returned (.bool true) ∧ Below w.heap.size w w' := by
  have hl := bytes_of hw0
  obtain ⟨k, hsane⟩ := Ev.rounds sane_ev
  have hS := Aside0.mk hsane
  have HC0 := Aside0.mk hC0
  clear hsane hC0 hw0
  by_cases hL : 2000 < l.length
  · have hlong := Aside0.mk (long_yes l hL)
    go_enter Try.func5, Try.ntmps5
    go_wp2_with (first
      | (go_at_call 11; with_reducible refine (incunablelaw01_Long.calls A0 c0 l true _ HC0.out hc0 hlong.out).mono ?_; rintro e w' ⟨rfl, ⟨⟨m, rfl⟩⟩⟩)
      | (go_at_call 12; with_reducible refine (incunablelaw01_Sane.calls k true _ hS.out).mono ?_; rintro e w2 ⟨rfl, hb⟩; have HB2 := Aside0.mk hb; clear hb))
    go_ret
    exact ⟨rfl, below_undrew HB2.out⟩
  have hlong := Aside0.mk (long_no l (by omega))
  have hcopy := Aside0.mk (copyOf_eq l (by omega))
  by_cases hb : ∃ j, 0 ≤ j ∧ j < (l.length : Int) ∧ 1 < rd l j
  · obtain ⟨k1, q1⟩ := Ev.rounds (bits_Pack_bad l hl (by omega) hb)
    obtain ⟨k2, q2⟩ := Ev.rounds (ref_Pack_bad l (by omega) hb)
    have H1 := Aside0.mk q1
    have H2 := Aside0.mk q2
    clear q1 q2 hb
    go_enter Try.func5, Try.ntmps5
    go_wp2_with (first
      | (go_at_call 11; with_reducible refine (incunablelaw01_Long.calls A0 c0 l false _ HC0.out hc0 hlong.out).mono ?_; rintro e w' ⟨rfl, ⟨⟨m, rfl⟩⟩⟩)
      | (go_at_call 15; refine (incunablelaw01_copyOf.calls A0 c0 l l _ (Kd.C_drewN HC0.out m) hc0 hcopy.out).mono ?_; rintro e w1 ⟨v, rfl, hR, hB⟩; obtain ⟨A1, c1, rfl⟩ := Kd.R_slice hR; have R1 := Aside0.mk hR; have B1 := Aside0.mk (below_undrew hB); clear hR hB)
      | (go_at_call 21; refine (bits_Pack.calls k1 A0 c0 l _ _ _ (Kd.C_below HC0.out B1.out) hc0 H1.out).mono ?_; rintro e w2 ⟨v2, rfl, hR, hB⟩; obtain ⟨A2, c2, rfl⟩ := Kd.R_slice hR; have R2 := Aside0.mk hR; have B2 := Aside0.mk (below_then B1.out B1.out.size hB); have R12 := Aside0.mk (Kd.R_below R1.out hB); clear hR hB)
      | (go_at_call 22; refine (incunableref01_Pack.calls k2 A1 c1 l _ _ _ (Kd.R_reads' R12.out).2.2 (Kd.R_reads' R12.out).2.1 H2.out).mono ?_; rintro e w3 ⟨v3, rfl, hR, hB⟩; obtain ⟨A3, c3, rfl⟩ := Kd.R_slice hR; have R3 := Aside0.mk hR; have B3 := Aside0.mk (below_then B2.out B2.out.size hB); have R13 := Aside0.mk (Kd.R_below R12.out hB); have R23 := Aside0.mk (Kd.R_below R2.out hB); clear hR hB)
      | (go_at_call 18; first
          | (refine (same_calls A2 c2 A3 c3 [] _ _ _ rfl rfl (Kd.R_reads' R23.out).2.2 (Kd.R_reads' R23.out).2.1 (Kd.R_reads' R3.out).2.2 (Kd.R_reads' R3.out).2.1).mono ?_; rintro e w' ⟨rfl, ⟨⟨m5, rfl⟩⟩⟩)
          | (refine (same_calls A0 c0 A1 c1 l _ _ _ rfl rfl (Kd.C_drewN (Kd.C_below HC0.out B3.out) _) hc0 (Kd.C_drewN (Kd.R_reads' R13.out).2.2 _) (Kd.R_reads' R13.out).2.1).mono ?_; rintro e w' ⟨rfl, ⟨⟨m6, rfl⟩⟩⟩))
      | (go_at_call 12; with_reducible refine (incunablelaw01_Sane.calls k true _ hS.out).mono ?_; rintro e w4 ⟨rfl, hb⟩; have HB4 := Aside0.mk (below_undrew hb); clear hb))
    go_ret
    exact ⟨rfl, below_then B3.out B3.out.size HB4.out⟩
  · have hB : Bits l := by
      intro x hx
      obtain ⟨i, hi, rfl⟩ := exists_rd hx
      refine ⟨(bytes_rd hl hi).1, ?_⟩
      rcases Int.lt_or_le 1 (rd l i) with h | h
      · exact absurd ⟨(i : Int), by omega, by omega, h⟩ hb
      · exact h
    obtain ⟨k1, q1⟩ := Ev.rounds (bits_Pack_ev l hB (by omega))
    obtain ⟨k2, q2⟩ := Ev.rounds (ref_Pack_ev l hB (by omega))
    have hup := unpack_pack' l hB
    have hpb := packUpTo_bytes l hB l.length ((l.length + 7) / 8)
    have hpl := packUpTo_len l l.length ((l.length + 7) / 8)
    obtain ⟨p, hp⟩ : ∃ p, p = packUpTo l l.length ((l.length + 7) / 8) := ⟨_, rfl⟩
    rw [← hp] at q1 q2 hup hpb hpl
    have H1 := Aside0.mk q1
    have H2 := Aside0.mk q2
    have H3 := Aside0.mk hup
    have hpl1 : p.length ≤ 1000 := by omega
    have hpl2 : l.length ≤ 8 * p.length := by omega
    clear q1 q2 hb hup hp hpl
    go_enter Try.func5, Try.ntmps5
    go_wp2_with (first
      | (go_at_call 11; with_reducible refine (incunablelaw01_Long.calls A0 c0 l false _ HC0.out hc0 hlong.out).mono ?_; rintro e w' ⟨rfl, ⟨⟨m, rfl⟩⟩⟩)
      | (go_at_call 15; refine (incunablelaw01_copyOf.calls A0 c0 l l _ (Kd.C_drewN HC0.out m) hc0 hcopy.out).mono ?_; rintro e w1 ⟨v, rfl, hR, hB⟩; obtain ⟨A1, c1, rfl⟩ := Kd.R_slice hR; have R1 := Aside0.mk hR; have B1 := Aside0.mk (below_undrew hB); clear hR hB)
      | (go_at_call 21; refine (bits_Pack.calls k1 A0 c0 l _ _ _ (Kd.C_below HC0.out B1.out) hc0 H1.out).mono ?_; rintro e w2 ⟨v2, rfl, hR, hB⟩; obtain ⟨A2, c2, rfl⟩ := Kd.R_slice hR; have R2 := Aside0.mk hR; have B2 := Aside0.mk (below_then B1.out B1.out.size hB); have R12 := Aside0.mk (Kd.R_below R1.out hB); clear hR hB)
      | (go_at_call 22; refine (incunableref01_Pack.calls k2 A1 c1 l _ _ _ (Kd.R_reads' R12.out).2.2 (Kd.R_reads' R12.out).2.1 H2.out).mono ?_; rintro e w3 ⟨v3, rfl, hR, hB⟩; obtain ⟨A3, c3, rfl⟩ := Kd.R_slice hR; have R3 := Aside0.mk hR; have B3 := Aside0.mk (below_then B2.out B2.out.size hB); have R13 := Aside0.mk (Kd.R_below R12.out hB); have R23 := Aside0.mk (Kd.R_below R2.out hB); clear hR hB)
      | (go_at_call 18; first
          | (with_reducible refine (same_calls A2 c2 A3 c3 _ _ _ _ rfl rfl (Kd.R_reads' R23.out).2.2 (Kd.R_reads' R23.out).2.1 (Kd.R_reads' R3.out).2.2 (Kd.R_reads' R3.out).2.1).mono ?_; rintro e w' ⟨rfl, ⟨⟨m5, rfl⟩⟩⟩)
          | (with_reducible refine (same_calls A0 c0 A1 c1 _ _ _ _ rfl rfl (Kd.C_drewN (Kd.C_below HC0.out B3.out) _) hc0 (Kd.C_drewN (Kd.R_reads' R13.out).2.2 _) (Kd.R_reads' R13.out).2.1).mono ?_; rintro e w' ⟨rfl, ⟨⟨m6, rfl⟩⟩⟩)
          | (refine (same_calls A5 c5 A0 c0 l _ _ _ rfl rfl (by have h := (Kd.R_reads' R5.out).2.2; rw [H3.out] at h; exact h) (by have h := (Kd.R_reads' R5.out).2.1; exact h) (Kd.C_below HC0.out B5.out) hc0).mono ?_; rintro e w' ⟨rfl, ⟨⟨m7, rfl⟩⟩⟩))
      | (go_at_call 23; refine (unpack_calls A2 c2 p l.length _ (Kd.C_drewN (Kd.R_reads' R23.out).2.2 _) hpb (by omega) hpl2).mono ?_; rintro e w5 ⟨A5, c5, rfl, hR, hB⟩; have R5 := Aside0.mk hR; have B5 := Aside0.mk (below_then B3.out B3.out.size (below_undrew hB)); clear hR hB)
      | (go_at_call 12; with_reducible refine (incunablelaw01_Sane.calls k true _ hS.out).mono ?_; rintro e w4 ⟨rfl, hb⟩; have HB4 := Aside0.mk (below_undrew hb); clear hb))
    go_ret
    exact ⟨rfl, below_then B5.out B5.out.size HB4.out⟩
open Go.ChangeShapes Go.WideShapes Go.ChangeAt
open Go.ChangeMaps (open_string shut_string)
theorem own : ownKnob Try.prog.godebug = none := by kernel_rfl
theorem laidOut : laidOutB Try.prog = true := by kernel_rfl
def IsRow (k : IntKind) (w : World) (a : Option Addr) (len cap : Nat) (zs : List Int) : Prop :=
  (a = none ∧ len = 0 ∧ cap = 0 ∧ zs = []) ∨
  ∃ x, a = some x ∧ len ≤ cap ∧ cap ≤ maxLen ∧ zs.length = cap ∧ (∀ i, i < zs.length → w.cell? (x.add i) = some (.int k (zs.getD i 0))) ∧ ∀ n ∈ zs, (Lit.int k n).wf = true
set_option maxRecDepth 100000 in
theorem lifted (os : Os) (started : os.Started) (H : Type) (enc : TypeId × Value → H) :
    ReturnsInHanded {} Try.checked os 5 .any (Rows.bitsPacksSpec.pre6 enc Try.prog Try.f5 Rows.bitsPacksRow.domain false) (Rows.bitsPacksSpec.post enc Try.prog Try.f5 false true false false) := by
  refine returnsInHanded_of_change_sized (C := Try.checked) own started (by kernel_rfl) Try.func5
    (ChangeSpec.witness6 (enc := enc) (C := Try.checked) false ⟨#[], #[.slice none 0 0], []⟩ 8 (by kernel_rfl) (by kernel_rfl) (by kernel_rfl) (by kernel_rfl)) ?_
  intro W base args ds gs before hval0 hW hcnd hsz0 _
  have hsz : (DataW.weightsEach Try.prog (Try.f5.params.toList ++ Rows.bitsPacksSpec.plain.varTypes Try.prog) (ds ++ gs)).all (· ≤ reachBytes) = true := hsz0
  have hval : ∀ (j : Nat) t v, Try.f5.params[j]? = some t → args[j]? = some v → Value.okWide Try.prog W .any base t v := hval0
  have hW' := hW
  obtain ⟨p, q, hA0, hV, rfl, hfz, hnd⟩ := hW
  have hA : DataW.TrodAll enc Try.prog W 0 (fun _ => true) true Try.f5.params.toList args.toList ds p := hA0
  rw [Try.params5] at hA hval hsz
  obtain ⟨v0, vs0, d0, ds0, p0, q0, hargs, rfl, rfl, h0, r0⟩ := trodAll_cons hA
  obtain ⟨rfl, rfl, rfl⟩ := trodAll_nil r0
  obtain rfl : args = #[v0] := by cases args; simp_all
  obtain ⟨rfl, rfl⟩ := trodVars_none hV
  obtain ⟨a0, len0, cap0, rfl⟩ := okWide_slice Try.underlying22 (hval 0 22 v0 rfl rfl)
  have k0 := h0
  have lt0 : ∀ x ∈ p0, x.block < W.heap.size := by obtain ⟨m, hm⟩ := k0; exact DataW.trod_lt m _ _ _ hm
  obtain ⟨z0, w0⟩ : ∃ zs, IsRow .u8 W a0 len0 cap0 zs := by
    obtain ⟨fuel, hf⟩ := h0
    rcases open_ints Try.underlying22 Try.underlying5 (by kernel_rfl) hf with ⟨hcs, _⟩ | ⟨x, l, c, zs, hcs, _, hl, hm, hz, _, hcell, hwz⟩
    · simp [Value.cells] at hcs
      obtain ⟨rfl, rfl, rfl⟩ := hcs
      exact ⟨[], .inl ⟨rfl, rfl, rfl, rfl⟩⟩
    · simp [Value.cells] at hcs
      obtain ⟨rfl, rfl, rfl⟩ := hcs
      exact ⟨zs, .inr ⟨_, rfl, hl, hm, by simpa using hz, hcell, hwz⟩⟩
  have y0 : len0 * 1 ≤ 140737488351232 := sized_ints hsz (j := 0) (t := 22) rfl rfl Try.underlying22 Try.underlying5 (by kernel_rfl) (by kernel_rfl) h0
  obtain ⟨l0, rfl, hr0, hm0, hw0, hc0⟩ := ReadsInt.ofRowC w0
  clear hA0 hval0 hsz0 hsz
  refine (walk W _ _ l0 (Kd.C_of_reads (d := (0 : Int)) (h1 := fun _ => rfl) hr0) hc0 y0 hw0).mono fun e W' ⟨he, bel⟩ => ?_
  subst he
  exact ⟨_, rfl, _, _, _, [], _, [], hW', trodAll_mk1 (shut_bool Try.underlying4 _), (trodAll_cons_mk (Below.trod laidOut (by kernel_rfl) (of_decide_eq_true (by kernel_rfl)) k0 bel lt0) trodAll_mk0), rfl, bel.frame _, fun h => by cases h⟩
theorem over : Rows.bitsPacksRow.holds Try.pinned (OpenSpec.ofChange Rows.bitsPacksSpec) :=
  OpenClaim.holds_of_wide 5 Try.f5 rfl rfl rfl rfl rfl rfl rfl ⟨rfl, rfl, rfl, rfl, rfl⟩ rfl rfl rfl rfl rfl (by kernel_rfl) Try.func5 (by kernel_rfl)
    (of_decide_eq_true (by kernel_rfl)) (by unfold Func.isWrapper; first | (rw [if_pos (by decide +kernel)]; kernel_rfl) | (rw [if_neg (by decide +kernel)]; exact ⟨rfl, rfl⟩))
    (fun os started H enc _ => lifted os started H enc)
theorem proved : Rows.BitsPacksSaid := over
#print axioms proved
end Go.Proofs.Ytccahgjcaajpcaa.HandBitsPacks
namespace Go.Proofs.Ytccahgjcaajpcaa
/-- The row, under a short name, for the claim. -/
theorem bitsPacks_holds : Rows.BitsPacksSaid := HandBitsPacks.proved
end Go.Proofs.Ytccahgjcaajpcaa
