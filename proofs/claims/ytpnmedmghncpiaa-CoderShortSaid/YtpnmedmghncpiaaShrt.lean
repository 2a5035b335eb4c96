import Derived.Test.YtpnmedmghncpiaaAid
import Derived.Test.YtpnmedmghncpiaaHandAid
import Derived.Test.YtpnmedmghncpiaaCod1
import Derived.Test.YtpnmedmghncpiaaCod2
import Derived.Test.YtpnmedmghncpiaaCod3
import Derived.Test.YtpnmedmghncpiaaMod
import Derived.Test.YtpnmedmghncpiaaEnc
import Derived.Test.YtpnmedmghncpiaaMods
import Derived.Test.YtpnmedmghncpiaaEncAt
import Derived.Test.YtpnmedmghncpiaaPut
import Derived.Test.YtpnmedmghncpiaaEnd
import Derived.Test.YtpnmedmghncpiaaEncode
import Derived.Test.YtpnmedmghncpiaaDec
import Derived.Test.YtpnmedmghncpiaaGet
import Derived.Test.YtpnmedmghncpiaaDecNew
import Derived.Test.YtpnmedmghncpiaaDcd
import Derived.Test.YtpnmedmghncpiaaBack
-- needs: Aid HandAid Cod1 Cod2 Cod3 Mod Enc Mods EncAt Put End Encode Dec Get DecNew Dcd Back
namespace Go.Proofs.Ytpnmedmghncpiaa.Shrt
open Go Go.RowKit Go.Proofs.YtpnmedmghncpiaaW.PrintWords Go.Proofs.YtpnmedmghncpiaaW.PrintLast Go.Proofs.YtpnmedmghncpiaaW.PrintMore Go.Proofs.Ytpnmedmghncpiaa.Aid Go.Proofs.Ytpnmedmghncpiaa.HandAid Go.Proofs.Ytpnmedmghncpiaa.Cod1 Go.Proofs.Ytpnmedmghncpiaa.Cod2 Go.Proofs.Ytpnmedmghncpiaa.Cod3 Go.Proofs.Ytpnmedmghncpiaa.Mod Go.Proofs.Ytpnmedmghncpiaa.Enc Go.Proofs.Ytpnmedmghncpiaa.Mods Go.Proofs.Ytpnmedmghncpiaa.EncAt Go.Proofs.Ytpnmedmghncpiaa.Put Go.Proofs.Ytpnmedmghncpiaa.End Go.Proofs.Ytpnmedmghncpiaa.Encode Go.Proofs.Ytpnmedmghncpiaa.Dec Go.Proofs.Ytpnmedmghncpiaa.Get Go.Proofs.Ytpnmedmghncpiaa.DecNew Go.Proofs.Ytpnmedmghncpiaa.Dcd Go.Proofs.Ytpnmedmghncpiaa.Back Go.Proofs.Ytpnmedmghncpiaa.PCoderShort
set_option linter.unusedVariables false
set_option linter.unusedSimpArgs false
/-- Each part of an interval is at least an 8192nd of it. -/
theorem part_wide (low high p : Int) (h1 : low < high) (h3 : 1 ≤ p) (h4 : p ≤ 4095) : (midOf low high p - low + 1) * 8192 ≥ high - low + 1 ∧ (high - midOf low high p) * 8192 ≥ high - low + 1 := by
  unfold midOf
  obtain ⟨q, hq⟩ : ∃ q, (high - low) / 4096 = q := ⟨_, rfl⟩
  obtain ⟨r, hr⟩ : ∃ r, (high - low) % 4096 = r := ⟨_, rfl⟩
  have e : high - low = 4096 * q + r := by omega
  have hr0 : 0 ≤ r ∧ r < 4096 := by omega
  have hq0 : 0 ≤ q := by omega
  rw [hq, hr]
  have a1 : q * 1 ≤ q * p := Int.mul_le_mul_of_nonneg_left h3 hq0
  have a2 : q * p ≤ q * 4095 := Int.mul_le_mul_of_nonneg_left h4 hq0
  have b1 : r * 1 ≤ r * p := Int.mul_le_mul_of_nonneg_left h3 hr0.1
  have b2 : r * p ≤ r * 4095 := Int.mul_le_mul_of_nonneg_left h4 hr0.1
  generalize q * p = x at a1 a2 ⊢
  generalize r * p = y at b1 b2 ⊢
  omega
theorem norm_wide : ∀ (d : Nat) (l h : Int), l ≤ h → ((normE d l h).2.2 - (normE d l h).2.1 + 1) = (h - l + 1) * 256 ^ (normE d l h).1.length
  | 0, l, h, _ => by simp [normE]
  | d + 1, l, h, hlh => by
    unfold normE
    split
    · have h1 := norm_wide d (l % 16777216 * 256) (h % 16777216 * 256 + 255) (by omega)
      simp only [List.length_cons]
      rw [h1, show h % 16777216 * 256 + 255 - l % 16777216 * 256 + 1 = (h - l + 1) * 256 by omega, Int.pow_succ, Int.mul_assoc, Int.mul_comm 256]
    · simp
theorem put_wide {s : ES} (hok : s.ok) {i : Nat} (hi : i < s.st.length) {bit : Int} (hb : bit = 0 ∨ bit = 1) : ((s.put i bit).high - (s.put i bit).low + 1) * 8192 ≥ (s.high - s.low + 1) * 256 ^ (s.norm i bit).1.length := by
  have hc := ES.cut_ hok hi (bit := bit)
  have hm := ES.mid_ hok hi
  have hr := likely_range _ _ (ES.at_ hok hi)
  have hp := part_wide s.low s.high (likely s.kind (rd s.st i)) (by omega) hr.1 hr.2
  have hw := norm_wide 4 _ _ hc.2.1
  have hcut : (cutH s.high (s.mid i) bit - cutL s.low (s.mid i) bit + 1) * 8192 ≥ s.high - s.low + 1 := by
    have hmid : s.mid i = midOf s.low s.high (likely s.kind (rd s.st i)) := rfl
    unfold cutL cutH
    rcases hb with rfl | rfl
    · rw [if_neg (by decide), if_neg (by decide), hmid]
      omega
    · rw [if_pos rfl, if_pos rfl, hmid]
      omega
  show ((s.norm i bit).2.2 - (s.norm i bit).2.1 + 1) * 8192 ≥ _
  have hw2 : (s.norm i bit).2.2 - (s.norm i bit).2.1 + 1 = (cutH s.high (s.mid i) bit - cutL s.low (s.mid i) bit + 1) * 256 ^ (s.norm i bit).1.length := hw
  rw [hw2, Int.mul_right_comm]
  exact Int.mul_le_mul_of_nonneg_right hcut (Int.le_of_lt (Int.pow_pos (by decide)))
/-- How wide an interval is behind k events that lost n bytes. -/
theorem puts_wide : ∀ (l : List S47) (s : ES) (K : Nat), s.ok → (s.high - s.low + 1) * 8192 ^ K ≥ 4294967296 * 256 ^ s.out.length → ((putsE s l).1.high - (putsE s l).1.low + 1) * 8192 ^ (K + l.length) ≥ 4294967296 * 256 ^ (putsE s l).1.out.length
  | [], s, K, _, h => h
  | x :: l, s, K, hok, h => by
    unfold putsE
    by_cases c : s.err x.f0 x.f1 = 0
    · rw [if_pos c]
      have hg := putI_good c
      have hok2 := ES.putI_ok hok x.f0 x.f1
      have hi : x.f0.toNat < s.st.length := by omega
      have h1 := put_wide hok hi hg.2.2.2.2
      have h2 := puts_wide l (s.putI x.f0 x.f1) (K + 1) hok2 (by
        rw [hg.2.1]
        have h4 : (s.put x.f0.toNat x.f1).out.length = s.out.length + (s.norm x.f0.toNat x.f1).1.length := List.length_append
        rw [h4]
        generalize (s.norm x.f0.toNat x.f1).1.length = n at h1 ⊢
        have e1 : (8192 : Int) ^ (K + 1) = 8192 ^ K * 8192 := Int.pow_succ _ _
        have e2 : (256 : Int) ^ (s.out.length + n) = 256 ^ s.out.length * 256 ^ n := Int.pow_add _ _ _
        rw [e1, e2]
        have p1 : (0 : Int) < 8192 ^ K := Int.pow_pos (by decide)
        have p2 : (0 : Int) < 256 ^ n := Int.pow_pos (by decide)
        have q1 := Int.mul_le_mul_of_nonneg_right h1 (Int.le_of_lt p1)
        have q2 := Int.mul_le_mul_of_nonneg_right h (Int.le_of_lt p2)
        rw [show ((s.put x.f0.toNat x.f1).high - (s.put x.f0.toNat x.f1).low + 1) * (8192 ^ K * 8192) = ((s.put x.f0.toNat x.f1).high - (s.put x.f0.toNat x.f1).low + 1) * 8192 * 8192 ^ K by rw [Int.mul_comm (8192 ^ K), Int.mul_assoc], ← Int.mul_assoc]
        rw [Int.mul_right_comm] at q1
        exact Int.le_trans q2 q1)
      rw [List.length_cons, show K + (l.length + 1) = K + 1 + l.length by omega]
      exact h2
    · rw [if_neg c]
      have p : (8192 : Int) ^ K ≤ 8192 ^ (K + (x :: l).length) := by
        rw [Int.pow_add]
        have p0 : (0 : Int) < 8192 ^ (x :: l).length := Int.pow_pos (by decide)
        have p1 : (0 : Int) < 8192 ^ K := Int.pow_pos (by decide)
        have p2 := Int.mul_le_mul_of_nonneg_left (show (1 : Int) ≤ 8192 ^ (x :: l).length from p0) (Int.le_of_lt p1)
        rw [Int.mul_one] at p2
        exact p2
      have hw : 0 ≤ s.high - s.low + 1 := by have := hok.lh; omega
      exact Int.le_trans h (Int.mul_le_mul_of_nonneg_left p hw)
theorem short_len (kind : Int) (st : List Int) (l : List S47) (hm : okModel kind st) : (putsE (newES kind st) l).1.out.length ≤ 2 * l.length := by
  have h := puts_wide l (newES kind st) 0 (newES_ok hm) (by show ((4294967295 : Int) - 0 + 1) * 8192 ^ 0 ≥ 4294967296 * 256 ^ 0; decide)
  have hok := putsE_ok l _ (newES_ok hm)
  have h1 := hok.h
  have h2 := hok.l
  rw [Nat.zero_add] at h
  generalize (putsE (newES kind st) l).1.out.length = n at h ⊢
  have p1 : (0 : Int) < 8192 ^ l.length := Int.pow_pos (by decide)
  have h3 : (4294967296 : Int) * 256 ^ n ≤ 4294967296 * 8192 ^ l.length := Int.le_trans h (Int.mul_le_mul_of_nonneg_right (by omega) (Int.le_of_lt p1))
  have h4 : (256 : Int) ^ n ≤ 8192 ^ l.length := Int.le_of_mul_le_mul_left h3 (by decide)
  have h5 : (256 : Nat) ^ n ≤ 8192 ^ l.length := Int.ofNat_le.1 (by rw [Int.natCast_pow, Int.natCast_pow]; exact h4)
  rw [show (256 : Nat) = 2 ^ 8 from rfl, show (8192 : Nat) = 2 ^ 13 from rfl, ← Nat.pow_mul, ← Nat.pow_mul] at h5
  have h6 := (Nat.pow_le_pow_iff_right (by decide)).1 h5
  omega
/-- The end without its last byte tells a number below the interval. -/
theorem cut_win (P : List Int) (low high : Int) (h1 : low ≤ high) (h2 : high ≤ 4294967295) (h0 : 0 ≤ low) (hne : endOf low high ≠ []) : win (P ++ (endOf low high).dropLast) P.length < low := by
  have key : ∀ i, Dec.byteOf (P ++ (endOf low high).dropLast) (P.length + i) = (endOf low high).dropLast.getD i 0 := by
    intro i
    rw [byteOf_getD, List.getD_eq_getElem?_getD, List.getElem?_append_right (by omega), Nat.add_sub_cancel_left, List.getD_eq_getElem?_getD]
  have k0 := key 0
  have k1 := key 1
  have k2 := key 2
  have k3 := key 3
  rw [Nat.add_zero] at k0
  unfold win
  rw [k0, k1, k2, k3]
  unfold endOf endN hiBytes at hne ⊢
  (repeat' split at hne) <;> (try exact absurd rfl hne) <;> simp_all only [List.take, List.dropLast, if_true, if_false, List.getD_cons_zero, List.getD_cons_succ, List.getD_nil] <;> omega
theorem fwd_norm {code : List Int} (hb : Bytes code) : ∀ (d : Nat) (l h : Int) (n : Nat), 0 ≤ l → l ≤ win code n → win code n ≤ h → h ≤ 4294967295 → (normE d l h).2.1 ≤ win code (n + (normE d l h).1.length) ∧ win code (n + (normE d l h).1.length) ≤ (normE d l h).2.2
  | 0, l, h, n, _, h1, h2, _ => ⟨h1, h2⟩
  | d + 1, l, h, n, h0, h1, h2, h3 => by
    unfold normE
    by_cases c : l / 16777216 = h / 16777216
    · rw [if_pos c]
      have h4 := win_succ hb n
      have h5 := win_top hb n
      have h6 := byteOf_range hb (n + 4)
      have h7 := fwd_norm hb d (l % 16777216 * 256) (h % 16777216 * 256 + 255) (n + 1) (by omega) (by omega) (by omega) (by omega)
      rw [show n + 1 + (normE d (l % 16777216 * 256) (h % 16777216 * 256 + 255)).1.length = n + ((normE d (l % 16777216 * 256) (h % 16777216 * 256 + 255)).1.length + 1) by omega] at h7
      exact h7
    · rw [if_neg c]
      exact ⟨h1, h2⟩
theorem fwd_step {code : List Int} (hb : Bytes code) {s : ES} {d d' : DS} (hs : Sync code s d) (hok : s.ok) (hw : s.low ≤ win code s.out.length ∧ win code s.out.length ≤ s.high) {x : S47} (he : s.err x.f0 x.f1 = 0) (hg : d.getI x.f0 = (d', x.f1, 0)) : Sync code (s.putI x.f0 x.f1) d' ∧ (s.putI x.f0 x.f1).low ≤ win code (s.putI x.f0 x.f1).out.length ∧ win code (s.putI x.f0 x.f1).out.length ≤ (s.putI x.f0 x.f1).high := by
  have hp := putI_good he
  rw [hp.2.1]
  obtain ⟨j, hj⟩ : ∃ j : Nat, x.f0 = (j : Int) := ⟨x.f0.toNat, by omega⟩
  rw [hj] at hg ⊢
  rw [Int.toNat_natCast]
  have hi : j < s.st.length := by omega
  have hc := ES.cut_ hok hi (bit := x.f1)
  have hl := hok.l
  have hh := hok.h
  have h4 : (s.put j x.f1).out.length = s.out.length + (s.norm j x.f1).1.length := List.length_append
  unfold DS.getI at hg
  rw [if_pos (by rw [hs.st]; omega), hs.e, if_neg (by decide), Int.toNat_natCast] at hg
  have hm : d.mid j = s.mid j := by
    unfold DS.mid ES.mid
    rw [hs.l, hs.h, hs.k, hs.st]
  split at hg
  · simp only [Prod.mk.injEq] at hg
    exact absurd hg.2.2 (by decide)
  · simp only [Prod.mk.injEq] at hg
    obtain ⟨hd, hbit, _⟩ := hg
    have hn : d.norm j = s.norm j x.f1 := by
      unfold DS.norm ES.norm
      rw [hs.l, hs.h, hm, hbit]
    have hcut : cutL s.low (s.mid j) x.f1 ≤ win code s.out.length ∧ win code s.out.length ≤ cutH s.high (s.mid j) x.f1 := by
      unfold DS.bit at hbit
      rw [hs.v, hm] at hbit
      unfold cutL cutH
      split at hbit
      · rw [if_pos hbit.symm, if_pos hbit.symm]
        omega
      · rw [if_neg (by omega), if_neg (by omega)]
        omega
    have hf := fwd_norm hb 4 _ _ s.out.length hc.1 hcut.1 hcut.2 hc.2.2
    refine ⟨?_, ?_⟩
    · have e1 : d.next j = ⟨d.kind, d.st.set j (after d.kind (rd d.st j) (d.bit j)), (d.norm j).2.1, (d.norm j).2.2, d.code, d.a + (d.norm j).1.length, shV d.code (d.norm j).1.length d.value d.a, false⟩ := rfl
      rw [← hd, e1, hn, hbit, hs.k, hs.st, hs.c, hs.a, hs.v, shV_win hb]
      exact ⟨rfl, rfl, rfl, rfl, rfl, by rw [h4]; show s.out.length + 4 + _ = _; omega, by rw [h4], rfl⟩
    · rw [h4]
      exact hf
theorem getsD_split : ∀ (l : List Int) (d : DS) (acc : List Int) (d' : DS) (r : List Int), getsD d acc l = (d', r, 0) → ∃ t, r = acc ++ t
  | [], d, acc, d', r, h => ⟨[], by
    simp only [getsD, Prod.mk.injEq] at h
    rw [List.append_nil]
    exact h.2.1.symm⟩
  | c :: l, d, acc, d', r, h => by
    unfold getsD at h
    split at h
    · obtain ⟨t, ht⟩ := getsD_split l _ _ _ _ h
      exact ⟨(d.getI c).2.1 :: t, by rw [ht, List.append_assoc]; rfl⟩
    · simp only [Prod.mk.injEq] at h
      rename_i hc
      exact absurd h.2.2 hc
theorem fwd_all {code : List Int} (hb : Bytes code) : ∀ (l : List S47) (s : ES) (d d' : DS) (acc : List Int), s.ok → Sync code s d → (s.low ≤ win code s.out.length ∧ win code s.out.length ≤ s.high) → (putsE s l).2 = 0 → getsD d acc (l.map (·.f0)) = (d', acc ++ l.map (·.f1), 0) → (putsE s l).1.low ≤ win code (putsE s l).1.out.length ∧ win code (putsE s l).1.out.length ≤ (putsE s l).1.high
  | [], s, d, d', acc, _, _, hw, _, _ => hw
  | x :: l, s, d, d', acc, hok, hs, hw, he, hg => by
    unfold putsE at he ⊢
    by_cases c : s.err x.f0 x.f1 = 0
    · rw [if_pos c] at he ⊢
      rw [List.map_cons, getsD] at hg
      split at hg
      · rename_i h0
        obtain ⟨t, ht⟩ := getsD_split _ _ _ _ _ hg
        rw [List.map_cons, List.append_assoc] at ht
        have ht2 := List.append_cancel_left ht
        have hbit : (d.getI x.f0).2.1 = x.f1 := by
          injection ht2 with h1 _
          exact h1.symm
        have hstep := fwd_step hb (d' := (d.getI x.f0).1) hs hok hw c (by rw [← hbit, ← h0])
        refine fwd_all hb l _ _ d' (acc ++ [x.f1]) (ES.putI_ok hok _ _) hstep.1 hstep.2 he ?_
        rw [hbit] at hg
        rw [hg, List.map_cons, List.append_assoc]
        rfl
      · simp only [Prod.mk.injEq] at hg
        rename_i h0
        exact absurd hg.2.2 h0
    · rw [if_neg c] at he
      exact absurd he c
theorem getI_stays (d : DS) (c : Int) (hc : 0 ≤ c ∧ c < d.st.length) : (d.getI c).1.st.length = d.st.length ∧ ((d.getI c).2.2 = 0 ∨ (d.getI c).2.2 = 6) := by
  unfold DS.getI
  rw [if_pos hc]
  split
  · exact ⟨rfl, .inr rfl⟩
  · split
    · exact ⟨rfl, .inr rfl⟩
    · exact ⟨List.length_set, .inl rfl⟩
theorem getsD_err : ∀ (l : List Int) (d : DS) (acc : List Int), (∀ c ∈ l, 0 ≤ c ∧ c < d.st.length) → (getsD d acc l).2.2 = 0 ∨ (getsD d acc l).2.2 = 6
  | [], d, acc, _ => .inl rfl
  | c :: l, d, acc, h => by
    have h1 := getI_stays d c (h c List.mem_cons_self)
    unfold getsD
    split
    · exact getsD_err l _ _ (fun x hx => by rw [h1.1]; exact h x (List.mem_cons_of_mem _ hx))
    · exact h1.2
theorem putsE_err : ∀ (l : List S47) (s : ES), (putsE s l).2 = 0 ∨ (putsE s l).2 = 2
  | [], s => .inl rfl
  | x :: l, s => by
    unfold putsE
    split
    · exact putsE_err l _
    · rename_i h
      right
      show s.err x.f0 x.f1 = 2
      unfold ES.err at h ⊢
      split
      · rename_i hg
        exact absurd (if_pos hg) h
      · rfl
theorem encode_err2 {kind : Int} {st : List Int} {l : List S47} (hm : okModel kind st) (hl : l.length ≤ 100000) : (encodeR kind st l).2.2.2 = 0 ∨ (encodeR kind st l).2.2.2 = 2 := by
  unfold encodeR
  rw [if_pos hm, if_neg (by omega)]
  split
  · exact .inl rfl
  · exact putsE_err l _
/-- What an encoded list's parts are. -/
theorem encode_parts {kind : Int} {st : List Int} {l : List S47} {b : List Int} {k2 : Int} {st2 : List Int} (h : encodeR kind st l = (b, k2, st2, 0)) : okModel kind st ∧ (putsE (newES kind st) l).2 = 0 ∧ b = (putsE (newES kind st) l).1.out ++ endOf (putsE (newES kind st) l).1.low (putsE (newES kind st) l).1.high := by
  unfold encodeR at h
  by_cases hm : okModel kind st
  · rw [if_pos hm] at h
    by_cases hl : l.length > 100000
    · rw [if_pos hl] at h
      simp at h
    · rw [if_neg hl] at h
      by_cases he : (putsE (newES kind st) l).2 = 0
      · rw [if_pos he] at h
        simp only [Prod.mk.injEq] at h
        exact ⟨hm, he, h.1.symm⟩
      · rw [if_neg he] at h
        simp only [Prod.mk.injEq] at h
        exact absurd h.2.2.2 he
  · rw [if_neg hm] at h
    simp at h
/-- A code without its last byte is not decoded to the same bits. -/
theorem short_end (kind : Int) (st : List Int) (l : List S47) (b : List Int) (k2 : Int) (st2 : List Int) (h : encodeR kind st l = (b, k2, st2, 0)) (hb : Bytes b.dropLast) (hne : endOf (putsE (newES kind st) l).1.low (putsE (newES kind st) l).1.high ≠ []) :
    ∃ r k3 st3 n e, decodeR kind st b.dropLast (l.map (·.f0)) = (r, k3, st3, n, e) ∧ (e = 6 ∨ (e = 0 ∧ r ≠ l.map (·.f1))) := by
  unfold encodeR at h
  by_cases hm : okModel kind st
  · rw [if_pos hm] at h
    by_cases hl : l.length > 100000
    · rw [if_pos hl] at h
      simp at h
    · rw [if_neg hl] at h
      by_cases he : (putsE (newES kind st) l).2 = 0
      · rw [if_pos he] at h
        simp only [Prod.mk.injEq] at h
        obtain ⟨hb1, hk, hs, _⟩ := h
        have hok := newES_ok hm
        have hokN := putsE_ok l _ hok
        have hgood := putsE_st l _ he
        have hcode : b.dropLast = (putsE (newES kind st) l).1.out ++ (endOf (putsE (newES kind st) l).1.low (putsE (newES kind st) l).1.high).dropLast := by
          rw [← hb1]
          exact List.dropLast_append_of_ne_nil hne
        have hbad : badK st.length (l.map (·.f0)) (l.map (·.f0)).length = false := by
          unfold badK
          rw [List.take_length, decide_eq_false (by rw [List.length_map]; omega), Bool.false_or, List.any_eq_false]
          intro x hx
          obtain ⟨y, hy, rfl⟩ := List.mem_map.1 hx
          have h1 := hgood y hy
          have h2 : (newES kind st).st.length = st.length := rfl
          rw [h2] at h1
          simp only [bad1, Bool.or_eq_true, decide_eq_true_eq]
          omega
        have herr := getsD_err (l.map (·.f0)) (newDS kind st b.dropLast) [] (fun c hc => by
          obtain ⟨y, hy, rfl⟩ := List.mem_map.1 hc
          exact ⟨(hgood y hy).1, (hgood y hy).2.1⟩)
        have hw0 := shV_range hb 4 0 0 (by omega) (by omega)
        rw [win_zero hb] at hw0
        have hsync : Sync b.dropLast (newES kind st) (newDS kind st b.dropLast) := ⟨rfl, rfl, rfl, rfl, rfl, rfl, win_zero hb, rfl⟩
        unfold decodeR
        rw [if_pos hm, hbad, if_neg (by decide)]
        by_cases h0 : (getsD (newDS kind st b.dropLast) [] (l.map (·.f0))).2.2 = 0
        · rw [if_pos h0]
          refine ⟨_, _, _, _, _, rfl, .inr ⟨rfl, fun hr => ?_⟩⟩
          have hw := fwd_all hb l (newES kind st) (newDS kind st b.dropLast) (getsD (newDS kind st b.dropLast) [] (l.map (·.f0))).1 [] hok hsync hw0 he (by rw [List.nil_append, ← hr, ← h0])
          have hc := cut_win (putsE (newES kind st) l).1.out _ _ hokN.lh hokN.h hokN.l hne
          rw [← hcode] at hc
          omega
        · rw [if_neg h0]
          exact ⟨_, _, _, _, _, rfl, .inl (herr.resolve_left h0)⟩
      · rw [if_neg he] at h
        simp only [Prod.mk.injEq] at h
        exact absurd h.2.2.2 he
  · rw [if_neg hm] at h
    simp at h
end Go.Proofs.Ytpnmedmghncpiaa.Shrt
