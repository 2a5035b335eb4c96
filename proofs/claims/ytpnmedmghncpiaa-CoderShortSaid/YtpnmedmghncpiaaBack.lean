import Derived.Test.YtpnmedmghncpiaaAid
import Derived.Test.YtpnmedmghncpiaaHandAid
import Derived.Test.YtpnmedmghncpiaaCod1
import Derived.Test.YtpnmedmghncpiaaCod2
import Derived.Test.YtpnmedmghncpiaaCod3
import Derived.Test.YtpnmedmghncpiaaMod
import Derived.Test.YtpnmedmghncpiaaEnc
import Derived.Test.YtpnmedmghncpiaaMods
import Derived.Test.YtpnmedmghncpiaaEncAt
import Derived.Test.YtpnmedmghncpiaaPut
import Derived.Test.YtpnmedmghncpiaaEnd
import Derived.Test.YtpnmedmghncpiaaEncode
import Derived.Test.YtpnmedmghncpiaaDec
import Derived.Test.YtpnmedmghncpiaaGet
import Derived.Test.YtpnmedmghncpiaaDecNew
import Derived.Test.YtpnmedmghncpiaaDcd
-- needs: Aid HandAid Cod1 Cod2 Cod3 Mod Enc Mods EncAt Put End Encode Dec Get DecNew Dcd
namespace Go.Proofs.Ytpnmedmghncpiaa.Back
open Go Go.RowKit Go.Proofs.YtpnmedmghncpiaaW.PrintWords Go.Proofs.YtpnmedmghncpiaaW.PrintLast Go.Proofs.YtpnmedmghncpiaaW.PrintMore Go.Proofs.Ytpnmedmghncpiaa.Aid Go.Proofs.Ytpnmedmghncpiaa.HandAid Go.Proofs.Ytpnmedmghncpiaa.Cod1 Go.Proofs.Ytpnmedmghncpiaa.Cod2 Go.Proofs.Ytpnmedmghncpiaa.Cod3 Go.Proofs.Ytpnmedmghncpiaa.Mod Go.Proofs.Ytpnmedmghncpiaa.Enc Go.Proofs.Ytpnmedmghncpiaa.Mods Go.Proofs.Ytpnmedmghncpiaa.EncAt Go.Proofs.Ytpnmedmghncpiaa.Put Go.Proofs.Ytpnmedmghncpiaa.End Go.Proofs.Ytpnmedmghncpiaa.Encode Go.Proofs.Ytpnmedmghncpiaa.Dec Go.Proofs.Ytpnmedmghncpiaa.Get Go.Proofs.Ytpnmedmghncpiaa.DecNew Go.Proofs.Ytpnmedmghncpiaa.Dcd Go.Proofs.Ytpnmedmghncpiaa.PCoderShort
set_option linter.unusedVariables false
set_option linter.unusedSimpArgs false
theorem byteOf_getD (l : List Int) (i : Nat) : Dec.byteOf l i = l.getD i 0 := by
  unfold Dec.byteOf
  split
  · simp [rd]
  · rename_i h
    rw [List.getD_eq_getElem?_getD, List.getElem?_eq_none (by omega)]
    rfl
/-- Four bytes of a code, as a number. -/
def win (code : List Int) (n : Nat) : Int := Dec.byteOf code n * 16777216 + Dec.byteOf code (n + 1) * 65536 + Dec.byteOf code (n + 2) * 256 + Dec.byteOf code (n + 3)
theorem win_succ {code : List Int} (h : Bytes code) (n : Nat) : win code (n + 1) = win code n % 16777216 * 256 + Dec.byteOf code (n + 4) := by
  have h0 := byteOf_range h n
  have h1 := byteOf_range h (n + 1)
  have h2 := byteOf_range h (n + 2)
  have h3 := byteOf_range h (n + 3)
  have h4 := byteOf_range h (n + 4)
  unfold win
  rw [show n + 1 + 1 = n + 2 by omega, show n + 1 + 2 = n + 3 by omega, show n + 1 + 3 = n + 4 by omega]
  omega
theorem win_top {code : List Int} (h : Bytes code) (n : Nat) : win code n / 16777216 = Dec.byteOf code n ∧ 0 ≤ win code n := by
  have h0 := byteOf_range h n
  have h1 := byteOf_range h (n + 1)
  have h2 := byteOf_range h (n + 2)
  have h3 := byteOf_range h (n + 3)
  unfold win
  omega
theorem shV_win {code : List Int} (h : Bytes code) : ∀ (k n : Nat), shV code k (win code n) (n + 4) = win code (n + k)
  | 0, n => rfl
  | k + 1, n => by
    show shV code k (win code n % 16777216 * 256 + Dec.byteOf code (n + 4)) (n + 4 + 1) = _
    rw [← win_succ h, show n + 4 + 1 = n + 1 + 4 by omega, shV_win h k (n + 1), show n + 1 + k = n + (k + 1) by omega]
theorem win_zero {code : List Int} (h : Bytes code) : shV code 4 0 0 = win code 0 := by
  have h0 := byteOf_range h 0
  have h1 := byteOf_range h 1
  have h2 := byteOf_range h 2
  have h3 := byteOf_range h 3
  unfold win
  simp only [shV, Nat.zero_add, Nat.reduceAdd]
  omega
/-- The bytes m stand in the code from n on. -/
def AtL (code : List Int) : Nat → List Int → Prop
  | _, [] => True
  | n, x :: m => Dec.byteOf code n = x ∧ AtL code (n + 1) m
theorem atL_of (m t : List Int) : ∀ (P : List Int), AtL (P ++ m ++ t) P.length m := by
  induction m with
  | nil => intro P; trivial
  | cons x m ih =>
    intro P
    refine ⟨?_, ?_⟩
    · rw [byteOf_getD]
      simp
    · have h := ih (P ++ [x])
      simpa using h
/-- What stands in the interval behind the lost bytes stands in the interval ahead of them. -/
theorem norm_win {code : List Int} (hb : Bytes code) : ∀ (d : Nat) (l h : Int) (n : Nat), 0 ≤ l → l ≤ h → h ≤ 4294967295 → AtL code n (normE d l h).1 → (normE d l h).2.1 ≤ win code (n + (normE d l h).1.length) ∧ win code (n + (normE d l h).1.length) ≤ (normE d l h).2.2 → l ≤ win code n ∧ win code n ≤ h
  | 0, l, h, n, _, _, _, _, hw => hw
  | d + 1, l, h, n, h0, h1, h2, ha, hw => by
    unfold normE at ha hw
    by_cases c : l / 16777216 = h / 16777216
    · rw [if_pos c] at ha hw
      have h3 := norm_win hb d (l % 16777216 * 256) (h % 16777216 * 256 + 255) (n + 1) (by omega) (by omega) (by omega) ha.2 (by
        rw [show n + 1 + (normE d (l % 16777216 * 256) (h % 16777216 * 256 + 255)).1.length = n + ((normE d (l % 16777216 * 256) (h % 16777216 * 256 + 255)).1.length + 1) by omega]
        exact hw)
      have h4 := win_succ hb n
      have h5 := win_top hb n
      have h6 := byteOf_range hb (n + 4)
      have h7 : Dec.byteOf code n = l / 16777216 := ha.1
      omega
    · rw [if_neg c] at ha hw
      exact hw
/-- The end tells a number of the interval, with zeros behind it. -/
theorem end_win (P : List Int) (low high : Int) (z : Nat) (h0 : 0 ≤ low) (h1 : low ≤ high) (h2 : high ≤ 4294967295) : low ≤ win (P ++ endOf low high ++ List.replicate z 0) P.length ∧ win (P ++ endOf low high ++ List.replicate z 0) P.length ≤ high := by
  have key : ∀ i, i < 4 → Dec.byteOf (P ++ endOf low high ++ List.replicate z 0) (P.length + i) = (endOf low high).getD i 0 := by
    intro i _
    rw [byteOf_getD, List.append_assoc, List.getD_eq_getElem?_getD, List.getElem?_append_right (by omega), Nat.add_sub_cancel_left, List.getD_eq_getElem?_getD]
    by_cases c : i < (endOf low high).length
    · rw [List.getElem?_append_left c]
    · rw [List.getElem?_append_right (by omega), List.getElem?_eq_none (l := endOf low high) (by omega), List.getElem?_replicate]
      split <;> rfl
  have k0 := key 0 (by omega)
  have k1 := key 1 (by omega)
  have k2 := key 2 (by omega)
  have k3 := key 3 (by omega)
  rw [Nat.add_zero] at k0
  unfold win
  rw [k0, k1, k2, k3]
  unfold endOf endN hiBytes
  (repeat' split) <;> simp only [List.take, List.getD_cons_zero, List.getD_cons_succ, List.getD_nil] <;> omega
/-- Encoder and decoder stand at the same place. -/
structure Sync (code : List Int) (s : ES) (d : DS) : Prop where
  k : d.kind = s.kind
  st : d.st = s.st
  l : d.low = s.low
  h : d.high = s.high
  c : d.code = code
  a : d.a = s.out.length + 4
  v : d.value = win code s.out.length
  e : d.ended = false
theorem putI_good {s : ES} {i bit : Int} (h : s.err i bit = 0) : s.good i bit = true ∧ s.putI i bit = s.put i.toNat bit ∧ 0 ≤ i ∧ i < s.st.length ∧ (bit = 0 ∨ bit = 1) := by
  unfold ES.err at h
  by_cases c : s.good i bit = true
  · have c2 := c
    simp only [ES.good, Bool.and_eq_true, Bool.or_eq_true, decide_eq_true_eq] at c2
    exact ⟨c, if_pos c, c2.1.1, c2.1.2, c2.2⟩
  · rw [if_neg c] at h
    exact absurd h (by decide)
theorem putsE_pre : ∀ (l : List S47) (s : ES), ∃ m, (putsE s l).1.out = s.out ++ m
  | [], s => ⟨[], by simp [putsE]⟩
  | x :: l, s => by
    unfold putsE
    split
    · obtain ⟨m, hm⟩ := putsE_pre l (s.putI x.f0 x.f1)
      rename_i h
      have hg := putI_good h
      rw [hg.2.1] at hm ⊢
      exact ⟨(s.norm x.f0.toNat x.f1).1 ++ m, by rw [hm, ← List.append_assoc]; rfl⟩
    · exact ⟨[], by simp⟩
/-- The code's number stands in the interval of every state on the way. -/
theorem win_in {code : List Int} (hb : Bytes code) : ∀ (l : List S47) (s : ES), s.ok → (putsE s l).2 = 0 → (∃ t, code = (putsE s l).1.out ++ t) → ((putsE s l).1.low ≤ win code (putsE s l).1.out.length ∧ win code (putsE s l).1.out.length ≤ (putsE s l).1.high) → s.low ≤ win code s.out.length ∧ win code s.out.length ≤ s.high
  | [], s, _, _, _, hw => hw
  | x :: l, s, hok, he, hp, hw => by
    unfold putsE at he hp hw
    by_cases c : s.err x.f0 x.f1 = 0
    · rw [if_pos c] at he hp hw
      have hg := putI_good c
      have h1 := win_in hb l (s.putI x.f0 x.f1) (ES.putI_ok hok _ _) he hp hw
      obtain ⟨t, ht⟩ := hp
      obtain ⟨m, hm⟩ := putsE_pre l (s.putI x.f0 x.f1)
      rw [hg.2.1] at h1 hm ht
      have hi : x.f0.toNat < s.st.length := by omega
      have hc := ES.cut_ hok hi (bit := x.f1)
      have hmid := ES.mid_ hok hi
      have hat : AtL code s.out.length (s.norm x.f0.toNat x.f1).1 := by
        rw [ht, hm]
        have h2 := atL_of (s.norm x.f0.toNat x.f1).1 (m ++ t) s.out
        rw [← List.append_assoc] at h2
        exact h2
      have h3 := norm_win hb 4 _ _ s.out.length hc.1 hc.2.1 hc.2.2 hat (by
        have h4 : (s.put x.f0.toNat x.f1).out.length = s.out.length + (s.norm x.f0.toNat x.f1).1.length := List.length_append
        rw [h4] at h1
        exact h1)
      have hl := hok.l
      unfold cutL cutH at h3
      split at h3 <;> omega
    · rw [if_neg c] at he
      exact absurd he c
theorem back_step {code : List Int} (hb : Bytes code) {s : ES} {d : DS} (hs : Sync code s d) (hok : s.ok) {x : S47} (he : s.err x.f0 x.f1 = 0) (hp : ∃ t, code = (s.putI x.f0 x.f1).out ++ t) (hw : (s.putI x.f0 x.f1).low ≤ win code (s.putI x.f0 x.f1).out.length ∧ win code (s.putI x.f0 x.f1).out.length ≤ (s.putI x.f0 x.f1).high) : ∃ d', d.getI x.f0 = (d', x.f1, 0) ∧ Sync code (s.putI x.f0 x.f1) d' := by
  have hg := putI_good he
  rw [hg.2.1] at hw hp ⊢
  obtain ⟨j, hj⟩ : ∃ j : Nat, x.f0 = (j : Int) := ⟨x.f0.toNat, by omega⟩
  rw [hj, Int.toNat_natCast] at hw hp ⊢
  have hi : j < s.st.length := by omega
  have hc := ES.cut_ hok hi (bit := x.f1)
  have hmid := ES.mid_ hok hi
  obtain ⟨t, ht⟩ := hp
  have h4 : (s.put j x.f1).out.length = s.out.length + (s.norm j x.f1).1.length := List.length_append
  have hat : AtL code s.out.length (s.norm j x.f1).1 := by
    rw [ht]
    exact atL_of (s.norm j x.f1).1 t s.out
  have h3 := norm_win hb 4 _ _ s.out.length hc.1 hc.2.1 hc.2.2 hat (by
    rw [h4] at hw
    exact hw)
  have hm : d.mid j = s.mid j := by
    unfold DS.mid ES.mid
    rw [hs.l, hs.h, hs.k, hs.st]
  have hbit : d.bit j = x.f1 := by
    unfold DS.bit
    rw [hs.v, hm]
    unfold cutL cutH at h3
    rcases hg.2.2.2.2 with hx | hx
    · rw [hx] at h3 ⊢
      rw [if_neg (by decide), if_neg (by decide)] at h3
      rw [if_neg (by omega)]
    · rw [hx] at h3 ⊢
      rw [if_pos rfl, if_pos rfl] at h3
      rw [if_pos (by omega)]
  have hn : d.norm j = s.norm j x.f1 := by
    unfold DS.norm ES.norm
    rw [hs.l, hs.h, hm, hbit]
  have hlen : s.out.length + (s.norm j x.f1).1.length ≤ code.length := by
    rw [ht, List.length_append, h4]
    omega
  refine ⟨d.next j, ?_, ?_⟩
  · unfold DS.getI
    rw [if_pos (by rw [hs.st]; omega), hs.e, if_neg (by decide), Int.toNat_natCast, hn, if_neg (by rw [hs.a, hs.c]; omega), hbit]
  · have e1 : d.next j = ⟨d.kind, d.st.set j (after d.kind (rd d.st j) (d.bit j)), (d.norm j).2.1, (d.norm j).2.2, d.code, d.a + (d.norm j).1.length, shV d.code (d.norm j).1.length d.value d.a, false⟩ := rfl
    rw [e1, hn, hbit, hs.k, hs.st, hs.c, hs.a, hs.v, shV_win hb]
    exact ⟨rfl, rfl, rfl, rfl, rfl, by rw [h4]; show s.out.length + 4 + _ = _; omega, by rw [h4], rfl⟩
theorem back_all {code : List Int} (hb : Bytes code) : ∀ (l : List S47) (s : ES) (d : DS) (acc : List Int), s.ok → Sync code s d → (putsE s l).2 = 0 → (∃ t, code = (putsE s l).1.out ++ t) → ((putsE s l).1.low ≤ win code (putsE s l).1.out.length ∧ win code (putsE s l).1.out.length ≤ (putsE s l).1.high) → ∃ d', getsD d acc (l.map (·.f0)) = (d', acc ++ l.map (·.f1), 0) ∧ Sync code (putsE s l).1 d'
  | [], s, d, acc, _, hs, _, _, _ => ⟨d, by simp [getsD], hs⟩
  | x :: l, s, d, acc, hok, hs, he, hp, hw => by
    have hww := win_in hb (x :: l) s hok he hp hw
    unfold putsE at he hp hw ⊢
    by_cases c : s.err x.f0 x.f1 = 0
    · rw [if_pos c] at he hp hw ⊢
      have hok2 := ES.putI_ok hok x.f0 x.f1
      have h1 := win_in hb l (s.putI x.f0 x.f1) hok2 he hp hw
      have hp2 : ∃ t, code = (s.putI x.f0 x.f1).out ++ t := by
        obtain ⟨t, ht⟩ := hp
        obtain ⟨m, hm⟩ := putsE_pre l (s.putI x.f0 x.f1)
        exact ⟨m ++ t, by rw [ht, hm, List.append_assoc]⟩
      obtain ⟨d1, hg, hs1⟩ := back_step hb hs hok c hp2 h1
      obtain ⟨d2, hr, hs2⟩ := back_all hb l (s.putI x.f0 x.f1) d1 (acc ++ [x.f1]) hok2 hs1 he hp hw
      refine ⟨d2, ?_, hs2⟩
      rw [List.map_cons, getsD, hg]
      simp only [if_true]
      rw [hr, List.map_cons, List.append_assoc]
      rfl
    · rw [if_neg c] at he
      exact absurd he c
theorem putsE_st : ∀ (l : List S47) (s : ES), (putsE s l).2 = 0 → ∀ x ∈ l, 0 ≤ x.f0 ∧ x.f0 < s.st.length ∧ (x.f1 = 0 ∨ x.f1 = 1)
  | [], _, _ => fun x hx => absurd hx (List.not_mem_nil)
  | y :: l, s, he => by
    unfold putsE at he
    by_cases c : s.err y.f0 y.f1 = 0
    · rw [if_pos c] at he
      have hg := putI_good c
      intro x hx
      rcases List.mem_cons.1 hx with rfl | hx
      · exact hg.2.2
      · have h := putsE_st l _ he x hx
        rw [(ES.putI_len s y.f0 y.f1).2.2] at h
        exact h
    · rw [if_neg c] at he
      exact absurd he c
theorem ev_good {kind : Int} {st : List Int} {l : List S47} {b : List Int} {k2 : Int} {st2 : List Int} (h : encodeR kind st l = (b, k2, st2, 0)) : ∀ x ∈ l, x.f1 = 0 ∨ x.f1 = 1 := by
  unfold encodeR at h
  by_cases hm : okModel kind st
  · rw [if_pos hm] at h
    by_cases hl : l.length > 100000
    · rw [if_pos hl] at h
      simp at h
    · rw [if_neg hl] at h
      by_cases he : (putsE (newES kind st) l).2 = 0
      · exact fun x hx => (putsE_st l _ he x hx).2.2
      · rw [if_neg he] at h
        simp only [Prod.mk.injEq] at h
        exact absurd h.2.2.2 he
  · rw [if_neg hm] at h
    simp at h
/-- What is encoded is decoded. -/
theorem decode_encode (kind : Int) (st : List Int) (l : List S47) (b : List Int) (k2 : Int) (st2 : List Int) (h : encodeR kind st l = (b, k2, st2, 0)) (z : Nat) (hb : Bytes (b ++ List.replicate z 0)) : ∃ n : Int, 0 ≤ n ∧ n ≤ 4 ∧ decodeR kind st (b ++ List.replicate z 0) (l.map (·.f0)) = (l.map (·.f1), k2, st2, n, 0) := by
  unfold encodeR at h
  by_cases hm : okModel kind st
  · rw [if_pos hm] at h
    by_cases hl : l.length > 100000
    · rw [if_pos hl] at h
      simp at h
    · rw [if_neg hl] at h
      by_cases he : (putsE (newES kind st) l).2 = 0
      · rw [if_pos he] at h
        simp only [Prod.mk.injEq] at h
        obtain ⟨hb1, hk, hs, _⟩ := h
        have hok := newES_ok hm
        have hokN := putsE_ok l _ hok
        generalize hN : (putsE (newES kind st) l).1 = N at hb1 hk hs hokN
        have hcode : b ++ List.replicate z 0 = N.out ++ (endOf N.low N.high ++ List.replicate z 0) := by
          rw [← hb1, ← List.append_assoc]
          rfl
        have hw := end_win N.out N.low N.high z hokN.l hokN.lh hokN.h
        rw [List.append_assoc, ← hcode] at hw
        have hsync : Sync (b ++ List.replicate z 0) (newES kind st) (newDS kind st (b ++ List.replicate z 0)) := ⟨rfl, rfl, rfl, rfl, rfl, rfl, win_zero hb, rfl⟩
        obtain ⟨d', hd, hs'⟩ := back_all hb l (newES kind st) (newDS kind st (b ++ List.replicate z 0)) [] hok hsync he ⟨_, by rw [hN]; exact hcode⟩ (by rw [hN]; exact hw)
        rw [hN] at hs'
        have hbad : badK st.length (l.map (·.f0)) (l.map (·.f0)).length = false := by
          unfold badK
          rw [List.take_length, decide_eq_false (by rw [List.length_map]; omega), Bool.false_or, List.any_eq_false]
          intro x hx
          obtain ⟨y, hy, rfl⟩ := List.mem_map.1 hx
          have h1 := putsE_st l _ he y hy
          have h2 : (newES kind st).st.length = st.length := rfl
          rw [h2] at h1
          simp only [bad1, Bool.or_eq_true, decide_eq_true_eq]
          omega
        refine ⟨((d'.a - d'.code.length : Nat) : Int), by omega, ?_, ?_⟩
        · rw [hs'.a, hs'.c, hcode, List.length_append]
          omega
        · unfold decodeR
          rw [if_pos hm, hbad, if_neg (by decide), hd]
          simp only [if_true, List.nil_append]
          rw [hs'.k, hs'.st, hk, hs]
      · rw [if_neg he] at h
        simp only [Prod.mk.injEq] at h
        exact absurd h.2.2.2 he
  · rw [if_neg hm] at h
    simp at h
end Go.Proofs.Ytpnmedmghncpiaa.Back
