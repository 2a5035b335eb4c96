import Derived.Test.YtpnmedmghncpiaaPCoderShortx3
import Derived.Test.YtpnmedmghncpiaaAid
import Derived.Test.YtpnmedmghncpiaaHandAid
import Derived.Test.YtpnmedmghncpiaaCod1
import Derived.Test.YtpnmedmghncpiaaCod2
import Derived.Test.YtpnmedmghncpiaaCod3
import Derived.Test.YtpnmedmghncpiaaMod
import Derived.Test.YtpnmedmghncpiaaEnc
import Derived.Test.YtpnmedmghncpiaaMods
import Derived.Test.YtpnmedmghncpiaaEncAt
import Derived.Test.YtpnmedmghncpiaaPut
import Derived.Test.YtpnmedmghncpiaaEnd
import Derived.Test.YtpnmedmghncpiaaEncode
-- needs: Aid HandAid Cod1 Cod2 Cod3 Mod Enc Mods EncAt Put End Encode
-- print: incunablelaw02_split
namespace Go.Proofs.Ytpnmedmghncpiaa.Split
open Go Go.RowKit Go.Proofs.YtpnmedmghncpiaaW.PrintWords Go.Proofs.YtpnmedmghncpiaaW.PrintLast Go.Proofs.YtpnmedmghncpiaaW.PrintMore Go.Proofs.Ytpnmedmghncpiaa.Aid Go.Proofs.Ytpnmedmghncpiaa.HandAid Go.Proofs.Ytpnmedmghncpiaa.Cod1 Go.Proofs.Ytpnmedmghncpiaa.Cod2 Go.Proofs.Ytpnmedmghncpiaa.Cod3 Go.Proofs.Ytpnmedmghncpiaa.Mod Go.Proofs.Ytpnmedmghncpiaa.Enc Go.Proofs.Ytpnmedmghncpiaa.Mods Go.Proofs.Ytpnmedmghncpiaa.EncAt Go.Proofs.Ytpnmedmghncpiaa.Put Go.Proofs.Ytpnmedmghncpiaa.End Go.Proofs.Ytpnmedmghncpiaa.Encode Go.Proofs.Ytpnmedmghncpiaa.PCoderShort
set_option linter.unusedVariables false
set_option linter.unusedSimpArgs false
theorem split_loop (l : List S47) (hn : l.length ≤ 20000) : ∀ (d i : Nat) (x2 x3 : List Int), i + d = l.length → x2.length = i → x3.length = i → Ev (fun k => incunablelaw02_split.l0 k x2 x3 l (l.length : Int) (i : Int)) (x2 ++ (l.drop i).map (·.f0), x3 ++ (l.drop i).map (fun x => x.f1 % 256))
  | 0, i, x2, x3, hd, h2, h3 => by
    refine ev_succ ?_
    simp only [incunablelaw02_split.l0]
    refine ev_eq (ev_neg (by omega) (Ev.now _)) ?_
    rw [List.drop_of_length_le (by omega)]
    simp
  | d + 1, i, x2, x3, hd, h2, h3 => by
    refine ev_succ ?_
    simp only [incunablelaw02_split.l0, Option.bind_some]
    simp (disch := omega) only [wrap_id]
    refine ev_pos (by omega) (ev_pos (by omega) (ev_pos (by omega) (ev_pos (by simp only [List.length_cons, List.length_nil]; omega) (ev_pos (by simp only [List.length_cons, List.length_nil]; omega) ?_))))
    refine ev_eq (split_loop l hn d (i + 1) _ _ (by omega) (by simp [h2]) (by simp [h3])) ?_
    rw [drop_rdE (l := l) (i := i) (by omega)]
    simp
theorem split_calls (A0 : Option Addr) (c0 : Nat) (l : List S47) (w : World) (hC : Kd.C k47 w A0 l.length l) (hc : l.length ≤ c0) (hn : l.length ≤ 20000) (hg : ∀ x ∈ l, x.f1 = 0 ∨ x.f1 = 1) :
    Calls Try.prog 44 #[.slice A0 l.length c0] w fun e w' => ∃ A1 c1 A2 c2, e = .returned (.tuple #[.slice A1 (l.map (·.f0)).length c1, .slice A2 (l.map (·.f1)).length c2]) ∧ Kd.R (Kd.int .i64) 3 w' w.heap.size (fun _ => True) (.slice A1 (l.map (·.f0)).length c1) (l.map (·.f0)) ∧ Kd.R (Kd.int .u8) 5 w' w.heap.size (fun _ => True) (.slice A2 (l.map (·.f1)).length c2) (l.map (·.f1)) ∧ Below w.heap.size w w' := by
  have hev : Ev (fun k => incunablelaw02_split.f k l) (l.map (·.f0), l.map (·.f1)) := by
    unfold incunablelaw02_split.f
    refine ev_eq (split_loop l hn l.length 0 [] [] (by omega) rfl rfl) ?_
    simp only [List.drop_zero, List.nil_append, Prod.mk.injEq, true_and]
    refine List.map_congr_left fun x hx => ?_
    rcases hg x hx with h | h <;> rw [h] <;> rfl
  obtain ⟨k, h⟩ := Ev.rounds hev
  refine (incunablelaw02_split.calls k A0 c0 l _ _ w hC hc h).mono ?_
  rintro e w' ⟨v0, v1, rfl, h0, h1, hb⟩
  obtain ⟨A1, c1, rfl⟩ := Kd.R_slice h0
  obtain ⟨A2, c2, rfl⟩ := Kd.R_slice h1
  exact ⟨A1, c1, A2, c2, rfl, h0, h1, hb⟩
theorem norm_bytes : ∀ (d : Nat) (l h : Int), 0 ≤ l → l ≤ h → h ≤ 4294967295 → Bytes (normE d l h).1
  | 0, _, _, _, _, _ => fun x hx => absurd hx List.not_mem_nil
  | d + 1, l, h, h0, h1, h2 => by
    unfold normE
    split
    · intro x hx
      rcases List.mem_cons.1 hx with rfl | hx
      · omega
      · exact norm_bytes d _ _ (by omega) (by omega) (by omega) x hx
    · exact fun x hx => absurd hx List.not_mem_nil
theorem putsE_bytes : ∀ (l : List S47) (s : ES), s.ok → Bytes s.out → Bytes (putsE s l).1.out
  | [], s, _, h => h
  | x :: l, s, hok, h => by
    unfold putsE
    split
    · refine putsE_bytes l _ (ES.putI_ok hok _ _) ?_
      unfold ES.putI
      split
      · rename_i hg
        simp only [ES.good, Bool.and_eq_true, Bool.or_eq_true, decide_eq_true_eq] at hg
        have hc := ES.cut_ hok (i := x.f0.toNat) (by omega) (bit := x.f1)
        intro y hy
        rcases List.mem_append.1 hy with hy | hy
        · exact h y hy
        · exact norm_bytes 4 _ _ hc.1 hc.2.1 hc.2.2 y hy
      · exact h
    · exact h
theorem endOf_bytes (low high : Int) (h0 : 0 ≤ high) (h1 : high ≤ 4294967295) : Bytes (endOf low high) := by
  intro x hx
  have hx := List.mem_of_mem_take hx
  simp only [hiBytes, List.mem_cons, List.not_mem_nil, or_false] at hx
  rcases hx with rfl | rfl | rfl | rfl <;> omega
theorem encode_bytes (kind : Int) (st : List Int) (l : List S47) : Bytes (encodeR kind st l).1 := by
  have hnil : Bytes [] := fun x hx => absurd hx List.not_mem_nil
  unfold encodeR
  split
  · rename_i hm
    split
    · exact hnil
    · split
      · have hok := newES_ok hm
        have hokN := putsE_ok l _ hok
        intro y hy
        have hy : y ∈ (putsE (newES kind st) l).1.out ++ endOf (putsE (newES kind st) l).1.low (putsE (newES kind st) l).1.high := hy
        rcases List.mem_append.1 hy with hy | hy
        · exact putsE_bytes l _ hok hnil y hy
        · have h1 := hokN.l
          have h2 := hokN.lh
          exact endOf_bytes _ _ (by omega) hokN.h y hy
      · exact hnil
  · exact hnil
/-- The length of a code; and what an error leaves. -/
theorem encode_len (kind : Int) (st : List Int) (l : List S47) : (encodeR kind st l).1.length ≤ 4 * l.length + 4 := by
  unfold encodeR
  split
  · split
    · simp
    · split
      · have h := putsE_out l (newES kind st)
        have h2 := ES.end_len (putsE (newES kind st) l).1
        have h3 : (newES kind st).out.length = 0 := rfl
        show (putsE (newES kind st) l).1.end_.length ≤ _
        omega
      · simp
  · simp
theorem encode_err (kind : Int) (st : List Int) (l : List S47) (h : (encodeR kind st l).2.2.2 ≠ 0) : (encodeR kind st l).1 = [] := by
  unfold encodeR at h ⊢
  split
  · rename_i hm
    rw [if_pos hm] at h
    split
    · rfl
    · rename_i hl
      rw [if_neg hl] at h
      split
      · rename_i he
        rw [if_pos he] at h
        exact absurd rfl h
      · rfl
  · rfl
end Go.Proofs.Ytpnmedmghncpiaa.Split
