import Derived.Test.YtpnmedmghncpiaaPCoderNewx1
import Derived.Test.YtpnmedmghncpiaaPCoderShortx2
import Derived.Test.YtpnmedmghncpiaaAid
import Derived.Test.YtpnmedmghncpiaaHandAid
-- needs: Aid HandAid
-- print: incunableref02_SameBytes
-- printof CoderNew: incunableref02_SameInts incunableref02_Same
namespace Go.Proofs.Ytpnmedmghncpiaa.Same
open Go Go.RowKit Go.Proofs.YtpnmedmghncpiaaW.PrintWords Go.Proofs.YtpnmedmghncpiaaW.PrintLast Go.Proofs.YtpnmedmghncpiaaW.PrintMore Go.Proofs.Ytpnmedmghncpiaa.Aid Go.Proofs.Ytpnmedmghncpiaa.HandAid
set_option linter.unusedVariables false
set_option linter.unusedSimpArgs false
theorem drop_eq {l l' : List Int} {i : Nat} (h : i < l.length) (h' : i < l'.length) : decide (l.drop i = l'.drop i) = (decide (rd l i = rd l' i) && decide (l.drop (i + 1) = l'.drop (i + 1))) := by
  rw [drop_rd h, drop_rd h', Bool.eq_iff_iff]
  simp
theorem ints_loop (l l' : List Int) (hn : l.length ≤ 9223372036854775807) (he : l.length = l'.length) : ∀ (d i : Nat), i + d = l.length → Ev (fun k => Go.Proofs.Ytpnmedmghncpiaa.PCoderNew.incunableref02_SameInts.l0 k l l' (l.length : Int) (i : Int)) (decide (l.drop i = l'.drop i))
  | 0, i, hd => by
    refine ev_succ ?_
    simp only [Go.Proofs.Ytpnmedmghncpiaa.PCoderNew.incunableref02_SameInts.l0]
    refine ev_eq (ev_neg (by omega) (Ev.now _)) ?_
    rw [List.drop_of_length_le (by omega), List.drop_of_length_le (by omega)]
    rfl
  | d + 1, i, hd => by
    refine ev_succ ?_
    simp only [Go.Proofs.Ytpnmedmghncpiaa.PCoderNew.incunableref02_SameInts.l0]
    simp (disch := omega) only [wrap_id]
    refine ev_pos (by omega) (ev_pos (by omega) (ev_pos (by omega) (ev_pos (by omega) ?_)))
    rw [drop_eq (by omega) (by omega)]
    by_cases c : rd l i = rd l' i
    · exact ev_eq (ev_pos c (ints_loop l l' hn he d (i + 1) (by omega))) (by rw [decide_eq_true c]; rfl)
    · exact ev_eq (ev_neg c (Ev.now _)) (by rw [decide_eq_false c]; rfl)
theorem ints_ev (l l' : List Int) (hn : l.length ≤ 9223372036854775807) : Ev (fun k => Go.Proofs.Ytpnmedmghncpiaa.PCoderNew.incunableref02_SameInts.f k l l') (decide (l = l')) := by
  unfold Go.Proofs.Ytpnmedmghncpiaa.PCoderNew.incunableref02_SameInts.f
  by_cases c : l.length = l'.length
  · exact ev_pos (by omega) (by have := ints_loop l l' hn c l.length 0 (by omega); simpa using this)
  · exact ev_eq (ev_neg (by omega) (Ev.now _)) (by rw [decide_eq_false]; rintro rfl; exact c rfl)
theorem bytes_loop (l l' : List Int) (hn : l.length ≤ 9223372036854775807) (he : l.length = l'.length) : ∀ (d i : Nat), i + d = l.length → Ev (fun k => Go.Proofs.Ytpnmedmghncpiaa.PCoderShort.incunableref02_SameBytes.l0 k l l' (l.length : Int) (i : Int)) (decide (l.drop i = l'.drop i))
  | 0, i, hd => by
    refine ev_succ ?_
    simp only [Go.Proofs.Ytpnmedmghncpiaa.PCoderShort.incunableref02_SameBytes.l0]
    refine ev_eq (ev_neg (by omega) (Ev.now _)) ?_
    rw [List.drop_of_length_le (by omega), List.drop_of_length_le (by omega)]
    rfl
  | d + 1, i, hd => by
    refine ev_succ ?_
    simp only [Go.Proofs.Ytpnmedmghncpiaa.PCoderShort.incunableref02_SameBytes.l0]
    simp (disch := omega) only [wrap_id]
    refine ev_pos (by omega) (ev_pos (by omega) (ev_pos (by omega) (ev_pos (by omega) ?_)))
    rw [drop_eq (by omega) (by omega)]
    by_cases c : rd l i = rd l' i
    · exact ev_eq (ev_pos c (bytes_loop l l' hn he d (i + 1) (by omega))) (by rw [decide_eq_true c]; rfl)
    · exact ev_eq (ev_neg c (Ev.now _)) (by rw [decide_eq_false c]; rfl)
theorem bytes_ev (l l' : List Int) (hn : l.length ≤ 9223372036854775807) : Ev (fun k => Go.Proofs.Ytpnmedmghncpiaa.PCoderShort.incunableref02_SameBytes.f k l l') (decide (l = l')) := by
  unfold Go.Proofs.Ytpnmedmghncpiaa.PCoderShort.incunableref02_SameBytes.f
  by_cases c : l.length = l'.length
  · exact ev_pos (by omega) (by have := bytes_loop l l' hn c l.length 0 (by omega); simpa using this)
  · exact ev_eq (ev_neg (by omega) (Ev.now _)) (by rw [decide_eq_false]; rintro rfl; exact c rfl)
theorem same_ev (a a' : Int) (l l' : List Int) (hn : l.length ≤ 9223372036854775807) : Ev (fun k => Go.Proofs.Ytpnmedmghncpiaa.PCoderNew.incunableref02_Same.f k a l a' l') (decide (a = a' ∧ l = l')) := by
  unfold Go.Proofs.Ytpnmedmghncpiaa.PCoderNew.incunableref02_Same.f
  by_cases c : a = a'
  · exact ev_pos c (ev_bind (ints_ev l l' hn) (ev_eq (Ev.now _) (by simp [c])))
  · exact ev_eq (ev_neg c (Ev.now _)) (by simp [c])
theorem ints_calls (A : Option Addr) (c : Nat) (A' : Option Addr) (c' : Nat) (l l' : List Int) (w : World) (hC : Kd.C (Kd.int .i64) w A l.length l) (hc : l.length ≤ c) (hC' : Kd.C (Kd.int .i64) w A' l'.length l') (hc' : l'.length ≤ c') :
    Calls Try.prog 46 #[.slice A l.length c, .slice A' l'.length c'] w fun e w' => e = .returned (.bool (decide (l = l'))) ∧ Drawn0 w w' := by
  obtain ⟨k, h⟩ := Ev.rounds (ints_ev l l' (Kd.C_max hC))
  exact Go.Proofs.Ytpnmedmghncpiaa.PCoderNew.incunableref02_SameInts.calls k A c l A' c' l' _ w hC hc hC' hc' h
theorem bytes_calls (A : Option Addr) (c : Nat) (A' : Option Addr) (c' : Nat) (l l' : List Int) (w : World) (hC : Kd.C (Kd.int .u8) w A l.length l) (hc : l.length ≤ c) (hC' : Kd.C (Kd.int .u8) w A' l'.length l') (hc' : l'.length ≤ c') :
    Calls Try.prog 21 #[.slice A l.length c, .slice A' l'.length c'] w fun e w' => e = .returned (.bool (decide (l = l'))) ∧ Drawn0 w w' := by
  obtain ⟨k, h⟩ := Ev.rounds (bytes_ev l l' (Kd.C_max hC))
  exact Go.Proofs.Ytpnmedmghncpiaa.PCoderShort.incunableref02_SameBytes.calls k A c l A' c' l' _ w hC hc hC' hc' h
theorem same_calls (A : Option Addr) (c : Nat) (A' : Option Addr) (c' : Nat) (a a' : Int) (l l' : List Int) (w : World) (hC : Kd.C (Kd.int .i64) w A l.length l) (hc : l.length ≤ c) (hC' : Kd.C (Kd.int .i64) w A' l'.length l') (hc' : l'.length ≤ c') :
    Calls Try.prog 14 #[.agg #[.int .i64 a, .slice A l.length c], .agg #[.int .i64 a', .slice A' l'.length c']] w fun e w' => e = .returned (.bool (decide (a = a' ∧ l = l'))) ∧ Below w.heap.size w w' := by
  obtain ⟨k, h⟩ := Ev.rounds (same_ev a a' l l' (Kd.C_max hC))
  exact Go.Proofs.Ytpnmedmghncpiaa.PCoderNew.incunableref02_Same.calls k a A c l a' A' c' l' _ w hC hc hC' hc' h
/-- Same, of what is the same. -/
theorem same_true (A : Option Addr) (c : Nat) (A' : Option Addr) (c' : Nat) (a : Int) (l : List Int) (n n' : Nat) (w : World) (hn : n = l.length) (hn' : n' = l.length) (hC : Kd.C (Kd.int .i64) w A l.length l) (hc : l.length ≤ c) (hC' : Kd.C (Kd.int .i64) w A' l.length l) (hc' : l.length ≤ c') :
    Calls Try.prog 14 #[.agg #[.int .i64 a, .slice A n c], .agg #[.int .i64 a, .slice A' n' c']] w fun e w' => e = .returned (.bool true) ∧ Below w.heap.size w w' := by
  subst hn hn'
  have h := same_calls A c A' c' a a l l w hC hc hC' hc'
  rw [decide_eq_true (show a = a ∧ l = l from ⟨rfl, rfl⟩)] at h
  exact h
theorem bytes_true (A : Option Addr) (c : Nat) (A' : Option Addr) (c' : Nat) (l : List Int) (n n' : Nat) (w : World) (hn : n = l.length) (hn' : n' = l.length) (hC : Kd.C (Kd.int .u8) w A l.length l) (hc : l.length ≤ c) (hC' : Kd.C (Kd.int .u8) w A' l.length l) (hc' : l.length ≤ c') :
    Calls Try.prog 21 #[.slice A n c, .slice A' n' c'] w fun e w' => e = .returned (.bool true) ∧ Drawn0 w w' := by
  subst hn hn'
  have h := bytes_calls A c A' c' l l w hC hc hC' hc'
  rw [decide_eq_true (show l = l from rfl)] at h
  exact h
end Go.Proofs.Ytpnmedmghncpiaa.Same
