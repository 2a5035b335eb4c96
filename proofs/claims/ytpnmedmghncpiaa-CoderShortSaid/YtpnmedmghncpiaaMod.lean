import Derived.Test.YtpnmedmghncpiaaPCoderShortx1
import Derived.Test.YtpnmedmghncpiaaPCoderShortx2
import Derived.Test.YtpnmedmghncpiaaAid
import Derived.Test.YtpnmedmghncpiaaHandAid
import Derived.Test.YtpnmedmghncpiaaCod1
import Derived.Test.YtpnmedmghncpiaaCod2
-- needs: Aid HandAid Cod1 Cod2
-- print: coder_Valid incunableref02_Valid coder_clone incunableref02_Copy coder_New
namespace Go.Proofs.Ytpnmedmghncpiaa.Mod
open Go Go.RowKit Go.Proofs.YtpnmedmghncpiaaW.PrintWords Go.Proofs.YtpnmedmghncpiaaW.PrintLast Go.Proofs.YtpnmedmghncpiaaW.PrintMore Go.Proofs.Ytpnmedmghncpiaa.Aid Go.Proofs.Ytpnmedmghncpiaa.HandAid Go.Proofs.Ytpnmedmghncpiaa.Cod1 Go.Proofs.Ytpnmedmghncpiaa.Cod2 Go.Proofs.Ytpnmedmghncpiaa.PCoderShort
set_option linter.unusedVariables false
set_option linter.unusedSimpArgs false
instance (kind s : Int) : Decidable (okState kind s) := by unfold okState; infer_instance
/-- A model that is one. -/
def okModel (kind : Int) (st : List Int) : Prop := (kind = 0 ∨ kind = 1) ∧ st.length ≤ 8192 ∧ ∀ s ∈ st, okState kind s
instance (kind : Int) (st : List Int) : Decidable (okModel kind st) := by unfold okModel; infer_instance
theorem okState_iff (kind s : Int) (hk : kind = 0 ∨ kind = 1) : okState kind s ↔ 0 ≤ s ∧ s < (if kind = 1 then 65536 else 64) := by
  unfold okState
  rcases hk with rfl | rfl <;> simp
def allIn (e : Int) (l : List Int) : Bool := l.all fun s => decide (0 ≤ s) && decide (s < e)
theorem allIn_iff (e : Int) (l : List Int) : allIn e l = true ↔ ∀ s ∈ l, 0 ≤ s ∧ s < e := by simp [allIn]
theorem allIn_from (e : Int) (st : List Int) (i : Nat) (h : i < st.length) : allIn e (st.drop i) = ((decide (0 ≤ rd st i) && decide (rd st i < e)) && allIn e (st.drop (i + 1))) := by
  rw [drop_rd h]
  rfl
theorem valid_loop (st : List Int) (hn : st.length ≤ 8192) (e : Int) : ∀ (d i : Nat), i + d = st.length → Ev (fun k => coder_Valid.l0 k e st (st.length : Int) (i : Int)) (allIn e (st.drop i))
  | 0, i, hd => by
    refine ev_succ ?_
    simp only [coder_Valid.l0]
    refine ev_eq (ev_neg (by omega) (Ev.now _)) ?_
    rw [List.drop_of_length_le (by omega)]
    rfl
  | d + 1, i, hd => by
    refine ev_succ ?_
    simp only [coder_Valid.l0]
    simp (disch := omega) only [wrap_id]
    refine ev_pos (by omega) (ev_pos (by omega) (ev_pos (by omega) ?_))
    rw [allIn_from e st i (by omega)]
    by_cases c : rd st i < 0
    · exact ev_eq (ev_pos c (Ev.now _)) (by rw [decide_eq_false (show ¬ 0 ≤ rd st (i : Int) by omega)]; rfl)
    refine ev_neg c ?_
    by_cases c2 : rd st i ≥ e
    · exact ev_eq (ev_pos c2 (Ev.now _)) (by rw [decide_eq_false (show ¬ rd st (i : Int) < _ by omega), Bool.and_false]; rfl)
    refine ev_neg c2 (ev_eq (valid_loop st hn e d (i + 1) (by omega)) ?_)
    rw [decide_eq_true (show 0 ≤ rd st (i : Int) by omega), decide_eq_true (show rd st (i : Int) < _ by omega)]
    rfl
theorem valid_ev (kind : Int) (st : List Int) : Ev (fun k => coder_Valid.f k kind st) (decide (okModel kind st)) := by
  have hj : ∀ b, (b = false → (kind = 0 ∨ kind = 1) ∧ st.length ≤ 8192) → (b = true → ¬ okModel kind st) → Ev (fun k => coder_Valid.j0 k b kind st) (decide (okModel kind st)) := by
    intro b h1 h2
    refine ev_succ ?_
    simp only [coder_Valid.j0]
    cases b with
    | true => exact ev_eq (ev_pos (by simp) (Ev.now _)) (by simp [h2 rfl])
    | false =>
      obtain ⟨hk, hl⟩ := h1 rfl
      refine ev_neg (by simp) ?_
      have e2 : ∀ e : Int, e = (if kind = 1 then 65536 else 64) → allIn e (st.drop 0) = decide (okModel kind st) := by
        intro e he
        rw [Bool.eq_iff_iff, allIn_iff, decide_eq_true_eq]
        unfold okModel
        constructor
        · exact fun h => ⟨hk, hl, fun s hs => (okState_iff kind s hk).2 (he ▸ h s hs)⟩
        · exact fun h s hs => he ▸ (okState_iff kind s hk).1 (h.2.2 s hs)
      by_cases c : kind = 1
      · refine ev_pos c (ev_succ ?_)
        simp only [coder_Valid.j1]
        exact ev_eq (valid_loop st hl 65536 st.length 0 (by omega)) (e2 _ (by rw [if_pos c]))
      · refine ev_neg c (ev_succ ?_)
        simp only [coder_Valid.j1]
        exact ev_eq (valid_loop st hl 64 st.length 0 (by omega)) (e2 _ (by rw [if_neg c]))
  unfold coder_Valid.f
  by_cases c0 : kind = 0
  · exact ev_pos c0 (hj _ (fun h => ⟨.inl c0, by simp at h; omega⟩) (fun h hm => by have := hm.2.1; simp at h; omega))
  refine ev_neg c0 ?_
  by_cases c1 : kind = 1
  · exact ev_pos c1 (hj _ (fun h => ⟨.inr c1, by simp at h; omega⟩) (fun h hm => by have := hm.2.1; simp at h; omega))
  exact ev_neg c1 (hj _ (fun h => by simp at h) (fun _ hm => by rcases hm.1 with h | h <;> omega))
theorem valid_calls (A : Option Addr) (c : Nat) (kind : Int) (st : List Int) (w : World) (hC : Kd.C (Kd.int .i64) w A st.length st) (hc : st.length ≤ c) :
    Calls Try.prog 15 #[.agg #[.int .i64 kind, .slice A st.length c]] w fun e w' => e = .returned (.bool (decide (okModel kind st))) ∧ Below w.heap.size w w' := by
  obtain ⟨k, h⟩ := Ev.rounds (valid_ev kind st)
  exact coder_Valid.calls k kind A c st _ w hC hc h
theorem ref_valid_loop (st : List Int) (hn : st.length ≤ 8192) (e : Int) : ∀ (d i : Nat), i + d = st.length → Ev (fun k => incunableref02_Valid.l0 k e st (st.length : Int) (i : Int)) (allIn (e + 1) (st.drop i))
  | 0, i, hd => by
    refine ev_succ ?_
    simp only [incunableref02_Valid.l0]
    refine ev_eq (ev_neg (by omega) (Ev.now _)) ?_
    rw [List.drop_of_length_le (by omega)]
    rfl
  | d + 1, i, hd => by
    refine ev_succ ?_
    simp only [incunableref02_Valid.l0]
    simp (disch := omega) only [wrap_id]
    refine ev_pos (by omega) (ev_pos (by omega) (ev_pos (by omega) ?_))
    rw [allIn_from (e + 1) st i (by omega)]
    by_cases c : rd st i < 0
    · exact ev_eq (ev_pos c (Ev.now _)) (by rw [decide_eq_false (show ¬ 0 ≤ rd st (i : Int) by omega)]; rfl)
    refine ev_neg c ?_
    by_cases c2 : rd st i > e
    · exact ev_eq (ev_pos c2 (Ev.now _)) (by rw [decide_eq_false (show ¬ rd st (i : Int) < _ by omega), Bool.and_false]; rfl)
    refine ev_neg c2 (ev_eq (ref_valid_loop st hn e d (i + 1) (by omega)) ?_)
    rw [decide_eq_true (show 0 ≤ rd st (i : Int) by omega), decide_eq_true (show rd st (i : Int) < _ by omega)]
    rfl
theorem ref_valid_ev (kind : Int) (st : List Int) : Ev (fun k => incunableref02_Valid.f k kind st) (decide (okModel kind st)) := by
  have hj1 : ∀ (e : Int) b, e = (if kind = 1 then 65535 else 63) → (b = false → (kind = 0 ∨ kind = 1) ∧ st.length ≤ 8192) → (b = true → ¬ okModel kind st) → Ev (fun k => incunableref02_Valid.j1 k e b kind st) (decide (okModel kind st)) := by
    intro e b he h1 h2
    refine ev_succ ?_
    simp only [incunableref02_Valid.j1]
    cases b with
    | true => exact ev_eq (ev_pos (by simp) (Ev.now _)) (by simp [h2 rfl])
    | false =>
      obtain ⟨hk, hl⟩ := h1 rfl
      refine ev_neg (by simp) (ev_eq (ref_valid_loop st hl e st.length 0 (by omega)) ?_)
      have he' : e + 1 = (if kind = 1 then 65536 else 64) := by rw [he]; split <;> omega
      rw [Bool.eq_iff_iff, allIn_iff, decide_eq_true_eq]
      unfold okModel
      constructor
      · exact fun h => ⟨hk, hl, fun s hs => (okState_iff kind s hk).2 (he' ▸ h s hs)⟩
      · exact fun h s hs => he' ▸ (okState_iff kind s hk).1 (h.2.2 s hs)
  have hj : ∀ e : Int, e = (if kind = 1 then 65535 else 63) → Ev (fun k => incunableref02_Valid.j0 k e kind st) (decide (okModel kind st)) := by
    intro e he
    refine ev_succ ?_
    simp only [incunableref02_Valid.j0]
    by_cases c0 : kind = 0
    · exact ev_pos c0 (hj1 _ _ he (fun h => ⟨.inl c0, by simp at h; omega⟩) (fun h hm => by have := hm.2.1; simp at h; omega))
    refine ev_neg c0 ?_
    by_cases c1 : kind = 1
    · exact ev_pos c1 (hj1 _ _ he (fun h => ⟨.inr c1, by simp at h; omega⟩) (fun h hm => by have := hm.2.1; simp at h; omega))
    exact ev_neg c1 (hj1 _ _ he (fun h => by simp at h) (fun _ hm => by rcases hm.1 with h | h <;> omega))
  unfold incunableref02_Valid.f
  by_cases c1 : kind = 1
  · exact ev_pos c1 (hj _ (by rw [if_pos c1]))
  · exact ev_neg c1 (hj _ (by rw [if_neg c1]))
theorem ref_valid_calls (A : Option Addr) (c : Nat) (kind : Int) (st : List Int) (w : World) (hC : Kd.C (Kd.int .i64) w A st.length st) (hc : st.length ≤ c) :
    Calls Try.prog 16 #[.agg #[.int .i64 kind, .slice A st.length c]] w fun e w' => e = .returned (.bool (decide (okModel kind st))) ∧ Below w.heap.size w w' := by
  obtain ⟨k, h⟩ := Ev.rounds (ref_valid_ev kind st)
  exact incunableref02_Valid.calls k kind A c st _ w hC hc h
theorem clone_calls (A : Option Addr) (c : Nat) (kind : Int) (st : List Int) (w : World) (hC : Kd.C (Kd.int .i64) w A st.length st) (hc : st.length ≤ c) (hl : st.length ≤ 1000000) :
    Calls Try.prog 57 #[.agg #[.int .i64 kind, .slice A st.length c]] w fun e w' => ∃ A' c', e = .returned (.agg #[.int .i64 kind, .slice A' st.length c']) ∧ Kd.R (Kd.int .i64) 3 w' w.heap.size (fun _ => True) (.slice A' st.length c') st ∧ Below w.heap.size w w' := by
  refine (coder_clone.calls kind A c st kind st w hC hc ?_).mono ?_
  · unfold coder_clone.f
    simp only [Option.bind_some, List.nil_append, List.length_nil]
    rw [if_pos (by omega)]
  · rintro e w' ⟨v, rfl, hR, hb⟩
    obtain ⟨A', c', rfl⟩ := Kd.R_slice hR
    exact ⟨A', c', rfl, hR, hb⟩
theorem copy_calls (A : Option Addr) (c : Nat) (kind : Int) (st : List Int) (w : World) (hC : Kd.C (Kd.int .i64) w A st.length st) (hc : st.length ≤ c) (hl : st.length ≤ 1000000) :
    Calls Try.prog 18 #[.agg #[.int .i64 kind, .slice A st.length c]] w fun e w' => ∃ A' c', e = .returned (.agg #[.int .i64 kind, .slice A' st.length c']) ∧ Kd.R (Kd.int .i64) 3 w' w.heap.size (fun _ => True) (.slice A' st.length c') st ∧ Below w.heap.size w w' := by
  refine (incunableref02_Copy.calls kind A c st kind st w hC hc ?_).mono ?_
  · unfold incunableref02_Copy.f
    simp only [Option.bind_some, List.nil_append, List.length_nil]
    rw [if_pos (by omega)]
  · rintro e w' ⟨v, rfl, hR, hb⟩
    obtain ⟨A', c', rfl⟩ := Kd.R_slice hR
    exact ⟨A', c', rfl, hR, hb⟩
/-- New's model: its kind, its states, its error. -/
def newModel (kind n : Int) : Int × List Int × Int := if (kind = 0 ∨ kind = 1) ∧ 0 ≤ n ∧ n ≤ 8192 then (kind, List.replicate n.toNat 0, 0) else (0, [], 2)
theorem new_eq (kind n : Int) : coder_New.f kind n = some (newModel kind n) := by
  unfold coder_New.f newModel
  by_cases c0 : kind = 0
  · rw [if_pos c0]
    by_cases h1 : n < 0
    · rw [if_pos h1, if_neg (by omega)]
    rw [if_neg h1]
    by_cases h2 : n > 8192
    · rw [if_pos h2, if_neg (by omega)]
    rw [if_neg h2, if_pos (by omega), if_pos (by omega), if_pos ⟨.inl c0, by omega, by omega⟩]
  rw [if_neg c0]
  by_cases c1 : kind = 1
  · rw [if_pos c1]
    by_cases h1 : n < 0
    · rw [if_pos h1, if_neg (by omega)]
    rw [if_neg h1]
    by_cases h2 : n > 8192
    · rw [if_pos h2, if_neg (by omega)]
    rw [if_neg h2, if_pos (by omega), if_pos (by omega), if_pos ⟨.inr c1, by omega, by omega⟩]
  rw [if_neg c1, if_neg (by omega)]
theorem new_calls (kind n : Int) (w : World) : Calls Try.prog 12 #[.int .i64 kind, .int .i64 n] w fun e w' => ∃ A c, e = .returned (.tuple #[.agg #[.int .i64 (newModel kind n).1, .slice A (newModel kind n).2.1.length c], .int .i64 (newModel kind n).2.2]) ∧ Kd.R (Kd.int .i64) 3 w' w.heap.size (fun _ => True) (.slice A (newModel kind n).2.1.length c) (newModel kind n).2.1 ∧ Below w.heap.size w w' := by
  refine (coder_New.calls kind n _ _ _ w (new_eq kind n)).mono ?_
  rintro e w' ⟨v, rfl, hR, hb⟩
  obtain ⟨A', c', rfl⟩ := Kd.R_slice hR
  exact ⟨A', c', rfl, hR, hb⟩
theorem new_ok (kind n : Int) (h : (newModel kind n).2.2 = 0) : okModel (newModel kind n).1 (newModel kind n).2.1 := by
  unfold newModel at h ⊢
  by_cases c : (kind = 0 ∨ kind = 1) ∧ 0 ≤ n ∧ n ≤ 8192
  · rw [if_pos c]
    refine ⟨c.1, by simp; omega, fun s hs => ?_⟩
    have h0 := List.eq_of_mem_replicate hs
    subst h0
    unfold okState
    omega
  · rw [if_neg c] at h
    simp at h
end Go.Proofs.Ytpnmedmghncpiaa.Mod
