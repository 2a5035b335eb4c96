import Derived.Test.YtpnmedmghncpiaaAid
import Derived.Test.YtpnmedmghncpiaaHandAid
-- needs: Aid HandAid
import Derived.Laws.CopyOwn
import Derived.Deep.MidRow
namespace Go.Proofs.Ytpnmedmghncpiaa.Cod1
open Go Go.RowKit Go.Proofs.YtpnmedmghncpiaaW.PrintWords Go.Proofs.YtpnmedmghncpiaaW.PrintLast Go.Proofs.YtpnmedmghncpiaaW.PrintMore Go.Proofs.Ytpnmedmghncpiaa.Aid Go.Proofs.Ytpnmedmghncpiaa.HandAid
set_option linter.unusedVariables false
set_option linter.unusedSimpArgs false
/-- q(k) of the chapter. -/
def qv : Nat → Int
  | 0 => 2048
  | k + 1 => qv k - qv k / 8
theorem qv_range : ∀ k, 0 ≤ qv k ∧ qv k ≤ 2048
  | 0 => by simp [qv]
  | k + 1 => by have := qv_range k; unfold qv; omega
/-- The table when k places are written. -/
def qpart (k : Nat) : List Value := (List.range 32).map fun (i : Nat) => .int .i64 (if i < k then qv i else 0)
def qtab : Array Value := (qpart 32).toArray
theorem qpart_step (k : Nat) (h : k < 32) : ((qpart k).toArray.setIfInBounds k (.int .i64 (qv k))) = (qpart (k + 1)).toArray := by
  rw [List.setIfInBounds_toArray]
  congr 1
  apply List.ext_getElem
  · simp [qpart]
  intro j h1 h2
  simp only [qpart, List.length_set, List.length_map, List.length_range] at h1 h2
  rw [List.getElem_set]
  by_cases e : k = j
  · subst e; simp [qpart]
  · rw [if_neg e]
    simp only [qpart, List.getElem_map, List.getElem_range]
    by_cases c : j < k
    · rw [if_pos c, if_pos (by omega)]
    · rw [if_neg c, if_neg (by omega)]
theorem qsize (k : Nat) : (qpart k).toArray.size = 32 := by simp [qpart]
theorem qone (k : Nat) : (qpart k).toArray.all (·.oneCell') = true := by
  rw [Array.all_eq_true_iff_forall_mem]
  intro x hx
  simp only [qpart, List.mem_toArray, List.mem_map] at hx
  obtain ⟨i, _, rfl⟩ := hx
  rfl
theorem infoTab : (Try.prog.info? 61).map (·.size) = some 32 := by kernel_rfl
theorem infoQ (k : Nat) : (Try.prog.info? 61).map (·.size) = some (qpart k).toArray.size := by rw [qsize]; exact infoTab
def z32 : Array Value := #[.int .i64 0, .int .i64 0, .int .i64 0, .int .i64 0, .int .i64 0, .int .i64 0, .int .i64 0, .int .i64 0, .int .i64 0, .int .i64 0, .int .i64 0, .int .i64 0, .int .i64 0, .int .i64 0, .int .i64 0, .int .i64 0, .int .i64 0, .int .i64 0, .int .i64 0, .int .i64 0, .int .i64 0, .int .i64 0, .int .i64 0, .int .i64 0, .int .i64 0, .int .i64 0, .int .i64 0, .int .i64 0, .int .i64 0, .int .i64 0, .int .i64 0, .int .i64 0]
theorem z32_def : z32 = #[.int .i64 0, .int .i64 0, .int .i64 0, .int .i64 0, .int .i64 0, .int .i64 0, .int .i64 0, .int .i64 0, .int .i64 0, .int .i64 0, .int .i64 0, .int .i64 0, .int .i64 0, .int .i64 0, .int .i64 0, .int .i64 0, .int .i64 0, .int .i64 0, .int .i64 0, .int .i64 0, .int .i64 0, .int .i64 0, .int .i64 0, .int .i64 0, .int .i64 0, .int .i64 0, .int .i64 0, .int .i64 0, .int .i64 0, .int .i64 0, .int .i64 0, .int .i64 0] := rfl
theorem z32_q : z32 = (qpart 0).toArray := by rfl
set_option maxRecDepth 100000 in
theorem chances_calls (w : World) : Calls Try.prog 58 #[] w fun e w' => e = .returned (.agg qtab) ∧ Below w.heap.size w w' := by
  go_enter Try.func58, Try.ntmps58
  go_wp2
  rw [← z32_def]
  have hb0 := Aside0.mk ((below_alloc (below_alloc (Below.refl w.heap.size w) (.cells z32 61)) (.cells z32 61)))
  have hb1 : Aside0 (((w.alloc (.cells z32 61)).alloc (.cells z32 61)).heap[w.heap.size + 1]? = some (.cells (qpart 0).toArray 61 (0, 0))) := ⟨by
    have h := heap_new (w.alloc (.cells z32 61)) (.cells z32 61)
    rw [World.size_alloc, z32_q] at h
    rw [z32_q]
    exact h⟩
  have hb2 : Aside0 (((w.alloc (.cells z32 61)).alloc (.cells z32 61)).heap[w.heap.size]? = some (.cells (qpart 0).toArray 61 (0, 0))) := ⟨by
    have h := heap_new w (.cells z32 61)
    rw [z32_q] at h ⊢
    exact ((below_alloc (Below.refl _ _) _).block _ (blk_lt h)).trans h⟩
  generalize ((w.alloc (.cells z32 61)).alloc (.cells z32 61)) = W2 at hb0 hb1 hb2 ⊢
  go_loopw [2, 3, 4] (fun q _ i wr => ∃ k : Nat, k ≤ 32 ∧ q = .int .i64 (qv k) ∧ i = .int .i64 k ∧ Aside0 (wr.heap[w.heap.size]? = some (.cells (qpart 0).toArray 61 (0, 0))) ∧ Aside0 (wr.heap[w.heap.size + 1]? = some (.cells (qpart k).toArray 61 (0, 0))) ∧ Aside0 (Below w.heap.size w wr)) (fun _ _ i _ => 32 - (intOf i).toNat)
  case atStart => exact ⟨0, by omega, rfl, rfl, hb2, hb1, hb0⟩
  case round =>
    obtain ⟨k, hk, rfl, rfl, h0, h1, hB⟩ := hrel
    have hq := qv_range k
    by_cases hlt : k < 32
    · have hfz := blk_frozen h1.out k
      have hc : wr.cell? ⟨w.heap.size + 1, k, none⟩ = some (.int .i64 0) := (blk_cell h1.out k).trans (by simp [qpart, hlt])
      go_wp2
      go_roundw
      case rel =>
        refine ⟨k + 1, by omega, rfl, by go_num, ⟨?_⟩, ⟨?_⟩, ⟨?_⟩⟩
        · exact blk_far h0.out (by simp) _
        · rw [← qpart_step k hlt]
          exact blk_set h1.out k _
        · exact hB.out.setCell (by simp) _
      case measure => simp [intOf]; omega
    · obtain rfl : k = 32 := by omega
      go_wp2_with (first
        | (with_reducible refine wpList_load_row rfl _ _ rfl _ rfl _ _ _ _ h1.out Try.underlying61 rfl (infoQ 32) ?_)
        | (with_reducible refine wpList_store_row rfl _ _ _ rfl _ _ rfl rfl _ _ h0.out (infoQ 32) ((qsize 0).trans (qsize 32).symm) (qone 32) ?_))
      have hrow := setRow_heap wr w.heap.size (qpart 0).toArray (qpart 32).toArray 61 (0, 0) h0.out
      exact bodyPost_ret (v := .agg qtab) (results_cell_row rfl _ _ w.heap.size 61 _ _ _ rfl hrow Try.underlying61 rfl (infoQ 32)) rfl ⟨rfl, below_setRow hB.out (Nat.le_refl _) _⟩
/-- How likely a 1 is, of 4096, in a state. -/
def likely (kind s : Int) : Int :=
  if kind = 1 then (if 4095 < (if (2 * (s % 256) + 1) * 4096 / (2 * (s / 256) + 2 * (s % 256) + 2) < 1 then 1 else (2 * (s % 256) + 1) * 4096 / (2 * (s / 256) + 2 * (s % 256) + 2)) then 4095 else (if (2 * (s % 256) + 1) * 4096 / (2 * (s / 256) + 2 * (s % 256) + 2) < 1 then 1 else (2 * (s % 256) + 1) * 4096 / (2 * (s / 256) + 2 * (s % 256) + 2)))
  else if s ≥ 32 then 4096 - qv (s - 32).toNat else qv s.toNat
/-- A state that is one. -/
def okState (kind s : Int) : Prop := (kind = 0 ∧ 0 ≤ s ∧ s < 64) ∨ (kind = 1 ∧ 0 ≤ s ∧ s < 65536)
attribute [local go_sem] max2_int min2_int max_two min_two
theorem qtab_at (k : Nat) (h : k < 32) : qtab[k]? = some (.int .i64 (qv k)) := by simp [qtab, qpart, h]
theorem qtab_size : qtab.size = 32 := qsize 32
set_option maxHeartbeats 1000000 in
theorem chance_calls (kind s : Int) (w : World) (hs : okState kind s) : Calls Try.prog 59 #[.agg qtab, .int .i64 kind, .int .i64 s] w fun e w' => e = .returned (.int .i64 (likely kind s)) ∧ Below w.heap.size w w' := by
  rcases hs with ⟨rfl, h0, h1⟩ | ⟨rfl, h0, h1⟩
  · unfold likely
    rw [if_neg (by omega)]
    by_cases c : s ≥ 32
    · rw [if_pos c]
      have hc : (w.alloc (.cells qtab 61)).cell? ⟨w.heap.size, (s - 32).toNat, none⟩ = some (.int .i64 (qv (s - 32).toNat)) := (cell_new _ _ _ _).trans (qtab_at _ (by omega))
      have hr := qv_range (s - 32).toNat
      go_enter Try.func59, Try.ntmps59
      go_wp2
      go_ret
      exact ⟨rfl, below_alloc (Below.refl _ _) _⟩
    · rw [if_neg c]
      have hc : (w.alloc (.cells qtab 61)).cell? ⟨w.heap.size, s.toNat, none⟩ = some (.int .i64 (qv s.toNat)) := (cell_new _ _ _ _).trans (qtab_at _ (by omega))
      have hr := qv_range s.toNat
      go_enter Try.func59, Try.ntmps59
      go_wp2
      go_ret
      exact ⟨rfl, below_alloc (Below.refl _ _) _⟩
  · have hd : 0 ≤ s / 256 ∧ s / 256 ≤ 255 := by omega
    have hm : 0 ≤ s % 256 ∧ s % 256 ≤ 255 := by omega
    have hw1 : 0 ≤ (2 * (s % 256) + 1) * 4096 / (2 * (s / 256) + 2 * (s % 256) + 2) := Int.ediv_nonneg (by omega) (by omega)
    go_enter Try.func59, Try.ntmps59
    go_wp2
    all_goals
      go_ret
      refine ⟨ret_int ?_, below_alloc (Below.refl _ _) _⟩
      unfold likely
      rw [if_pos rfl]
      repeat' split
      all_goals omega
/-- The state behind a bit. -/
def after (kind s bit : Int) : Int :=
  if kind = 1 then
    (if bit = 0 then (if s / 256 = 255 then 256 * (255 / 2 + 1) + s % 256 / 2 else 256 * (s / 256 + 1) + s % 256)
     else (if s % 256 = 255 then 256 * (s / 256 / 2) + (255 / 2 + 1) else 256 * (s / 256) + (s % 256 + 1)))
  else if bit = s / 32 then 32 * (s / 32) + (if 31 < s % 32 + 1 then 31 else s % 32 + 1)
  else if s % 32 = 0 then 32 * bit + 0
  else 32 * (s / 32) + (s % 32 - (1 + s % 32 / 4))
theorem after_ok (kind s bit : Int) (hs : okState kind s) (hb : bit = 0 ∨ bit = 1) : okState kind (after kind s bit) := by
  rcases hs with ⟨rfl, h0, h1⟩ | ⟨rfl, h0, h1⟩
  · left
    refine ⟨rfl, ?_⟩
    unfold after
    rw [if_neg (by omega)]
    repeat' split
    all_goals omega
  · right
    refine ⟨rfl, ?_⟩
    unfold after
    rw [if_pos rfl]
    repeat' split
    all_goals omega
theorem likely_range (kind s : Int) (hs : okState kind s) : 1 ≤ likely kind s ∧ likely kind s ≤ 4095 := by
  rcases hs with ⟨rfl, h0, h1⟩ | ⟨rfl, h0, h1⟩
  · have key : ∀ k : Nat, k < 32 → 1 ≤ qv k ∧ qv k ≤ 2048 := by decide
    unfold likely
    rw [if_neg (by omega)]
    by_cases c : s ≥ 32
    · rw [if_pos c]
      have := key (s - 32).toNat (by omega)
      omega
    · rw [if_neg c]
      have := key s.toNat (by omega)
      omega
  · unfold likely
    rw [if_pos rfl]
    repeat' split
    all_goals omega
set_option maxHeartbeats 1000000 in
theorem next_calls (kind s bit : Int) (w : World) (hs : okState kind s) (hb : bit = 0 ∨ bit = 1) : Calls Try.prog 60 #[.int .i64 kind, .int .i64 s, .int .i64 bit] w fun e w' => e = .returned (.int .i64 (after kind s bit)) ∧ Below w.heap.size w w' := by
  rcases hs with ⟨rfl, h0, h1⟩ | ⟨rfl, h0, h1⟩
  · have hd : 0 ≤ s / 32 ∧ s / 32 ≤ 1 := by omega
    have hm : 0 ≤ s % 32 ∧ s % 32 ≤ 31 := by omega
    rcases hb with rfl | rfl
    all_goals
      go_enter Try.func60, Try.ntmps60
      go_wp2
      all_goals
        go_ret
        refine ⟨ret_int ?_, Below.refl _ _⟩
        simp only [beq_iff_eq, beq_eq_false_iff_ne, ne_eq] at *
        unfold after
        rw [if_neg (by omega)]
        repeat' split
        all_goals omega
  · have hd : 0 ≤ s / 256 ∧ s / 256 ≤ 255 := by omega
    have hm : 0 ≤ s % 256 ∧ s % 256 ≤ 255 := by omega
    rcases hb with rfl | rfl
    all_goals
      go_enter Try.func60, Try.ntmps60
      go_wp2
      all_goals
        go_ret
        refine ⟨ret_int ?_, ?_⟩
        · simp only [beq_iff_eq, beq_eq_false_iff_ne, ne_eq] at *
          unfold after
          rw [if_pos rfl]
          repeat' split
          all_goals omega
        · repeat (first | (refine Below.setCell ?_ (Nat.le_refl _) _) | exact below_alloc (Below.refl _ _) _)
def qlit : Array Value := #[.int .i64 2048, .int .i64 1792, .int .i64 1568, .int .i64 1372, .int .i64 1201, .int .i64 1051, .int .i64 920, .int .i64 805, .int .i64 705, .int .i64 617, .int .i64 540, .int .i64 473, .int .i64 414, .int .i64 363, .int .i64 318, .int .i64 279, .int .i64 245, .int .i64 215, .int .i64 189, .int .i64 166, .int .i64 146, .int .i64 128, .int .i64 112, .int .i64 98, .int .i64 86, .int .i64 76, .int .i64 67, .int .i64 59, .int .i64 52, .int .i64 46, .int .i64 41, .int .i64 36]
theorem qtab_lit : qtab = #[.int .i64 2048, .int .i64 1792, .int .i64 1568, .int .i64 1372, .int .i64 1201, .int .i64 1051, .int .i64 920, .int .i64 805, .int .i64 705, .int .i64 617, .int .i64 540, .int .i64 473, .int .i64 414, .int .i64 363, .int .i64 318, .int .i64 279, .int .i64 245, .int .i64 215, .int .i64 189, .int .i64 166, .int .i64 146, .int .i64 128, .int .i64 112, .int .i64 98, .int .i64 86, .int .i64 76, .int .i64 67, .int .i64 59, .int .i64 52, .int .i64 46, .int .i64 41, .int .i64 36] := by rfl
end Go.Proofs.Ytpnmedmghncpiaa.Cod1
