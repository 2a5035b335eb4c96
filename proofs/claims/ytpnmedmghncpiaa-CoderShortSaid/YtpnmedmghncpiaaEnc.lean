import Derived.Test.YtpnmedmghncpiaaAid
import Derived.Test.YtpnmedmghncpiaaHandAid
import Derived.Test.YtpnmedmghncpiaaCod1
import Derived.Test.YtpnmedmghncpiaaCod2
import Derived.Test.YtpnmedmghncpiaaCod3
import Derived.Test.YtpnmedmghncpiaaMod
-- needs: Aid HandAid Cod1 Cod2 Cod3 Mod
import Derived.Laws.CopyOwn
import Derived.Deep.MidRow
namespace Go.Proofs.Ytpnmedmghncpiaa.Enc
open Go Go.RowKit Go.Proofs.YtpnmedmghncpiaaW.PrintWords Go.Proofs.YtpnmedmghncpiaaW.PrintLast Go.Proofs.YtpnmedmghncpiaaW.PrintMore Go.Proofs.Ytpnmedmghncpiaa.Aid Go.Proofs.Ytpnmedmghncpiaa.HandAid Go.Proofs.Ytpnmedmghncpiaa.Cod1 Go.Proofs.Ytpnmedmghncpiaa.Cod2 Go.Proofs.Ytpnmedmghncpiaa.Cod3 Go.Proofs.Ytpnmedmghncpiaa.Mod
set_option linter.unusedVariables false
set_option linter.unusedSimpArgs false
def z36 : Array Value := #[.int .i64 0, .slice none 0 0, .int .i64 0, .int .i64 0, .int .i64 0, .int .i64 0, .int .i64 0, .int .i64 0, .int .i64 0, .int .i64 0, .int .i64 0, .int .i64 0, .int .i64 0, .int .i64 0, .int .i64 0, .int .i64 0, .int .i64 0, .int .i64 0, .int .i64 0, .int .i64 0, .int .i64 0, .int .i64 0, .int .i64 0, .int .i64 0, .int .i64 0, .int .i64 0, .int .i64 0, .int .i64 0, .int .i64 0, .int .i64 0, .int .i64 0, .int .i64 0, .int .i64 0, .int .i64 0, .int .u64 0, .int .u64 0]
theorem z36_def : z36 = #[.int .i64 0, .slice none 0 0, .int .i64 0, .int .i64 0, .int .i64 0, .int .i64 0, .int .i64 0, .int .i64 0, .int .i64 0, .int .i64 0, .int .i64 0, .int .i64 0, .int .i64 0, .int .i64 0, .int .i64 0, .int .i64 0, .int .i64 0, .int .i64 0, .int .i64 0, .int .i64 0, .int .i64 0, .int .i64 0, .int .i64 0, .int .i64 0, .int .i64 0, .int .i64 0, .int .i64 0, .int .i64 0, .int .i64 0, .int .i64 0, .int .i64 0, .int .i64 0, .int .i64 0, .int .i64 0, .int .u64 0, .int .u64 0] := rfl
/-- An interval's cells. -/
def iv36 (kind : Int) (v : Value) (low high : Int) : Array Value := #[.int .i64 kind, v, .int .i64 2048, .int .i64 1792, .int .i64 1568, .int .i64 1372, .int .i64 1201, .int .i64 1051, .int .i64 920, .int .i64 805, .int .i64 705, .int .i64 617, .int .i64 540, .int .i64 473, .int .i64 414, .int .i64 363, .int .i64 318, .int .i64 279, .int .i64 245, .int .i64 215, .int .i64 189, .int .i64 166, .int .i64 146, .int .i64 128, .int .i64 112, .int .i64 98, .int .i64 86, .int .i64 76, .int .i64 67, .int .i64 59, .int .i64 52, .int .i64 46, .int .i64 41, .int .i64 36, .int .u64 low, .int .u64 high]
theorem iv36_size (kind : Int) (v : Value) (low high : Int) : (iv36 kind v low high).size = 36 := rfl
theorem info36 (kind : Int) (v : Value) (low high : Int) : (Try.prog.info? 64).map (·.size) = some (iv36 kind v low high).size := by rw [iv36_size]; kernel_rfl
theorem one36 (kind : Int) (A : Option Addr) (n c : Nat) (low high : Int) : (iv36 kind (.slice A n c) low high).all (·.oneCell') = true := by simp [iv36, Value.oneCell']
set_option maxHeartbeats 1000000 in
set_option maxRecDepth 100000 in
theorem begin_calls (A : Option Addr) (c : Nat) (kind : Int) (st : List Int) (w : World) (hC : Kd.C (Kd.int .i64) w A st.length st) (hc : st.length ≤ c) (hl : st.length ≤ 1000000) :
    Calls Try.prog 47 #[.agg #[.int .i64 kind, .slice A st.length c]] w fun e w' => ∃ A' c', e = .returned (.agg (iv36 kind (.slice A' st.length c') 0 4294967295)) ∧ Kd.R (Kd.int .i64) 3 w' w.heap.size (fun _ => True) (.slice A' st.length c') st ∧ Below w.heap.size w w' := by
  have HC := Aside0.mk hC
  clear hC
  go_enter Try.func47, Try.ntmps47
  go_wp2_with (fail)
  rw [← z36_def]
  have hb0 := Aside0.mk (below_alloc (below_alloc (Below.refl w.heap.size w) (.cells #[.int .i64 kind, .slice A st.length c] 24)) (.cells z36 64))
  have hb1 : Aside0 (((w.alloc (.cells #[.int .i64 kind, .slice A st.length c] 24)).alloc (.cells z36 64)).heap[w.heap.size + 1]? = some (.cells z36 64 (0, 0))) := ⟨by
    have h := heap_new (w.alloc (.cells #[.int .i64 kind, .slice A st.length c] 24)) (.cells z36 64)
    rw [World.size_alloc] at h
    exact h⟩
  generalize ((w.alloc (.cells #[.int .i64 kind, .slice A st.length c] 24)).alloc (.cells z36 64)) = W2 at hb0 hb1 ⊢
  refine (clone_calls A c kind st _ (Kd.C_below HC.out hb0.out) hc hl).mono ?_
  rintro e w1 ⟨A1, c1, rfl, hR, hB⟩
  have HR := Aside0.mk hR
  have HB := Aside0.mk hB
  have HB2 := Aside0.mk (below_then hb0.out hb0.out.size hB)
  have hq1 : Aside0 (w1.heap[w.heap.size + 1]? = some (.cells z36 64 (0, 0))) := ⟨(hB.block _ (blk_lt hb1.out)).trans hb1.out⟩
  have HB2' : Aside0 (w.heap.size ≤ W2.heap.size) := ⟨hb0.out.size⟩
  clear hR hB hb1
  go_wp2_with (first
    | (go_at_call 58; refine (chances_calls _).mono ?_; rintro e w2 ⟨rfl, hB⟩; rw [qtab_lit]; have HB3 := Aside0.mk (below_then HB2.out HB2.out.size hB); have HR3' := Kd.R_below HR.out hB; have hq2 : Aside0 (w2.heap[w.heap.size + 1]? = some (.cells z36 64 (0, 0))) := ⟨(hB.block _ (blk_lt hq1.out)).trans hq1.out⟩; have HR3 := Aside0.mk (Kd.R_types HR3' hq2.out (by decide)); clear hB HR3')
    | (with_reducible refine wpList_store_row rfl _ _ _ rfl _ (iv36 kind (.slice A1 st.length c1) 0 4294967295) rfl rfl _ _ hq2.out (info36 _ _ _ _) rfl (one36 _ _ _ _ _ _) ?_))
  have hrow := setRow_heap w2 (w.heap.size + 1) z36 (iv36 kind (.slice A1 st.length c1) 0 4294967295) 64 (0, 0) hq2.out
  have hR4 := Kd.R_lower (Kd.R_step HR3.out (w1 := w2.setRow (w.heap.size + 1) (iv36 kind (.slice A1 st.length c1) 0 4294967295)) fun k hk hlt => setRow_other _ _ _ _ hk.2) HB2'.out
  exact bodyPost_ret (v := .agg (iv36 kind (.slice A1 st.length c1) 0 4294967295)) (results_cell_row rfl _ _ (w.heap.size + 1) 64 _ _ _ rfl hrow Try.underlying64 rfl (info36 _ _ _ _)) rfl ⟨A1, c1, rfl, Kd.R_mono hR4 (fun _ _ => trivial), below_setRow HB3.out (Nat.le_succ _) _⟩
/-- An encoder's cells. -/
def enc38 (kind : Int) (v : Value) (low high : Int) (o : Value) (real : Bool) : Array Value := #[.int .i64 kind, v, .int .i64 2048, .int .i64 1792, .int .i64 1568, .int .i64 1372, .int .i64 1201, .int .i64 1051, .int .i64 920, .int .i64 805, .int .i64 705, .int .i64 617, .int .i64 540, .int .i64 473, .int .i64 414, .int .i64 363, .int .i64 318, .int .i64 279, .int .i64 245, .int .i64 215, .int .i64 189, .int .i64 166, .int .i64 146, .int .i64 128, .int .i64 112, .int .i64 98, .int .i64 86, .int .i64 76, .int .i64 67, .int .i64 59, .int .i64 52, .int .i64 46, .int .i64 41, .int .i64 36, .int .u64 low, .int .u64 high, o, .bool real]
/-- An encoder at block g, its rows within own. -/
structure IsEnc (W : World) (own : Nat → Prop) (base g : Nat) (kind : Int) (st : List Int) (low high : Int) (out : List Int) : Prop where
  ex : ∃ A n c vo, W.heap[g]? = some (.cells (enc38 kind (.slice A n c) low high vo true) 66 (0, 0)) ∧ Kd.R (Kd.int .i64) 3 W base own (.slice A n c) st ∧ Kd.R (Kd.int .u8) 5 W base own vo out
  og : own g
  bg : base ≤ g
  ok : okModel kind st
  l0 : 0 ≤ low
  lh : low / 16777216 ≠ high / 16777216
  le : low ≤ high
  h1 : high ≤ 4294967295
theorem newenc_bad (A : Option Addr) (c : Nat) (kind : Int) (st : List Int) (w : World) (hC : Kd.C (Kd.int .i64) w A st.length st) (hc : st.length ≤ c) (hm : ¬ okModel kind st) :
    Calls Try.prog 22 #[.agg #[.int .i64 kind, .slice A st.length c]] w fun e w' => e = .returned (.tuple #[.pointer none, .int .i64 10]) ∧ Below w.heap.size w w' := by
  have HC := Aside0.mk hC
  have hv := valid_calls A c kind st
  rw [decide_eq_false hm] at hv
  have HV := Aside0.mk hv
  clear hC hv
  have hb0 := Aside0.mk (below_alloc (Below.refl w.heap.size w) (.cells #[.int .i64 kind, .slice A st.length c] 24))
  go_enter Try.func22, Try.ntmps22
  go_wp2_with (go_at_call 15; refine (HV.out _ (Kd.C_below HC.out hb0.out) hc).mono ?_; rintro e w1 ⟨rfl, hB⟩; have HB := Aside0.mk (below_then hb0.out hb0.out.size hB); clear hB)
  go_ret2
  exact ⟨rfl, HB.out⟩
set_option maxHeartbeats 1000000 in
set_option maxRecDepth 100000 in
theorem newenc_calls (A : Option Addr) (c : Nat) (kind : Int) (st : List Int) (w : World) (hC : Kd.C (Kd.int .i64) w A st.length st) (hc : st.length ≤ c) (hm : okModel kind st) :
    Calls Try.prog 22 #[.agg #[.int .i64 kind, .slice A st.length c]] w fun e w' => ∃ g, e = .returned (.tuple #[.pointer (some ⟨g, 0, none⟩), .int .i64 0]) ∧ IsEnc w' (fun k => w.heap.size ≤ k ∧ k < w'.heap.size) w.heap.size g kind st 0 4294967295 [] ∧ Below w.heap.size w w' := by
  have HC := Aside0.mk hC
  have hv := valid_calls A c kind st
  rw [decide_eq_true hm] at hv
  have HV := Aside0.mk hv
  have HM := Aside0.mk hm
  have hl := hm.2.1
  clear hC hv hm
  have hb0 := Aside0.mk (below_alloc (Below.refl w.heap.size w) (.cells #[.int .i64 kind, .slice A st.length c] 24))
  have hq0 : Aside0 ((w.alloc (.cells #[.int .i64 kind, .slice A st.length c] 24)).heap[w.heap.size]? = some (.cells #[.int .i64 kind, .slice A st.length c] 24 (0, 0))) := ⟨heap_new _ _⟩
  go_enter Try.func22, Try.ntmps22
  go_wp2_with (first
    | (go_at_call 15; refine (HV.out _ (Kd.C_below HC.out hb0.out) hc).mono ?_; rintro e w1 ⟨rfl, hB⟩; have HB := Aside0.mk (below_then hb0.out hb0.out.size hB); have hq1 : Aside0 (w1.heap[w.heap.size]? = some (.cells #[.int .i64 kind, .slice A st.length c] 24 (0, 0))) := ⟨(hB.block _ (blk_lt hq0.out)).trans hq0.out⟩; have k0 : w1.cell? ⟨w.heap.size, 0, none⟩ = some (.int .i64 kind) := (blk_cell hq1.out 0).trans rfl; have k1 : w1.cell? ⟨w.heap.size, 1, none⟩ = some (.slice A st.length c) := (blk_cell hq1.out 1).trans rfl; clear hB)
    | (go_at_call 47; refine (begin_calls A c kind st _ (Kd.C_below HC.out HB.out) hc (by omega)).mono ?_; rintro e w2 ⟨A2, c2, rfl, hR, hB⟩; have HB2 := Aside0.mk (below_then HB.out HB.out.size hB); have HR := Aside0.mk (Kd.R_lower hR HB.out.size); clear hR hB; unfold iv36))
  go_ret2
  refine ⟨w2.heap.size, rfl, ⟨⟨A2, st.length, c2, .slice none 0 0, heap_new w2 (.cells (enc38 kind (.slice A2 st.length c2) 0 4294967295 (.slice none 0 0) true) 66), ?_, Kd.R_nil _ _ _ _ _⟩, ⟨HB2.out.size, by simp⟩, HB2.out.size, HM.out, by omega, by decide, by omega, by omega⟩, below_alloc HB2.out _⟩
  exact Kd.R_mono (Kd.R_alloc (Kd.R_bound HR.out) _) (fun k hk => ⟨hk.2.1, by have := hk.2.2.1; simp; omega⟩)
theorem enc_none_nil (w : World) : Calls Try.prog 49 #[.pointer none] w fun e w' => e = .returned (.bool true) ∧ w = w' := by
  go_enter Try.func49, Try.ntmps49
  go_wp2
  go_ret
  exact ⟨rfl, rfl⟩
theorem enc_none (w : World) (g : Nat) (real : Bool) (h2 : w.cell? ⟨g, 37, none⟩ = some (.bool real)) : Calls Try.prog 49 #[.pointer (some ⟨g, 0, none⟩)] w fun e w' => e = .returned (.bool (!real)) ∧ w = w' := by
  go_enter Try.func49, Try.ntmps49
  go_wp2
  go_ret
  exact ⟨rfl, rfl⟩
theorem enc_put_nil (w : World) (i b : Int) : Calls Try.prog 24 #[.pointer none, .int .i64 i, .int .i64 b] w fun e w' => e = .returned (.int .i64 7) ∧ w = w' := by
  go_enter Try.func24, Try.ntmps24
  go_wp2_with (go_at_call 49; refine (enc_none_nil _).mono ?_; rintro e w' ⟨rfl, rfl⟩)
  go_ret
  exact ⟨rfl, rfl⟩
theorem enc_put_zero (w : World) (g : Nat) (i b : Int) (h2 : w.cell? ⟨g, 37, none⟩ = some (.bool false)) : Calls Try.prog 24 #[.pointer (some ⟨g, 0, none⟩), .int .i64 i, .int .i64 b] w fun e w' => e = .returned (.int .i64 7) ∧ w = w' := by
  go_enter Try.func24, Try.ntmps24
  go_wp2_with (go_at_call 49; refine (enc_none _ _ _ h2).mono ?_; rintro e w' ⟨rfl, rfl⟩)
  go_ret
  exact ⟨rfl, rfl⟩
theorem enc_put_arg (w : World) (g : Nat) (A : Option Addr) (n c : Nat) (i b : Int) (h1 : w.cell? ⟨g, 1, none⟩ = some (.slice A n c)) (h2 : w.cell? ⟨g, 37, none⟩ = some (.bool true)) (hbad : i < 0 ∨ n ≤ i ∨ (b ≠ 0 ∧ b ≠ 1)) :
    Calls Try.prog 24 #[.pointer (some ⟨g, 0, none⟩), .int .i64 i, .int .i64 b] w fun e w' => e = .returned (.int .i64 2) ∧ w = w' := by
  by_cases c1 : i < 0
  · go_enter Try.func24, Try.ntmps24
    go_wp2_with (go_at_call 49; refine (enc_none _ _ _ h2).mono ?_; rintro e w' ⟨rfl, rfl⟩)
    go_ret
    exact ⟨rfl, rfl⟩
  by_cases c2 : (n : Int) ≤ i
  · go_enter Try.func24, Try.ntmps24
    go_wp2_with (go_at_call 49; refine (enc_none _ _ _ h2).mono ?_; rintro e w' ⟨rfl, rfl⟩)
    go_ret
    exact ⟨rfl, rfl⟩
  have hb0 : b ≠ 0 := by rcases hbad with h | h | h <;> omega
  have hb1 : b ≠ 1 := by rcases hbad with h | h | h <;> omega
  have e0 : (b != 0) = true := by simpa using hb0
  have e1 : (b != 1) = true := by simpa using hb1
  go_enter Try.func24, Try.ntmps24
  go_wp2_with (go_at_call 49; refine (enc_none _ _ _ h2).mono ?_; rintro e w' ⟨rfl, rfl⟩)
  go_ret
  exact ⟨rfl, rfl⟩
/-- The bytes that an interval loses, and what it becomes. -/
def normE : Nat → Int → Int → List Int × Int × Int
  | 0, l, h => ([], l, h)
  | d + 1, l, h => if l / 16777216 = h / 16777216 then (l / 16777216 :: (normE d (l % 16777216 * 256) (h % 16777216 * 256 + 255)).1, (normE d (l % 16777216 * 256) (h % 16777216 * 256 + 255)).2) else ([], l, h)
/-- How many bytes an interval can still lose: it is whole behind four. -/
theorem norm_done : ∀ (d : Nat) (l h : Int), 0 ≤ l → l ≤ h → h ≤ 4294967295 → (h - l + 1) * 256 ^ d ≥ 4294967296 → (normE d l h).2.1 / 16777216 ≠ (normE d l h).2.2 / 16777216 ∧ 0 ≤ (normE d l h).2.1 ∧ (normE d l h).2.1 ≤ (normE d l h).2.2 ∧ (normE d l h).2.2 ≤ 4294967295
  | 0, l, h, h0, h1, h2, hd => by
    simp only [Int.pow_zero, Int.mul_one] at hd
    refine ⟨?_, h0, h1, h2⟩
    show l / 16777216 ≠ h / 16777216
    omega
  | d + 1, l, h, h0, h1, h2, hd => by
    unfold normE
    by_cases c : l / 16777216 = h / 16777216
    · rw [if_pos c]
      refine norm_done d _ _ (by omega) (by omega) (by omega) ?_
      rw [show h % 16777216 * 256 + 255 - l % 16777216 * 256 + 1 = (h - l + 1) * 256 by omega, Int.mul_assoc, Int.mul_comm 256, ← Int.pow_succ]
      exact hd
    · rw [if_neg c]
      exact ⟨c, h0, h1, h2⟩
end Go.Proofs.Ytpnmedmghncpiaa.Enc
