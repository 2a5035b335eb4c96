/- How likely a 1 is, and the model behind a bit, are the reference's: for every model, context and bit. -/
import Derived.Test.YtpnmedmghncpiaaPCoderShortx0
import Derived.Test.YtpnmedmghncpiaaAid
import Derived.Test.YtpnmedmghncpiaaHandAid
import Derived.Test.YtpnmedmghncpiaaCod1
import Derived.Test.YtpnmedmghncpiaaCod2
import Derived.Test.YtpnmedmghncpiaaCod3
import Derived.Test.YtpnmedmghncpiaaMod
import Derived.Test.YtpnmedmghncpiaaNewRef
import Derived.Test.YtpnmedmghncpiaaEnc
import Derived.Test.YtpnmedmghncpiaaMods
import Derived.Test.YtpnmedmghncpiaaEncAt
import Derived.Test.YtpnmedmghncpiaaPut
import Derived.Test.YtpnmedmghncpiaaEnd
import Derived.Test.YtpnmedmghncpiaaEncode
import Derived.Test.YtpnmedmghncpiaaAwake
import Derived.Test.YtpnmedmghncpiaaSame
import Derived.Test.YtpnmedmghncpiaaOpn
import Derived.Test.YtpnmedmghncpiaaRefAt
import Derived.Test.YtpnmedmghncpiaaStates
import Derived.Test.YtpnmedmghncpiaaRows
import Derived.WalkKit
import Derived.ProofKit
import Derived.OpenShut
import Derived.ShutString
import Derived.ChangeOld
import Derived.Lib.SmallJoins
import Derived.Below
import Derived.SizedLaws
import Derived.Test.YtpnmedmghncpiaaWSized
namespace Go.Proofs.Ytpnmedmghncpiaa.HandCoderStates
open Go Go.RowKit Go.Proofs.Ytpnmedmghncpiaa.PCoderShort Go.Proofs.YtpnmedmghncpiaaW.PrintWords Go.Proofs.YtpnmedmghncpiaaW.PrintLast Go.Proofs.YtpnmedmghncpiaaW.PrintMore Go.Proofs.Ytpnmedmghncpiaa.Aid Go.Proofs.Ytpnmedmghncpiaa.HandAid Go.Proofs.Ytpnmedmghncpiaa.Cod1 Go.Proofs.Ytpnmedmghncpiaa.Cod2 Go.Proofs.Ytpnmedmghncpiaa.Cod3 Go.Proofs.Ytpnmedmghncpiaa.Mod Go.Proofs.Ytpnmedmghncpiaa.NewRef Go.Proofs.Ytpnmedmghncpiaa.Enc Go.Proofs.Ytpnmedmghncpiaa.Mods Go.Proofs.Ytpnmedmghncpiaa.EncAt Go.Proofs.Ytpnmedmghncpiaa.Put Go.Proofs.Ytpnmedmghncpiaa.End Go.Proofs.Ytpnmedmghncpiaa.Encode Go.Proofs.Ytpnmedmghncpiaa.Awake Go.Proofs.Ytpnmedmghncpiaa.Same Go.Proofs.Ytpnmedmghncpiaa.Opn Go.Proofs.Ytpnmedmghncpiaa.RefAt Go.Proofs.Ytpnmedmghncpiaa.States
set_option linter.unusedVariables false
set_option linter.unusedSimpArgs false
open Go.Proofs.Ytpnmedmghncpiaa
theorem valid_true (A : Option Addr) (c : Nat) (kind : Int) (st : List Int) (w : World) (hC : Kd.C (Kd.int .i64) w A st.length st) (hc : st.length ≤ c) (hm : okModel kind st) :
    Calls Try.prog 15 #[.agg #[.int .i64 kind, .slice A st.length c]] w fun e w' => e = .returned (.bool true) ∧ Below w.heap.size w w' := by
  have h := valid_calls A c kind st w hC hc
  rw [decide_eq_true hm] at h
  exact h
theorem valid_n (A : Option Addr) (c : Nat) (kind : Int) (st : List Int) (n : Nat) (w : World) (hn : n = st.length) (hC : Kd.C (Kd.int .i64) w A st.length st) (hc : st.length ≤ c) (hm : okModel kind st) :
    Calls Try.prog 15 #[.agg #[.int .i64 kind, .slice A n c]] w fun e w' => e = .returned (.bool true) ∧ Below w.heap.size w w' := by
  subst hn
  exact valid_true A c kind st w hC hc hm
theorem next_n (A : Option Addr) (c : Nat) (mk : Int) (st ns : List Int) (i bit : Int) (w : World) (hC : Kd.C (Kd.int .i64) w A st.length st) (hc : st.length ≤ c) (hx : nextR mk st i bit = (mk, ns, 0)) (n : Nat) (hn : n = ns.length) :
    Calls Try.prog 31 #[.agg #[.int .i64 mk, .slice A st.length c], .int .i64 i, .int .i64 bit] w fun e w' => ∃ A' c', e = .returned (.tuple #[.agg #[.int .i64 mk, .slice A' n c'], .int .i64 0]) ∧ Kd.R (Kd.int .i64) 3 w' w.heap.size (fun _ => True) (.slice A' n c') ns ∧ Below w.heap.size w w' := by
  subst hn
  have h := next_all A c mk st i bit w hC hc
  rw [hx] at h
  exact h
theorem next_model {mk : Int} {st : List Int} (hm : okModel mk st) {i : Nat} (hi : i < st.length) {bit : Int} (hb : bit = 0 ∨ bit = 1) : okModel mk (st.set i (after mk (rd st i) bit)) :=
  ⟨hm.1, by rw [List.length_set]; exact hm.2.1, fun x hx => by
    rcases List.mem_or_eq_of_mem_set hx with hx | rfl
    · exact hm.2.2 x hx
    · exact after_ok _ _ _ (hm.2.2 _ (rd_mem (by omega) (by omega))) hb⟩
set_option maxHeartbeats 4000000 in
set_option maxRecDepth 100000 in
theorem walk1 (w : World) (mk : Int) (A : Option Addr) (c : Nat) (st : List Int) (hl : st.length ≤ c) (hC : Kd.C (Kd.int .i64) w A st.length st) (i bit : Int) (hn : ¬ (st.length : Int) > 16384) (hm : ¬ okModel mk st) :
    Calls Try.prog 6 #[.agg #[.int .i64 mk, .slice A st.length c], .int .i64 i, .int .i64 bit] w fun e w' => e = .returned (.bool true) ∧ Below w.heap.size w w' := by
    have hu := Try.underlying24
    have hp : pR mk st i = (0, 10) := if_neg hm
    have hx : nextR mk st i bit = (0, [], 10) := if_neg hm
    have HP : ∀ W, Kd.C (Kd.int .i64) W A st.length st → Aside0 (Calls Try.prog 30 #[.agg #[.int .i64 mk, .slice A st.length c], .int .i64 i] W fun e w' => e = .returned (.tuple #[.int .i64 0, .int .i64 10]) ∧ Below W.heap.size W w') := fun W h => ⟨by have := p_calls A c mk st i W h hl; rw [hp] at this; exact this⟩
    have HN : ∀ W, Kd.C (Kd.int .i64) W A st.length st → Aside0 (Calls Try.prog 31 #[.agg #[.int .i64 mk, .slice A st.length c], .int .i64 i, .int .i64 bit] W (NextPost W (0, [], 10))) := fun W h => ⟨by have := next_all A c mk st i bit W h hl; rw [hx] at this; exact this⟩
    have HV : ∀ W, Kd.C (Kd.int .i64) W A st.length st → Aside0 (Calls Try.prog 16 #[.agg #[.int .i64 mk, .slice A st.length c]] W fun e w' => e = .returned (.bool false) ∧ Below W.heap.size W w') := fun W h => ⟨by have := ref_valid_calls A c mk st W h hl; rw [decide_eq_false hm] at this; exact this⟩
    clear hp hx
    obtain ⟨b3, hsb3⟩ : ∃ x, w.heap.size = x := ⟨_, rfl⟩
    obtain ⟨W0, hsW0⟩ : ∃ x, w.alloc (.cells #[.int .i64 mk, .slice A st.length c] 24) = x := ⟨_, rfl⟩
    have HZ3 := Aside0.mk (show W0.heap[b3]? = some (.cells #[.int .i64 mk, .slice A st.length c] 24 (0, 0)) from hsW0 ▸ hsb3 ▸ heap_new w _)
    have HC := Aside0.mk (show Kd.C (Kd.int .i64) W0 A st.length st from hsW0 ▸ Kd.C_below hC (below_alloc (Below.refl _ _) _))
    have HB := Aside0.mk (show Below w.heap.size w W0 from hsW0 ▸ below_alloc (Below.refl _ _) _)
    clear hC
    clear hm
    go_enter Try.func6, Try.ntmps6
    have kHZ3_0 : W0.cell? ⟨b3, 0, none⟩ = some (.int .i64 mk) := (blk_cell HZ3.out 0).trans rfl
    have kHZ3_1 : W0.cell? ⟨b3, 1, none⟩ = some (.slice A st.length c) := (blk_cell HZ3.out 1).trans rfl
    go_wp2_with (fail)
    refine ((HP _ HC.out).out).mono ?_
    rintro e q1 ⟨rfl, hB⟩
    clear hsW0 hsb3 kHZ3_0 kHZ3_1
    have HZ3 := Aside0.mk (blk_below HZ3.out hB)
    have HC := Aside0.mk (Kd.C_below HC.out hB)
    have HB := Aside0.mk (below_then HB.out HB.out.size hB)
    clear hB
    have kHZ3_0 : q1.cell? ⟨b3, 0, none⟩ = some (.int .i64 mk) := (blk_cell HZ3.out 0).trans rfl
    have kHZ3_1 : q1.cell? ⟨b3, 1, none⟩ = some (.slice A st.length c) := (blk_cell HZ3.out 1).trans rfl
    go_wp2_with (fail)
    refine ((HN _ HC.out).out).mono ?_
    rintro e q2 ⟨A9, c9, rfl, hR, hB⟩
    clear kHZ3_0 kHZ3_1
    have HZ3 := Aside0.mk (blk_below HZ3.out hB)
    have HC := Aside0.mk (Kd.C_below HC.out hB)
    have HB := Aside0.mk (below_then HB.out HB.out.size hB)
    clear hB
    have HC9 := Aside0.mk (Kd.R_reads' hR).2.2
    have hc9 := (Kd.R_reads' hR).2.1
    clear hR
    obtain ⟨b9, hsb9⟩ : ∃ x_, q2.heap.size = x_ := ⟨_, rfl⟩
    obtain ⟨q3, hsq3⟩ : ∃ x_, q2.alloc (.cells #[.int .i64 0, .slice A9 0 c9] 24) = x_ := ⟨_, rfl⟩
    have hB : Below q2.heap.size q2 q3 := hsq3 ▸ below_alloc (Below.refl _ _) _
    have HN := Aside0.mk (show q3.heap[b9]? = some (.cells #[.int .i64 0, .slice A9 0 c9] 24 (0, 0)) from hsq3 ▸ hsb9 ▸ heap_new q2 _)
    have HZ3 := Aside0.mk (blk_below HZ3.out hB)
    have HC := Aside0.mk (Kd.C_below HC.out hB)
    have HC9 := Aside0.mk (Kd.C_below HC9.out hB)
    have HB := Aside0.mk (below_then HB.out HB.out.size hB)
    have HZ9 := HN
    clear HN hB
    have kHZ3_0 : q3.cell? ⟨b3, 0, none⟩ = some (.int .i64 mk) := (blk_cell HZ3.out 0).trans rfl
    have kHZ3_1 : q3.cell? ⟨b3, 1, none⟩ = some (.slice A st.length c) := (blk_cell HZ3.out 1).trans rfl
    have kHZ9_0 : q3.cell? ⟨b9, 0, none⟩ = some (.int .i64 0) := (blk_cell HZ9.out 0).trans rfl
    have kHZ9_1 : q3.cell? ⟨b9, 1, none⟩ = some (.slice A9 0 c9) := (blk_cell HZ9.out 1).trans rfl
    go_wp2_with (fail)
    refine ((HV _ HC.out).out).mono ?_
    rintro e q4 ⟨rfl, hB⟩
    clear hsb9 hsq3 kHZ3_0 kHZ3_1 kHZ9_0 kHZ9_1
    have HZ3 := Aside0.mk (blk_below HZ3.out hB)
    have HZ9 := Aside0.mk (blk_below HZ9.out hB)
    have HC := Aside0.mk (Kd.C_below HC.out hB)
    have HC9 := Aside0.mk (Kd.C_below HC9.out hB)
    have HB := Aside0.mk (below_then HB.out HB.out.size hB)
    clear hB
    have kHZ3_0 : q4.cell? ⟨b3, 0, none⟩ = some (.int .i64 mk) := (blk_cell HZ3.out 0).trans rfl
    have kHZ3_1 : q4.cell? ⟨b3, 1, none⟩ = some (.slice A st.length c) := (blk_cell HZ3.out 1).trans rfl
    have kHZ9_0 : q4.cell? ⟨b9, 0, none⟩ = some (.int .i64 0) := (blk_cell HZ9.out 0).trans rfl
    have kHZ9_1 : q4.cell? ⟨b9, 1, none⟩ = some (.slice A9 0 c9) := (blk_cell HZ9.out 1).trans rfl
    go_wp2_with (fail)
    refine (same_true A9 c9 none 0 0 [] _ _ _ rfl rfl HC9.out hc9 (Kd.C_nil _ _) (Nat.le_refl _)).mono ?_
    rintro e q5 ⟨rfl, hB⟩
    clear kHZ3_0 kHZ3_1 kHZ9_0 kHZ9_1
    have HZ3 := Aside0.mk (blk_below HZ3.out hB)
    have HZ9 := Aside0.mk (blk_below HZ9.out hB)
    have HC := Aside0.mk (Kd.C_below HC.out hB)
    have HC9 := Aside0.mk (Kd.C_below HC9.out hB)
    have HB := Aside0.mk (below_then HB.out HB.out.size hB)
    clear hB
    have kHZ3_0 : q5.cell? ⟨b3, 0, none⟩ = some (.int .i64 mk) := (blk_cell HZ3.out 0).trans rfl
    have kHZ3_1 : q5.cell? ⟨b3, 1, none⟩ = some (.slice A st.length c) := (blk_cell HZ3.out 1).trans rfl
    have kHZ9_0 : q5.cell? ⟨b9, 0, none⟩ = some (.int .i64 0) := (blk_cell HZ9.out 0).trans rfl
    have kHZ9_1 : q5.cell? ⟨b9, 1, none⟩ = some (.slice A9 0 c9) := (blk_cell HZ9.out 1).trans rfl
    go_wp2_with (fail)
    refine (awake_calls _).mono ?_
    rintro e q6 ⟨rfl, hB⟩
    clear kHZ3_0 kHZ3_1 kHZ9_0 kHZ9_1
    have HZ3 := Aside0.mk (blk_below HZ3.out hB)
    have HZ9 := Aside0.mk (blk_below HZ9.out hB)
    have HC := Aside0.mk (Kd.C_below HC.out hB)
    have HC9 := Aside0.mk (Kd.C_below HC9.out hB)
    have HB := Aside0.mk (below_then HB.out HB.out.size hB)
    clear hB
    go_wp2
    go_ret
    exact ⟨rfl, HB.out⟩
set_option maxHeartbeats 4000000 in
set_option maxRecDepth 100000 in
theorem walk2 (w : World) (mk : Int) (A : Option Addr) (c : Nat) (st : List Int) (hl : st.length ≤ c) (hC : Kd.C (Kd.int .i64) w A st.length st) (i bit : Int) (hn : ¬ (st.length : Int) > 16384) (hm : okModel mk st) (hi : i < 0 ∨ st.length ≤ i) :
    Calls Try.prog 6 #[.agg #[.int .i64 mk, .slice A st.length c], .int .i64 i, .int .i64 bit] w fun e w' => e = .returned (.bool true) ∧ Below w.heap.size w w' := by
    have hu := Try.underlying24
    have hp : pR mk st i = (0, 2) := by unfold pR; rw [if_pos hm, if_neg (by omega)]
    have hx : nextR mk st i bit = (0, [], 2) := by unfold nextR; rw [if_pos hm, if_neg (by omega)]
    have HP : ∀ W, Kd.C (Kd.int .i64) W A st.length st → Aside0 (Calls Try.prog 30 #[.agg #[.int .i64 mk, .slice A st.length c], .int .i64 i] W fun e w' => e = .returned (.tuple #[.int .i64 0, .int .i64 2]) ∧ Below W.heap.size W w') := fun W h => ⟨by have := p_calls A c mk st i W h hl; rw [hp] at this; exact this⟩
    have HN : ∀ W, Kd.C (Kd.int .i64) W A st.length st → Aside0 (Calls Try.prog 31 #[.agg #[.int .i64 mk, .slice A st.length c], .int .i64 i, .int .i64 bit] W (NextPost W (0, [], 2))) := fun W h => ⟨by have := next_all A c mk st i bit W h hl; rw [hx] at this; exact this⟩
    have HV : ∀ W, Kd.C (Kd.int .i64) W A st.length st → Aside0 (Calls Try.prog 16 #[.agg #[.int .i64 mk, .slice A st.length c]] W fun e w' => e = .returned (.bool true) ∧ Below W.heap.size W w') := fun W h => ⟨by have := ref_valid_calls A c mk st W h hl; rw [decide_eq_true hm] at this; exact this⟩
    clear hp hx
    obtain ⟨b3, hsb3⟩ : ∃ x, w.heap.size = x := ⟨_, rfl⟩
    obtain ⟨W0, hsW0⟩ : ∃ x, w.alloc (.cells #[.int .i64 mk, .slice A st.length c] 24) = x := ⟨_, rfl⟩
    have HZ3 := Aside0.mk (show W0.heap[b3]? = some (.cells #[.int .i64 mk, .slice A st.length c] 24 (0, 0)) from hsW0 ▸ hsb3 ▸ heap_new w _)
    have HC := Aside0.mk (show Kd.C (Kd.int .i64) W0 A st.length st from hsW0 ▸ Kd.C_below hC (below_alloc (Below.refl _ _) _))
    have HB := Aside0.mk (show Below w.heap.size w W0 from hsW0 ▸ below_alloc (Below.refl _ _) _)
    clear hC
    clear hm
    by_cases c1 : i < 0
    · clear hi
      go_enter Try.func6, Try.ntmps6
      have kHZ3_0 : W0.cell? ⟨b3, 0, none⟩ = some (.int .i64 mk) := (blk_cell HZ3.out 0).trans rfl
      have kHZ3_1 : W0.cell? ⟨b3, 1, none⟩ = some (.slice A st.length c) := (blk_cell HZ3.out 1).trans rfl
      go_wp2_with (fail)
      refine ((HP _ HC.out).out).mono ?_
      rintro e q1 ⟨rfl, hB⟩
      clear hsW0 hsb3 kHZ3_0 kHZ3_1
      have HZ3 := Aside0.mk (blk_below HZ3.out hB)
      have HC := Aside0.mk (Kd.C_below HC.out hB)
      have HB := Aside0.mk (below_then HB.out HB.out.size hB)
      clear hB
      have kHZ3_0 : q1.cell? ⟨b3, 0, none⟩ = some (.int .i64 mk) := (blk_cell HZ3.out 0).trans rfl
      have kHZ3_1 : q1.cell? ⟨b3, 1, none⟩ = some (.slice A st.length c) := (blk_cell HZ3.out 1).trans rfl
      go_wp2_with (fail)
      refine ((HN _ HC.out).out).mono ?_
      rintro e q2 ⟨A9, c9, rfl, hR, hB⟩
      clear kHZ3_0 kHZ3_1
      have HZ3 := Aside0.mk (blk_below HZ3.out hB)
      have HC := Aside0.mk (Kd.C_below HC.out hB)
      have HB := Aside0.mk (below_then HB.out HB.out.size hB)
      clear hB
      have HC9 := Aside0.mk (Kd.R_reads' hR).2.2
      have hc9 := (Kd.R_reads' hR).2.1
      clear hR
      obtain ⟨b9, hsb9⟩ : ∃ x_, q2.heap.size = x_ := ⟨_, rfl⟩
      obtain ⟨q3, hsq3⟩ : ∃ x_, q2.alloc (.cells #[.int .i64 0, .slice A9 0 c9] 24) = x_ := ⟨_, rfl⟩
      have hB : Below q2.heap.size q2 q3 := hsq3 ▸ below_alloc (Below.refl _ _) _
      have HN := Aside0.mk (show q3.heap[b9]? = some (.cells #[.int .i64 0, .slice A9 0 c9] 24 (0, 0)) from hsq3 ▸ hsb9 ▸ heap_new q2 _)
      have HZ3 := Aside0.mk (blk_below HZ3.out hB)
      have HC := Aside0.mk (Kd.C_below HC.out hB)
      have HC9 := Aside0.mk (Kd.C_below HC9.out hB)
      have HB := Aside0.mk (below_then HB.out HB.out.size hB)
      have HZ9 := HN
      clear HN hB
      have kHZ3_0 : q3.cell? ⟨b3, 0, none⟩ = some (.int .i64 mk) := (blk_cell HZ3.out 0).trans rfl
      have kHZ3_1 : q3.cell? ⟨b3, 1, none⟩ = some (.slice A st.length c) := (blk_cell HZ3.out 1).trans rfl
      have kHZ9_0 : q3.cell? ⟨b9, 0, none⟩ = some (.int .i64 0) := (blk_cell HZ9.out 0).trans rfl
      have kHZ9_1 : q3.cell? ⟨b9, 1, none⟩ = some (.slice A9 0 c9) := (blk_cell HZ9.out 1).trans rfl
      go_wp2_with (fail)
      refine ((HV _ HC.out).out).mono ?_
      rintro e q4 ⟨rfl, hB⟩
      clear hsb9 hsq3 kHZ3_0 kHZ3_1 kHZ9_0 kHZ9_1
      have HZ3 := Aside0.mk (blk_below HZ3.out hB)
      have HZ9 := Aside0.mk (blk_below HZ9.out hB)
      have HC := Aside0.mk (Kd.C_below HC.out hB)
      have HC9 := Aside0.mk (Kd.C_below HC9.out hB)
      have HB := Aside0.mk (below_then HB.out HB.out.size hB)
      clear hB
      have kHZ3_0 : q4.cell? ⟨b3, 0, none⟩ = some (.int .i64 mk) := (blk_cell HZ3.out 0).trans rfl
      have kHZ3_1 : q4.cell? ⟨b3, 1, none⟩ = some (.slice A st.length c) := (blk_cell HZ3.out 1).trans rfl
      have kHZ9_0 : q4.cell? ⟨b9, 0, none⟩ = some (.int .i64 0) := (blk_cell HZ9.out 0).trans rfl
      have kHZ9_1 : q4.cell? ⟨b9, 1, none⟩ = some (.slice A9 0 c9) := (blk_cell HZ9.out 1).trans rfl
      go_wp2_with (fail)
      refine (awake_calls _).mono ?_
      rintro e q5 ⟨rfl, hB⟩
      clear kHZ3_0 kHZ3_1 kHZ9_0 kHZ9_1
      have HZ3 := Aside0.mk (blk_below HZ3.out hB)
      have HZ9 := Aside0.mk (blk_below HZ9.out hB)
      have HC := Aside0.mk (Kd.C_below HC.out hB)
      have HC9 := Aside0.mk (Kd.C_below HC9.out hB)
      have HB := Aside0.mk (below_then HB.out HB.out.size hB)
      clear hB
      go_wp2
      go_ret
      exact ⟨rfl, HB.out⟩
    · have c2 : (st.length : Int) ≤ i := by omega
      clear hi
      go_enter Try.func6, Try.ntmps6
      have kHZ3_0 : W0.cell? ⟨b3, 0, none⟩ = some (.int .i64 mk) := (blk_cell HZ3.out 0).trans rfl
      have kHZ3_1 : W0.cell? ⟨b3, 1, none⟩ = some (.slice A st.length c) := (blk_cell HZ3.out 1).trans rfl
      go_wp2_with (fail)
      refine ((HP _ HC.out).out).mono ?_
      rintro e q1 ⟨rfl, hB⟩
      clear hsW0 hsb3 kHZ3_0 kHZ3_1
      have HZ3 := Aside0.mk (blk_below HZ3.out hB)
      have HC := Aside0.mk (Kd.C_below HC.out hB)
      have HB := Aside0.mk (below_then HB.out HB.out.size hB)
      clear hB
      have kHZ3_0 : q1.cell? ⟨b3, 0, none⟩ = some (.int .i64 mk) := (blk_cell HZ3.out 0).trans rfl
      have kHZ3_1 : q1.cell? ⟨b3, 1, none⟩ = some (.slice A st.length c) := (blk_cell HZ3.out 1).trans rfl
      go_wp2_with (fail)
      refine ((HN _ HC.out).out).mono ?_
      rintro e q2 ⟨A9, c9, rfl, hR, hB⟩
      clear kHZ3_0 kHZ3_1
      have HZ3 := Aside0.mk (blk_below HZ3.out hB)
      have HC := Aside0.mk (Kd.C_below HC.out hB)
      have HB := Aside0.mk (below_then HB.out HB.out.size hB)
      clear hB
      have HC9 := Aside0.mk (Kd.R_reads' hR).2.2
      have hc9 := (Kd.R_reads' hR).2.1
      clear hR
      obtain ⟨b9, hsb9⟩ : ∃ x_, q2.heap.size = x_ := ⟨_, rfl⟩
      obtain ⟨q3, hsq3⟩ : ∃ x_, q2.alloc (.cells #[.int .i64 0, .slice A9 0 c9] 24) = x_ := ⟨_, rfl⟩
      have hB : Below q2.heap.size q2 q3 := hsq3 ▸ below_alloc (Below.refl _ _) _
      have HN := Aside0.mk (show q3.heap[b9]? = some (.cells #[.int .i64 0, .slice A9 0 c9] 24 (0, 0)) from hsq3 ▸ hsb9 ▸ heap_new q2 _)
      have HZ3 := Aside0.mk (blk_below HZ3.out hB)
      have HC := Aside0.mk (Kd.C_below HC.out hB)
      have HC9 := Aside0.mk (Kd.C_below HC9.out hB)
      have HB := Aside0.mk (below_then HB.out HB.out.size hB)
      have HZ9 := HN
      clear HN hB
      have kHZ3_0 : q3.cell? ⟨b3, 0, none⟩ = some (.int .i64 mk) := (blk_cell HZ3.out 0).trans rfl
      have kHZ3_1 : q3.cell? ⟨b3, 1, none⟩ = some (.slice A st.length c) := (blk_cell HZ3.out 1).trans rfl
      have kHZ9_0 : q3.cell? ⟨b9, 0, none⟩ = some (.int .i64 0) := (blk_cell HZ9.out 0).trans rfl
      have kHZ9_1 : q3.cell? ⟨b9, 1, none⟩ = some (.slice A9 0 c9) := (blk_cell HZ9.out 1).trans rfl
      go_wp2_with (fail)
      refine ((HV _ HC.out).out).mono ?_
      rintro e q4 ⟨rfl, hB⟩
      clear hsb9 hsq3 kHZ3_0 kHZ3_1 kHZ9_0 kHZ9_1
      have HZ3 := Aside0.mk (blk_below HZ3.out hB)
      have HZ9 := Aside0.mk (blk_below HZ9.out hB)
      have HC := Aside0.mk (Kd.C_below HC.out hB)
      have HC9 := Aside0.mk (Kd.C_below HC9.out hB)
      have HB := Aside0.mk (below_then HB.out HB.out.size hB)
      clear hB
      have kHZ3_0 : q4.cell? ⟨b3, 0, none⟩ = some (.int .i64 mk) := (blk_cell HZ3.out 0).trans rfl
      have kHZ3_1 : q4.cell? ⟨b3, 1, none⟩ = some (.slice A st.length c) := (blk_cell HZ3.out 1).trans rfl
      have kHZ9_0 : q4.cell? ⟨b9, 0, none⟩ = some (.int .i64 0) := (blk_cell HZ9.out 0).trans rfl
      have kHZ9_1 : q4.cell? ⟨b9, 1, none⟩ = some (.slice A9 0 c9) := (blk_cell HZ9.out 1).trans rfl
      go_wp2_with (fail)
      refine (awake_calls _).mono ?_
      rintro e q5 ⟨rfl, hB⟩
      clear kHZ3_0 kHZ3_1 kHZ9_0 kHZ9_1
      have HZ3 := Aside0.mk (blk_below HZ3.out hB)
      have HZ9 := Aside0.mk (blk_below HZ9.out hB)
      have HC := Aside0.mk (Kd.C_below HC.out hB)
      have HC9 := Aside0.mk (Kd.C_below HC9.out hB)
      have HB := Aside0.mk (below_then HB.out HB.out.size hB)
      clear hB
      go_wp2
      go_ret
      exact ⟨rfl, HB.out⟩
set_option maxHeartbeats 4000000 in
set_option maxRecDepth 100000 in
theorem walk3 (w : World) (mk : Int) (ad : Addr) (c : Nat) (st : List Int) (hl : st.length ≤ c) (hC : Kd.C (Kd.int .i64) w (some ad) st.length st) (j : Nat) (bit : Int) (hn : ¬ (st.length : Int) > 16384) (hm : okModel mk st) (hj : j < st.length) (hc0 : w.cell? (ad.add j) = some (.int .i64 (rd st j))) (hb : bit ≠ 0 ∧ bit ≠ 1) :
    Calls Try.prog 6 #[.agg #[.int .i64 mk, .slice (some ad) st.length c], .int .i64 (j : Int), .int .i64 bit] w fun e w' => e = .returned (.bool true) ∧ Below w.heap.size w w' := by
    have hu := Try.underlying24
    have hs : okState mk (rd st j) := hm.2.2 _ (rd_mem (by omega) (by omega))
    have h0 : (0 : Int) ≤ (j : Int) := by omega
    have h1 : (j : Int) < (st.length : Int) := by omega
    obtain ⟨i, hij⟩ : ∃ i : Int, (j : Int) = i := ⟨_, rfl⟩
    have hp : pR mk st i = (likely mk (rd st j), 0) := by subst hij; unfold pR; rw [if_pos hm, if_pos (by omega)]
    have hx : nextR mk st i bit = (0, [], 2) := by subst hij; unfold nextR; rw [if_pos hm, if_neg (by omega)]
    have HP : ∀ W, Kd.C (Kd.int .i64) W (some ad) st.length st → Aside0 (Calls Try.prog 30 #[.agg #[.int .i64 mk, .slice (some ad) st.length c], .int .i64 i] W fun e w' => e = .returned (.tuple #[.int .i64 (likely mk (rd st j)), .int .i64 0]) ∧ Below W.heap.size W w') := fun W h => ⟨by have := p_calls (some ad) c mk st i W h hl; rw [hp] at this; exact this⟩
    have HN : ∀ W, Kd.C (Kd.int .i64) W (some ad) st.length st → Aside0 (Calls Try.prog 31 #[.agg #[.int .i64 mk, .slice (some ad) st.length c], .int .i64 i, .int .i64 bit] W (NextPost W (0, [], 2))) := fun W h => ⟨by have := next_all (some ad) c mk st i bit W h hl; rw [hx] at this; exact this⟩
    have HV : ∀ W, Kd.C (Kd.int .i64) W (some ad) st.length st → Aside0 (Calls Try.prog 16 #[.agg #[.int .i64 mk, .slice (some ad) st.length c]] W fun e w' => e = .returned (.bool true) ∧ Below W.heap.size W w') := fun W h => ⟨by have := ref_valid_calls (some ad) c mk st W h hl; rw [decide_eq_true hm] at this; exact this⟩
    clear hp hx
    obtain ⟨b3, hsb3⟩ : ∃ x, w.heap.size = x := ⟨_, rfl⟩
    obtain ⟨W0, hsW0⟩ : ∃ x, w.alloc (.cells #[.int .i64 mk, .slice (some ad) st.length c] 24) = x := ⟨_, rfl⟩
    have HZ3 := Aside0.mk (show W0.heap[b3]? = some (.cells #[.int .i64 mk, .slice (some ad) st.length c] 24 (0, 0)) from hsW0 ▸ hsb3 ▸ heap_new w _)
    have HC := Aside0.mk (show Kd.C (Kd.int .i64) W0 (some ad) st.length st from hsW0 ▸ Kd.C_below hC (below_alloc (Below.refl _ _) _))
    have HB := Aside0.mk (show Below w.heap.size w W0 from hsW0 ▸ below_alloc (Below.refl _ _) _)
    clear hC
    have HX := Aside0.mk (show W0.cell? (ad.add j) = some (.int .i64 (rd st j)) from hsW0 ▸ pw_cell_below (below_alloc (Below.refl _ _) _) hc0)
    subst hij
    have e0 : (bit != 0) = true := by simpa using hb.1
    have e1 : (bit != 1) = true := by simpa using hb.2
    clear hm hb hc0
    go_enter Try.func6, Try.ntmps6
    have kHZ3_0 : W0.cell? ⟨b3, 0, none⟩ = some (.int .i64 mk) := (blk_cell HZ3.out 0).trans rfl
    have kHZ3_1 : W0.cell? ⟨b3, 1, none⟩ = some (.slice (some ad) st.length c) := (blk_cell HZ3.out 1).trans rfl
    go_wp2_with (fail)
    refine ((HP _ HC.out).out).mono ?_
    rintro e q1 ⟨rfl, hB⟩
    clear hsW0 hsb3 kHZ3_0 kHZ3_1
    have HZ3 := Aside0.mk (blk_below HZ3.out hB)
    have HC := Aside0.mk (Kd.C_below HC.out hB)
    have HX := Aside0.mk (pw_cell_below hB HX.out)
    have HB := Aside0.mk (below_then HB.out HB.out.size hB)
    clear hB
    have kHZ3_0 : q1.cell? ⟨b3, 0, none⟩ = some (.int .i64 mk) := (blk_cell HZ3.out 0).trans rfl
    have kHZ3_1 : q1.cell? ⟨b3, 1, none⟩ = some (.slice (some ad) st.length c) := (blk_cell HZ3.out 1).trans rfl
    go_wp2_with (fail)
    refine ((HN _ HC.out).out).mono ?_
    rintro e q2 ⟨A9, c9, rfl, hR, hB⟩
    clear kHZ3_0 kHZ3_1
    have HZ3 := Aside0.mk (blk_below HZ3.out hB)
    have HC := Aside0.mk (Kd.C_below HC.out hB)
    have HX := Aside0.mk (pw_cell_below hB HX.out)
    have HB := Aside0.mk (below_then HB.out HB.out.size hB)
    clear hB
    have HC9 := Aside0.mk (Kd.R_reads' hR).2.2
    have hc9 := (Kd.R_reads' hR).2.1
    clear hR
    obtain ⟨b9, hsb9⟩ : ∃ x_, q2.heap.size = x_ := ⟨_, rfl⟩
    obtain ⟨q3, hsq3⟩ : ∃ x_, q2.alloc (.cells #[.int .i64 0, .slice A9 0 c9] 24) = x_ := ⟨_, rfl⟩
    have hB : Below q2.heap.size q2 q3 := hsq3 ▸ below_alloc (Below.refl _ _) _
    have HN := Aside0.mk (show q3.heap[b9]? = some (.cells #[.int .i64 0, .slice A9 0 c9] 24 (0, 0)) from hsq3 ▸ hsb9 ▸ heap_new q2 _)
    have HZ3 := Aside0.mk (blk_below HZ3.out hB)
    have HC := Aside0.mk (Kd.C_below HC.out hB)
    have HX := Aside0.mk (pw_cell_below hB HX.out)
    have HC9 := Aside0.mk (Kd.C_below HC9.out hB)
    have HB := Aside0.mk (below_then HB.out HB.out.size hB)
    have HZ9 := HN
    clear HN hB
    have kHZ3_0 : q3.cell? ⟨b3, 0, none⟩ = some (.int .i64 mk) := (blk_cell HZ3.out 0).trans rfl
    have kHZ3_1 : q3.cell? ⟨b3, 1, none⟩ = some (.slice (some ad) st.length c) := (blk_cell HZ3.out 1).trans rfl
    have kHZ9_0 : q3.cell? ⟨b9, 0, none⟩ = some (.int .i64 0) := (blk_cell HZ9.out 0).trans rfl
    have kHZ9_1 : q3.cell? ⟨b9, 1, none⟩ = some (.slice A9 0 c9) := (blk_cell HZ9.out 1).trans rfl
    go_wp2_with (fail)
    refine ((HV _ HC.out).out).mono ?_
    rintro e q4 ⟨rfl, hB⟩
    clear hsb9 hsq3 kHZ3_0 kHZ3_1 kHZ9_0 kHZ9_1
    have HZ3 := Aside0.mk (blk_below HZ3.out hB)
    have HZ9 := Aside0.mk (blk_below HZ9.out hB)
    have HC := Aside0.mk (Kd.C_below HC.out hB)
    have HX := Aside0.mk (pw_cell_below hB HX.out)
    have HC9 := Aside0.mk (Kd.C_below HC9.out hB)
    have HB := Aside0.mk (below_then HB.out HB.out.size hB)
    clear hB
    have kHZ3_0 : q4.cell? ⟨b3, 0, none⟩ = some (.int .i64 mk) := (blk_cell HZ3.out 0).trans rfl
    have kHZ3_1 : q4.cell? ⟨b3, 1, none⟩ = some (.slice (some ad) st.length c) := (blk_cell HZ3.out 1).trans rfl
    have kHZ9_0 : q4.cell? ⟨b9, 0, none⟩ = some (.int .i64 0) := (blk_cell HZ9.out 0).trans rfl
    have kHZ9_1 : q4.cell? ⟨b9, 1, none⟩ = some (.slice A9 0 c9) := (blk_cell HZ9.out 1).trans rfl
    go_wp2
    clear kHZ3_0 kHZ3_1 kHZ9_0 kHZ9_1
    have HZ3_0 := Aside0.mk (blk_below HZ3.out (below_drew (Below.refl _ _)))
    have HZ9_0 := Aside0.mk (blk_below HZ9.out (below_drew (Below.refl _ _)))
    have HC_0 := Aside0.mk (Kd.C_below HC.out (below_drew (Below.refl _ _)))
    have HC9_0 := Aside0.mk (Kd.C_below HC9.out (below_drew (Below.refl _ _)))
    have HX_0 := Aside0.mk (pw_cell_below (below_drew (Below.refl _ _)) HX.out)
    have HB_0 := Aside0.mk (below_drew1 HB.out)
    clear HZ3 HZ9 HC HC9 HX HB
    refine start_ (n := 14) (S := fun w' => w'.cell? ⟨b3, 0, none⟩ = some (.int .i64 mk) ∧ w'.cell? ⟨b3, 1, none⟩ = some (.slice (some ad) st.length c) ∧ w'.cell? ⟨b9, 0, none⟩ = some (.int .i64 0) ∧ w'.cell? ⟨b9, 1, none⟩ = some (.slice A9 0 c9) ∧ w'.cell? (ad.add j) = some (.int .i64 (rd st j))) (ds := []) #[false, false, false, false, false, false, false, false, false, false, false, false, false, false] (by kernel_rfl) rfl rfl ⟨(blk_cell HZ3_0.out 0).trans rfl, (blk_cell HZ3_0.out 1).trans rfl, (blk_cell HZ9_0.out 0).trans rfl, (blk_cell HZ9_0.out 1).trans rfl, HX_0.out⟩ (fun hHeld => ?_)
    refine pure_ (i := 0) (N := some 69) (v := ?_) (a' := ?_) #[true, false, false, false, false, false, false, false, false, false, false, false, false, false] rfl rfl (by kernel_rfl) (fun _ _ _ h => h) (Or.inl ⟨by rfl, ?_⟩) ?_ ?_
    rotate_left
    · intro w'
      go_simp
      with_reducible rfl
    rotate_left
    · simp only [Act.put, List.setIfInBounds_toArray, List.set_cons_zero, List.set_cons_succ, i64_w, i32_w]
      rfl
    refine pure_ (i := 1) (N := some 70) (v := ?_) (a' := ?_) #[true, true, false, false, false, false, false, false, false, false, false, false, false, false] rfl rfl (by kernel_rfl) (fun _ _ _ h => h) (Or.inl ⟨by rfl, ?_⟩) ?_ ?_
    rotate_left
    · intro w'
      go_simp
      with_reducible rfl
    rotate_left
    · simp only [Act.put, List.setIfInBounds_toArray, List.set_cons_zero, List.set_cons_succ, i64_w, i32_w]
      rfl
    refine pure_ (i := 2) (N := some 71) (v := ?_) (a' := ?_) #[true, true, true, false, false, false, false, false, false, false, false, false, false, false] rfl rfl (by kernel_rfl) (fun _ _ _ h => h) (Or.inl ⟨by rfl, ?_⟩) ?_ ?_
    rotate_left
    · intro w'
      go_simp
      with_reducible rfl
    rotate_left
    · simp only [Act.put, List.setIfInBounds_toArray, List.set_cons_zero, List.set_cons_succ, i64_w, i32_w]
      rfl
    refine pure_ (i := 3) (N := some 72) (v := ?_) (a' := ?_) #[true, true, true, true, false, false, false, false, false, false, false, false, false, false] rfl rfl (by kernel_rfl) (fun _ _ _ h => h) (Or.inl ⟨by rfl, ?_⟩) ?_ ?_
    rotate_left
    · intro w'
      go_simp
      with_reducible rfl
    rotate_left
    · simp only [Act.put, List.setIfInBounds_toArray, List.set_cons_zero, List.set_cons_succ, i64_w, i32_w]
      rfl
    refine pure_ (i := 4) (N := some 73) (v := ?_) (a' := ?_) #[true, true, true, true, true, false, false, false, false, false, false, false, false, false] rfl rfl (by kernel_rfl) (fun _ _ _ h => h) (Or.inl ⟨by rfl, ?_⟩) ?_ ?_
    rotate_left
    · intro w'
      go_simp
      with_reducible rfl
    rotate_left
    · simp only [Act.put, List.setIfInBounds_toArray, List.set_cons_zero, List.set_cons_succ, i64_w, i32_w]
      rfl
    refine pure_ (i := 6) (N := some 75) (v := ?_) (a' := ?_) #[true, true, true, true, true, false, true, false, false, false, false, false, false, false] rfl rfl (by kernel_rfl) (fun _ _ _ h => h) (Or.inl ⟨by rfl, ?_⟩) ?_ ?_
    rotate_left
    · intro w'
      go_simp
      with_reducible rfl
    rotate_left
    · simp only [Act.put, List.setIfInBounds_toArray, List.set_cons_zero, List.set_cons_succ, i64_w, i32_w]
      rfl
    refine pure_ (i := 8) (N := some 77) (v := ?_) (a' := ?_) #[true, true, true, true, true, false, true, false, true, false, false, false, false, false] rfl rfl (by kernel_rfl) (fun _ _ _ h => h) (Or.inl ⟨by rfl, ?_⟩) ?_ ?_
    rotate_left
    · intro w'
      go_simp
      with_reducible rfl
    rotate_left
    · simp only [Act.put, List.setIfInBounds_toArray, List.set_cons_zero, List.set_cons_succ, i64_w, i32_w]
      rfl
    refine take_ (i := 5) (N := some 74) (v := ?_) (a' := ?_) #[true, true, true, true, true, true, true, false, true, false, false, false, false, false] rfl rfl (by kernel_rfl) (fun _ _ _ h => h) (Or.inl ⟨by rfl, ?_⟩) hHeld ?_ ?_
    rotate_left
    · rintro w' ⟨s0, s1, s2, s3, s4⟩
      go_simp
      with_reducible rfl
    rotate_left
    · simp only [Act.put, List.setIfInBounds_toArray, List.set_cons_zero, List.set_cons_succ, i64_w, i32_w]
      rfl
    refine take_ (i := 7) (N := some 76) (v := ?_) (a' := ?_) #[true, true, true, true, true, true, true, true, true, false, false, false, false, false] rfl rfl (by kernel_rfl) (fun _ _ _ h => h) (Or.inl ⟨by rfl, ?_⟩) hHeld ?_ ?_
    rotate_left
    · rintro w' ⟨s0, s1, s2, s3, s4⟩
      go_simp
      with_reducible rfl
    rotate_left
    · simp only [Act.put, List.setIfInBounds_toArray, List.set_cons_zero, List.set_cons_succ, i64_w, i32_w]
      rfl
    refine pure_ (i := 9) (N := some 78) (v := ?_) (a' := ?_) #[true, true, true, true, true, true, true, true, true, true, false, false, false, false] rfl rfl (by kernel_rfl) (fun _ _ _ h => h) (Or.inl ⟨by rfl, ?_⟩) ?_ ?_
    rotate_left
    · intro w'
      go_simp
      with_reducible rfl
    rotate_left
    · simp only [Act.put, List.setIfInBounds_toArray, List.set_cons_zero, List.set_cons_succ, i64_w, i32_w]
      rfl
    refine take_ (i := 10) (N := some 79) (v := ?_) (a' := ?_) #[true, true, true, true, true, true, true, true, true, true, true, false, false, false] rfl rfl (by kernel_rfl) (fun _ _ _ h => h) (Or.inl ⟨by rfl, ?_⟩) hHeld ?_ ?_
    rotate_left
    · rintro w' ⟨s0, s1, s2, s3, s4⟩
      go_simp
      with_reducible rfl
    rotate_left
    · simp only [Act.put, List.setIfInBounds_toArray, List.set_cons_zero, List.set_cons_succ, i64_w, i32_w]
      rfl
    refine one_ (i := 11) (N := some 80) #[true, true, true, true, true, true, true, true, true, true, true, true, false, false] rfl rfl (by kernel_rfl) (by decide) (fun K hK => ?_)
    refine goes_ Try.func32 (by kernel_rfl) rfl #[.int .i64 mk, .int .i64 (rd st j)] (by rfl) rfl rfl (by simp only [List.map_toArray, List.map_cons, List.map_nil]; rfl) ?_
    with_reducible refine (likelyB mk (rd st j) _ hs).mono ?_
    rintro e wk1 ⟨rfl, hk1⟩
    refine ⟨_, rfl, ?_⟩
    have HZ3_1 := Aside0.mk (blk_below HZ3_0.out hk1)
    have HZ9_1 := Aside0.mk (blk_below HZ9_0.out hk1)
    have HC_1 := Aside0.mk (Kd.C_below HC_0.out hk1)
    have HC9_1 := Aside0.mk (Kd.C_below HC9_0.out hk1)
    have HX_1 := Aside0.mk (pw_cell_below hk1 HX_0.out)
    have HB_1 := Aside0.mk (below_then HB_0.out HB_0.out.size hk1)
    clear HZ3_0 HZ9_0 HC_0 HC9_0 HX_0 HB_0 hk1
    refine hK.out _ _ ⟨(blk_cell HZ3_1.out 0).trans rfl, (blk_cell HZ3_1.out 1).trans rfl, (blk_cell HZ9_1.out 0).trans rfl, (blk_cell HZ9_1.out 1).trans rfl, HX_1.out⟩ (fun hHeld => ?_)
    clear hK K
    refine norm_ (a' := ?_) ?_ ?_
    rotate_left
    · show Act.put _ (some 80) _ = _
      simp only [Act.put, List.setIfInBounds_toArray, List.set_cons_zero, List.set_cons_succ, i64_w, i32_w]
      rfl
    refine pure_ (i := 12) (N := some 81) (v := ?_) (a' := ?_) #[true, true, true, true, true, true, true, true, true, true, true, true, true, false] rfl rfl (by kernel_rfl) (fun _ _ _ h => h) (Or.inl ⟨by rfl, ?_⟩) ?_ ?_
    rotate_left
    · intro w'
      go_simp
      with_reducible rfl
    rotate_left
    · simp only [Act.put, List.setIfInBounds_toArray, List.set_cons_zero, List.set_cons_succ, i64_w, i32_w]
      rfl
    refine pure_ (i := 13) (N := some 82) (v := ?_) (a' := ?_) #[true, true, true, true, true, true, true, true, true, true, true, true, true, true] rfl rfl (by kernel_rfl) (fun _ _ _ h => h) (Or.inl ⟨by rfl, ?_⟩) ?_ ?_
    rotate_left
    · intro w'
      go_simp
      with_reducible rfl
    rotate_left
    · simp only [Act.put, List.setIfInBounds_toArray, List.set_cons_zero, List.set_cons_succ, i64_w, i32_w]
      rfl
    refine done_ (by kernel_rfl) ?_

    have HZ3 := HZ3_1
    have HZ9 := HZ9_1
    have HC := HC_1
    have HC9 := HC9_1
    have HX := HX_1
    have HB := HB_1
    clear HZ3_1 HZ9_1 HC_1 HC9_1 HX_1 HB_1
    have kHZ3_0 : wk1.cell? ⟨b3, 0, none⟩ = some (.int .i64 mk) := (blk_cell HZ3.out 0).trans rfl
    have kHZ3_1 : wk1.cell? ⟨b3, 1, none⟩ = some (.slice (some ad) st.length c) := (blk_cell HZ3.out 1).trans rfl
    have kHZ9_0 : wk1.cell? ⟨b9, 0, none⟩ = some (.int .i64 0) := (blk_cell HZ9.out 0).trans rfl
    have kHZ9_1 : wk1.cell? ⟨b9, 1, none⟩ = some (.slice A9 0 c9) := (blk_cell HZ9.out 1).trans rfl
    go_wp2_with (fail)
    refine (same_true A9 c9 none 0 0 [] _ _ _ rfl rfl HC9.out hc9 (Kd.C_nil _ _) (Nat.le_refl _)).mono ?_
    rintro e z1 ⟨rfl, hB⟩
    clear kHZ3_0 kHZ3_1 kHZ9_0 kHZ9_1
    have HZ3 := Aside0.mk (blk_below HZ3.out hB)
    have HZ9 := Aside0.mk (blk_below HZ9.out hB)
    have HC := Aside0.mk (Kd.C_below HC.out hB)
    have HX := Aside0.mk (pw_cell_below hB HX.out)
    have HC9 := Aside0.mk (Kd.C_below HC9.out hB)
    have HB := Aside0.mk (below_then HB.out HB.out.size hB)
    clear hB
    have kHZ3_0 : z1.cell? ⟨b3, 0, none⟩ = some (.int .i64 mk) := (blk_cell HZ3.out 0).trans rfl
    have kHZ3_1 : z1.cell? ⟨b3, 1, none⟩ = some (.slice (some ad) st.length c) := (blk_cell HZ3.out 1).trans rfl
    have kHZ9_0 : z1.cell? ⟨b9, 0, none⟩ = some (.int .i64 0) := (blk_cell HZ9.out 0).trans rfl
    have kHZ9_1 : z1.cell? ⟨b9, 1, none⟩ = some (.slice A9 0 c9) := (blk_cell HZ9.out 1).trans rfl
    go_wp2_with (fail)
    refine (awake_calls _).mono ?_
    rintro e z2 ⟨rfl, hB⟩
    clear kHZ3_0 kHZ3_1 kHZ9_0 kHZ9_1
    have HZ3 := Aside0.mk (blk_below HZ3.out hB)
    have HZ9 := Aside0.mk (blk_below HZ9.out hB)
    have HC := Aside0.mk (Kd.C_below HC.out hB)
    have HX := Aside0.mk (pw_cell_below hB HX.out)
    have HC9 := Aside0.mk (Kd.C_below HC9.out hB)
    have HB := Aside0.mk (below_then HB.out HB.out.size hB)
    clear hB
    go_wp2
    go_ret
    exact ⟨rfl, HB.out⟩
set_option maxHeartbeats 4000000 in
set_option maxRecDepth 100000 in
theorem walk4_0 (w : World) (mk : Int) (ad : Addr) (c : Nat) (st : List Int) (hl : st.length ≤ c) (hC : Kd.C (Kd.int .i64) w (some ad) st.length st) (j : Nat) (hn : ¬ (st.length : Int) > 16384) (hm : okModel mk st) (hj : j < st.length) (hc0 : w.cell? (ad.add j) = some (.int .i64 (rd st j)))  :
    Calls Try.prog 6 #[.agg #[.int .i64 mk, .slice (some ad) st.length c], .int .i64 (j : Int), .int .i64 0] w fun e w' => e = .returned (.bool true) ∧ Below w.heap.size w w' := by
    have hu := Try.underlying24
    have hs : okState mk (rd st j) := hm.2.2 _ (rd_mem (by omega) (by omega))
    have h0 : (0 : Int) ≤ (j : Int) := by omega
    have h1 : (j : Int) < (st.length : Int) := by omega
    obtain ⟨i, hij⟩ : ∃ i : Int, (j : Int) = i := ⟨_, rfl⟩
    obtain ⟨ns, hns⟩ : ∃ ns, st.set j (after mk (rd st j) 0) = ns := ⟨_, rfl⟩
    have HNS := Aside0.mk hns
    have HNL : Aside0 (st.length = ns.length) := ⟨by rw [← hns, List.length_set]⟩
    have HOK : Aside0 (okModel mk ns) := ⟨hns ▸ next_model hm hj (by decide)⟩
    have hp : pR mk st i = (likely mk (rd st j), 0) := by subst hij; unfold pR; rw [if_pos hm, if_pos (by omega)]
    have hx : nextR mk st i 0 = (mk, ns, 0) := by subst hij; unfold nextR; rw [if_pos hm, if_pos ⟨by omega, by decide⟩, Int.toNat_natCast, hns]
    clear hns
    have HP : ∀ W, Kd.C (Kd.int .i64) W (some ad) st.length st → Aside0 (Calls Try.prog 30 #[.agg #[.int .i64 mk, .slice (some ad) st.length c], .int .i64 i] W fun e w' => e = .returned (.tuple #[.int .i64 (likely mk (rd st j)), .int .i64 0]) ∧ Below W.heap.size W w') := fun W h => ⟨by have := p_calls (some ad) c mk st i W h hl; rw [hp] at this; exact this⟩
    have HN := fun W (h : Kd.C (Kd.int .i64) W (some ad) st.length st) => Aside0.mk (next_n (some ad) c mk st ns i 0 W h hl hx st.length HNL.out)
    have HV : ∀ W, Kd.C (Kd.int .i64) W (some ad) st.length st → Aside0 (Calls Try.prog 16 #[.agg #[.int .i64 mk, .slice (some ad) st.length c]] W fun e w' => e = .returned (.bool true) ∧ Below W.heap.size W w') := fun W h => ⟨by have := ref_valid_calls (some ad) c mk st W h hl; rw [decide_eq_true hm] at this; exact this⟩
    clear hp hx
    obtain ⟨b3, hsb3⟩ : ∃ x, w.heap.size = x := ⟨_, rfl⟩
    obtain ⟨W0, hsW0⟩ : ∃ x, w.alloc (.cells #[.int .i64 mk, .slice (some ad) st.length c] 24) = x := ⟨_, rfl⟩
    have HZ3 := Aside0.mk (show W0.heap[b3]? = some (.cells #[.int .i64 mk, .slice (some ad) st.length c] 24 (0, 0)) from hsW0 ▸ hsb3 ▸ heap_new w _)
    have HC := Aside0.mk (show Kd.C (Kd.int .i64) W0 (some ad) st.length st from hsW0 ▸ Kd.C_below hC (below_alloc (Below.refl _ _) _))
    have HB := Aside0.mk (show Below w.heap.size w W0 from hsW0 ▸ below_alloc (Below.refl _ _) _)
    clear hC
    have HX := Aside0.mk (show W0.cell? (ad.add j) = some (.int .i64 (rd st j)) from hsW0 ▸ pw_cell_below (below_alloc (Below.refl _ _) _) hc0)
    subst hij
    clear hm hc0
    go_enter Try.func6, Try.ntmps6
    have kHZ3_0 : W0.cell? ⟨b3, 0, none⟩ = some (.int .i64 mk) := (blk_cell HZ3.out 0).trans rfl
    have kHZ3_1 : W0.cell? ⟨b3, 1, none⟩ = some (.slice (some ad) st.length c) := (blk_cell HZ3.out 1).trans rfl
    go_wp2_with (fail)
    refine ((HP _ HC.out).out).mono ?_
    rintro e q1 ⟨rfl, hB⟩
    clear hsW0 hsb3 kHZ3_0 kHZ3_1
    have HZ3 := Aside0.mk (blk_below HZ3.out hB)
    have HC := Aside0.mk (Kd.C_below HC.out hB)
    have HX := Aside0.mk (pw_cell_below hB HX.out)
    have HB := Aside0.mk (below_then HB.out HB.out.size hB)
    clear hB
    have kHZ3_0 : q1.cell? ⟨b3, 0, none⟩ = some (.int .i64 mk) := (blk_cell HZ3.out 0).trans rfl
    have kHZ3_1 : q1.cell? ⟨b3, 1, none⟩ = some (.slice (some ad) st.length c) := (blk_cell HZ3.out 1).trans rfl
    go_wp2_with (fail)
    refine ((HN _ HC.out).out).mono ?_
    rintro e q2 ⟨A9, c9, rfl, hR, hB⟩
    clear kHZ3_0 kHZ3_1
    have HZ3 := Aside0.mk (blk_below HZ3.out hB)
    have HC := Aside0.mk (Kd.C_below HC.out hB)
    have HX := Aside0.mk (pw_cell_below hB HX.out)
    have HB := Aside0.mk (below_then HB.out HB.out.size hB)
    clear hB
    have HR9 := Aside0.mk (Kd.R_lower hR (Nat.zero_le _))
    have hc9 := (Kd.R_reads' hR).2.1
    clear hR
    obtain ⟨b9, hsb9⟩ : ∃ x_, q2.heap.size = x_ := ⟨_, rfl⟩
    obtain ⟨q3, hsq3⟩ : ∃ x_, q2.alloc (.cells #[.int .i64 mk, .slice A9 st.length c9] 24) = x_ := ⟨_, rfl⟩
    have hB : Below q2.heap.size q2 q3 := hsq3 ▸ below_alloc (Below.refl _ _) _
    have HN := Aside0.mk (show q3.heap[b9]? = some (.cells #[.int .i64 mk, .slice A9 st.length c9] 24 (0, 0)) from hsq3 ▸ hsb9 ▸ heap_new q2 _)
    have HZ3 := Aside0.mk (blk_below HZ3.out hB)
    have HC := Aside0.mk (Kd.C_below HC.out hB)
    have HX := Aside0.mk (pw_cell_below hB HX.out)
    have HR9 := Aside0.mk (Kd.R_below HR9.out hB)
    have HB := Aside0.mk (below_then HB.out HB.out.size hB)
    have HZ9 := HN
    clear HN hB
    have kHZ3_0 : q3.cell? ⟨b3, 0, none⟩ = some (.int .i64 mk) := (blk_cell HZ3.out 0).trans rfl
    have kHZ3_1 : q3.cell? ⟨b3, 1, none⟩ = some (.slice (some ad) st.length c) := (blk_cell HZ3.out 1).trans rfl
    have kHZ9_0 : q3.cell? ⟨b9, 0, none⟩ = some (.int .i64 mk) := (blk_cell HZ9.out 0).trans rfl
    have kHZ9_1 : q3.cell? ⟨b9, 1, none⟩ = some (.slice A9 st.length c9) := (blk_cell HZ9.out 1).trans rfl
    go_wp2_with (fail)
    refine ((HV _ HC.out).out).mono ?_
    rintro e q4 ⟨rfl, hB⟩
    clear hsb9 hsq3 kHZ3_0 kHZ3_1 kHZ9_0 kHZ9_1
    have HZ3 := Aside0.mk (blk_below HZ3.out hB)
    have HZ9 := Aside0.mk (blk_below HZ9.out hB)
    have HC := Aside0.mk (Kd.C_below HC.out hB)
    have HX := Aside0.mk (pw_cell_below hB HX.out)
    have HR9 := Aside0.mk (Kd.R_below HR9.out hB)
    have HB := Aside0.mk (below_then HB.out HB.out.size hB)
    clear hB
    have kHZ3_0 : q4.cell? ⟨b3, 0, none⟩ = some (.int .i64 mk) := (blk_cell HZ3.out 0).trans rfl
    have kHZ3_1 : q4.cell? ⟨b3, 1, none⟩ = some (.slice (some ad) st.length c) := (blk_cell HZ3.out 1).trans rfl
    have kHZ9_0 : q4.cell? ⟨b9, 0, none⟩ = some (.int .i64 mk) := (blk_cell HZ9.out 0).trans rfl
    have kHZ9_1 : q4.cell? ⟨b9, 1, none⟩ = some (.slice A9 st.length c9) := (blk_cell HZ9.out 1).trans rfl
    go_wp2
    clear kHZ3_0 kHZ3_1 kHZ9_0 kHZ9_1
    have HZ3_0 := Aside0.mk (blk_below HZ3.out (below_drew (Below.refl _ _)))
    have HZ9_0 := Aside0.mk (blk_below HZ9.out (below_drew (Below.refl _ _)))
    have HC_0 := Aside0.mk (Kd.C_below HC.out (below_drew (Below.refl _ _)))
    have HR9_0 := Aside0.mk (Kd.R_below HR9.out (below_drew (Below.refl _ _)))
    have HX_0 := Aside0.mk (pw_cell_below (below_drew (Below.refl _ _)) HX.out)
    have HB_0 := Aside0.mk (below_drew1 HB.out)
    clear HZ3 HZ9 HC HR9 HX HB
    refine start_ (n := 14) (S := fun w' => w'.cell? ⟨b3, 0, none⟩ = some (.int .i64 mk) ∧ w'.cell? ⟨b3, 1, none⟩ = some (.slice (some ad) st.length c) ∧ w'.cell? ⟨b9, 0, none⟩ = some (.int .i64 mk) ∧ w'.cell? ⟨b9, 1, none⟩ = some (.slice A9 st.length c9) ∧ w'.cell? (ad.add j) = some (.int .i64 (rd st j))) (ds := []) #[false, false, false, false, false, false, false, false, false, false, false, false, false, false] (by kernel_rfl) rfl rfl ⟨(blk_cell HZ3_0.out 0).trans rfl, (blk_cell HZ3_0.out 1).trans rfl, (blk_cell HZ9_0.out 0).trans rfl, (blk_cell HZ9_0.out 1).trans rfl, HX_0.out⟩ (fun hHeld => ?_)
    refine pure_ (i := 0) (N := some 69) (v := ?_) (a' := ?_) #[true, false, false, false, false, false, false, false, false, false, false, false, false, false] rfl rfl (by kernel_rfl) (fun _ _ _ h => h) (Or.inl ⟨by rfl, ?_⟩) ?_ ?_
    rotate_left
    · intro w'
      go_simp
      with_reducible rfl
    rotate_left
    · simp only [Act.put, List.setIfInBounds_toArray, List.set_cons_zero, List.set_cons_succ, i64_w, i32_w]
      rfl
    refine pure_ (i := 1) (N := some 70) (v := ?_) (a' := ?_) #[true, true, false, false, false, false, false, false, false, false, false, false, false, false] rfl rfl (by kernel_rfl) (fun _ _ _ h => h) (Or.inl ⟨by rfl, ?_⟩) ?_ ?_
    rotate_left
    · intro w'
      go_simp
      with_reducible rfl
    rotate_left
    · simp only [Act.put, List.setIfInBounds_toArray, List.set_cons_zero, List.set_cons_succ, i64_w, i32_w]
      rfl
    refine pure_ (i := 2) (N := some 71) (v := ?_) (a' := ?_) #[true, true, true, false, false, false, false, false, false, false, false, false, false, false] rfl rfl (by kernel_rfl) (fun _ _ _ h => h) (Or.inl ⟨by rfl, ?_⟩) ?_ ?_
    rotate_left
    · intro w'
      go_simp
      with_reducible rfl
    rotate_left
    · simp only [Act.put, List.setIfInBounds_toArray, List.set_cons_zero, List.set_cons_succ, i64_w, i32_w]
      rfl
    refine pure_ (i := 3) (N := some 72) (v := ?_) (a' := ?_) #[true, true, true, true, false, false, false, false, false, false, false, false, false, false] rfl rfl (by kernel_rfl) (fun _ _ _ h => h) (Or.inl ⟨by rfl, ?_⟩) ?_ ?_
    rotate_left
    · intro w'
      go_simp
      with_reducible rfl
    rotate_left
    · simp only [Act.put, List.setIfInBounds_toArray, List.set_cons_zero, List.set_cons_succ, i64_w, i32_w]
      rfl
    refine pure_ (i := 4) (N := some 73) (v := ?_) (a' := ?_) #[true, true, true, true, true, false, false, false, false, false, false, false, false, false] rfl rfl (by kernel_rfl) (fun _ _ _ h => h) (Or.inl ⟨by rfl, ?_⟩) ?_ ?_
    rotate_left
    · intro w'
      go_simp
      with_reducible rfl
    rotate_left
    · simp only [Act.put, List.setIfInBounds_toArray, List.set_cons_zero, List.set_cons_succ, i64_w, i32_w]
      rfl
    refine pure_ (i := 6) (N := some 75) (v := ?_) (a' := ?_) #[true, true, true, true, true, false, true, false, false, false, false, false, false, false] rfl rfl (by kernel_rfl) (fun _ _ _ h => h) (Or.inl ⟨by rfl, ?_⟩) ?_ ?_
    rotate_left
    · intro w'
      go_simp
      with_reducible rfl
    rotate_left
    · simp only [Act.put, List.setIfInBounds_toArray, List.set_cons_zero, List.set_cons_succ, i64_w, i32_w]
      rfl
    refine pure_ (i := 8) (N := some 77) (v := ?_) (a' := ?_) #[true, true, true, true, true, false, true, false, true, false, false, false, false, false] rfl rfl (by kernel_rfl) (fun _ _ _ h => h) (Or.inl ⟨by rfl, ?_⟩) ?_ ?_
    rotate_left
    · intro w'
      go_simp
      with_reducible rfl
    rotate_left
    · simp only [Act.put, List.setIfInBounds_toArray, List.set_cons_zero, List.set_cons_succ, i64_w, i32_w]
      rfl
    refine take_ (i := 5) (N := some 74) (v := ?_) (a' := ?_) #[true, true, true, true, true, true, true, false, true, false, false, false, false, false] rfl rfl (by kernel_rfl) (fun _ _ _ h => h) (Or.inl ⟨by rfl, ?_⟩) hHeld ?_ ?_
    rotate_left
    · rintro w' ⟨s0, s1, s2, s3, s4⟩
      go_simp
      with_reducible rfl
    rotate_left
    · simp only [Act.put, List.setIfInBounds_toArray, List.set_cons_zero, List.set_cons_succ, i64_w, i32_w]
      rfl
    refine take_ (i := 7) (N := some 76) (v := ?_) (a' := ?_) #[true, true, true, true, true, true, true, true, true, false, false, false, false, false] rfl rfl (by kernel_rfl) (fun _ _ _ h => h) (Or.inl ⟨by rfl, ?_⟩) hHeld ?_ ?_
    rotate_left
    · rintro w' ⟨s0, s1, s2, s3, s4⟩
      go_simp
      with_reducible rfl
    rotate_left
    · simp only [Act.put, List.setIfInBounds_toArray, List.set_cons_zero, List.set_cons_succ, i64_w, i32_w]
      rfl
    refine pure_ (i := 9) (N := some 78) (v := ?_) (a' := ?_) #[true, true, true, true, true, true, true, true, true, true, false, false, false, false] rfl rfl (by kernel_rfl) (fun _ _ _ h => h) (Or.inl ⟨by rfl, ?_⟩) ?_ ?_
    rotate_left
    · intro w'
      go_simp
      with_reducible rfl
    rotate_left
    · simp only [Act.put, List.setIfInBounds_toArray, List.set_cons_zero, List.set_cons_succ, i64_w, i32_w]
      rfl
    refine take_ (i := 10) (N := some 79) (v := ?_) (a' := ?_) #[true, true, true, true, true, true, true, true, true, true, true, false, false, false] rfl rfl (by kernel_rfl) (fun _ _ _ h => h) (Or.inl ⟨by rfl, ?_⟩) hHeld ?_ ?_
    rotate_left
    · rintro w' ⟨s0, s1, s2, s3, s4⟩
      go_simp
      with_reducible rfl
    rotate_left
    · simp only [Act.put, List.setIfInBounds_toArray, List.set_cons_zero, List.set_cons_succ, i64_w, i32_w]
      rfl
    refine one_ (i := 11) (N := some 80) #[true, true, true, true, true, true, true, true, true, true, true, true, false, false] rfl rfl (by kernel_rfl) (by decide) (fun K hK => ?_)
    refine goes_ Try.func32 (by kernel_rfl) rfl #[.int .i64 mk, .int .i64 (rd st j)] (by rfl) rfl rfl (by simp only [List.map_toArray, List.map_cons, List.map_nil]; rfl) ?_
    with_reducible refine (likelyB mk (rd st j) _ hs).mono ?_
    rintro e wk1 ⟨rfl, hk1⟩
    refine ⟨_, rfl, ?_⟩
    have HZ3_1 := Aside0.mk (blk_below HZ3_0.out hk1)
    have HZ9_1 := Aside0.mk (blk_below HZ9_0.out hk1)
    have HC_1 := Aside0.mk (Kd.C_below HC_0.out hk1)
    have HR9_1 := Aside0.mk (Kd.R_below HR9_0.out hk1)
    have HX_1 := Aside0.mk (pw_cell_below hk1 HX_0.out)
    have HB_1 := Aside0.mk (below_then HB_0.out HB_0.out.size hk1)
    clear HZ3_0 HZ9_0 HC_0 HR9_0 HX_0 HB_0 hk1
    refine hK.out _ _ ⟨(blk_cell HZ3_1.out 0).trans rfl, (blk_cell HZ3_1.out 1).trans rfl, (blk_cell HZ9_1.out 0).trans rfl, (blk_cell HZ9_1.out 1).trans rfl, HX_1.out⟩ (fun hHeld => ?_)
    clear hK K
    refine norm_ (a' := ?_) ?_ ?_
    rotate_left
    · show Act.put _ (some 80) _ = _
      simp only [Act.put, List.setIfInBounds_toArray, List.set_cons_zero, List.set_cons_succ, i64_w, i32_w]
      rfl
    refine pure_ (i := 12) (N := some 81) (v := ?_) (a' := ?_) #[true, true, true, true, true, true, true, true, true, true, true, true, true, false] rfl rfl (by kernel_rfl) (fun _ _ _ h => h) (Or.inl ⟨by rfl, ?_⟩) ?_ ?_
    rotate_left
    · intro w'
      go_simp
      with_reducible rfl
    rotate_left
    · simp only [Act.put, List.setIfInBounds_toArray, List.set_cons_zero, List.set_cons_succ, i64_w, i32_w]
      rfl
    refine pure_ (i := 13) (N := some 82) (v := ?_) (a' := ?_) #[true, true, true, true, true, true, true, true, true, true, true, true, true, true] rfl rfl (by kernel_rfl) (fun _ _ _ h => h) (Or.inl ⟨by rfl, ?_⟩) ?_ ?_
    rotate_left
    · intro w'
      go_simp
      with_reducible rfl
    rotate_left
    · simp only [Act.put, List.setIfInBounds_toArray, List.set_cons_zero, List.set_cons_succ, i64_w, i32_w]
      rfl
    refine done_ (by kernel_rfl) ?_

    have HZ3 := HZ3_1
    have HZ9 := HZ9_1
    have HC := HC_1
    have HR9 := HR9_1
    have HX := HX_1
    have HB := HB_1
    clear HZ3_1 HZ9_1 HC_1 HR9_1 HX_1 HB_1
    have kHZ3_0 : wk1.cell? ⟨b3, 0, none⟩ = some (.int .i64 mk) := (blk_cell HZ3.out 0).trans rfl
    have kHZ3_1 : wk1.cell? ⟨b3, 1, none⟩ = some (.slice (some ad) st.length c) := (blk_cell HZ3.out 1).trans rfl
    have kHZ9_0 : wk1.cell? ⟨b9, 0, none⟩ = some (.int .i64 mk) := (blk_cell HZ9.out 0).trans rfl
    have kHZ9_1 : wk1.cell? ⟨b9, 1, none⟩ = some (.slice A9 st.length c9) := (blk_cell HZ9.out 1).trans rfl
    go_wp2_with (fail)
    refine (copy_calls (some ad) c mk st _ HC.out hl (by omega)).mono ?_
    rintro e z1 ⟨A8, c8, rfl, hR, hB⟩
    have HRX := Aside0.mk (Kd.R_elder' HR9.out (Kd.R_base hR) hB)
    obtain ⟨g8, cap8, hv8, hg8, _, _⟩ := Kd.R_form hR (by omega)
    injection hv8 with hA8 hn8 hc8
    clear hn8
    subst hA8 hc8
    have HG8 := Aside0.mk (Nat.le_trans HB.out.size hg8)
    clear kHZ3_0 kHZ3_1 kHZ9_0 kHZ9_1
    have HZ3 := Aside0.mk (blk_below HZ3.out hB)
    have HZ9 := Aside0.mk (blk_below HZ9.out hB)
    have HC := Aside0.mk (Kd.C_below HC.out hB)
    have HX := Aside0.mk (pw_cell_below hB HX.out)
    have HR9 := Aside0.mk (Kd.R_below HR9.out hB)
    have HB := Aside0.mk (below_then HB.out HB.out.size hB)
    have HR9 := HRX
    clear HRX hg8
    clear hB
    have HR8 := Aside0.mk (Kd.R_lower hR (Nat.zero_le _))
    have hc8 := (Kd.R_reads' hR).2.1
    clear hR
    obtain ⟨b11, hsb11⟩ : ∃ x_, z1.heap.size = x_ := ⟨_, rfl⟩
    obtain ⟨z2, hsz2⟩ : ∃ x_, z1.alloc (.cells #[.int .i64 mk, .slice (some ⟨g8, 0, none⟩) st.length c8] 24) = x_ := ⟨_, rfl⟩
    have hB : Below z1.heap.size z1 z2 := hsz2 ▸ below_alloc (Below.refl _ _) _
    have HN := Aside0.mk (show z2.heap[b11]? = some (.cells #[.int .i64 mk, .slice (some ⟨g8, 0, none⟩) st.length c8] 24 (0, 0)) from hsz2 ▸ hsb11 ▸ heap_new z1 _)
    have HZ3 := Aside0.mk (blk_below HZ3.out hB)
    have HZ9 := Aside0.mk (blk_below HZ9.out hB)
    have HC := Aside0.mk (Kd.C_below HC.out hB)
    have HX := Aside0.mk (pw_cell_below hB HX.out)
    have HR9 := Aside0.mk (Kd.R_below HR9.out hB)
    have HR8 := Aside0.mk (Kd.R_below HR8.out hB)
    have HB := Aside0.mk (below_then HB.out HB.out.size hB)
    have HZ11 := HN
    clear HN hB
    have kHZ3_0 : z2.cell? ⟨b3, 0, none⟩ = some (.int .i64 mk) := (blk_cell HZ3.out 0).trans rfl
    have kHZ3_1 : z2.cell? ⟨b3, 1, none⟩ = some (.slice (some ad) st.length c) := (blk_cell HZ3.out 1).trans rfl
    have kHZ9_0 : z2.cell? ⟨b9, 0, none⟩ = some (.int .i64 mk) := (blk_cell HZ9.out 0).trans rfl
    have kHZ9_1 : z2.cell? ⟨b9, 1, none⟩ = some (.slice A9 st.length c9) := (blk_cell HZ9.out 1).trans rfl
    have kHZ11_0 : z2.cell? ⟨b11, 0, none⟩ = some (.int .i64 mk) := (blk_cell HZ11.out 0).trans rfl
    have kHZ11_1 : z2.cell? ⟨b11, 1, none⟩ = some (.slice (some ⟨g8, 0, none⟩) st.length c8) := (blk_cell HZ11.out 1).trans rfl
    go_wp2
    clear hsb11 hsz2 kHZ11_0 kHZ11_1 kHZ3_0 kHZ3_1 kHZ9_0 kHZ9_1
    have p0 : z2.cell? ⟨b11, 1, none⟩ = some (.slice (some ⟨g8, 0, none⟩) st.length c8) := (blk_cell HZ11.out 1).trans rfl
    have p1 : z2.cell? ⟨b3, 0, none⟩ = some (.int .i64 mk) := (blk_cell HZ3.out 0).trans rfl
    have p2 : z2.cell? ⟨b3, 1, none⟩ = some (.slice (some ad) st.length c) := (blk_cell HZ3.out 1).trans rfl
    have p3 := HX.out
    refine start_ (n := 14) (S := fun w' => w'.cell? ⟨b11, 1, none⟩ = some (.slice (some ⟨g8, 0, none⟩) st.length c8) ∧ w'.cell? ⟨b3, 0, none⟩ = some (.int .i64 mk) ∧ w'.cell? ⟨b3, 1, none⟩ = some (.slice (some ad) st.length c) ∧ w'.cell? (ad.add j) = some (.int .i64 (rd st j))) (ds := [13]) #[false, false, false, false, false, false, false, false, false, false, false, false, false, false] (by kernel_rfl) rfl rfl ⟨p0, p1, p2, p3⟩ (fun hHeld => ?_)
    refine pure_ (i := 0) (N := some 101) (v := ?_) (a' := ?_) #[true, false, false, false, false, false, false, false, false, false, false, false, false, false] rfl rfl (by kernel_rfl) (fun _ _ _ h => h) (Or.inl ⟨by rfl, ?_⟩) ?_ ?_
    rotate_left
    · intro w'
      go_simp
      with_reducible rfl
    rotate_left
    · simp only [Act.put, List.setIfInBounds_toArray, List.set_cons_zero, List.set_cons_succ, i64_w, i32_w]
      rfl
    refine pure_ (i := 2) (N := some 103) (v := ?_) (a' := ?_) #[true, false, true, false, false, false, false, false, false, false, false, false, false, false] rfl rfl (by kernel_rfl) (fun _ _ _ h => h) (Or.inl ⟨by rfl, ?_⟩) ?_ ?_
    rotate_left
    · intro w'
      go_simp
      with_reducible rfl
    rotate_left
    · simp only [Act.put, List.setIfInBounds_toArray, List.set_cons_zero, List.set_cons_succ, i64_w, i32_w]
      rfl
    refine pure_ (i := 3) (N := some 104) (v := ?_) (a' := ?_) #[true, false, true, true, false, false, false, false, false, false, false, false, false, false] rfl rfl (by kernel_rfl) (fun _ _ _ h => h) (Or.inl ⟨by rfl, ?_⟩) ?_ ?_
    rotate_left
    · intro w'
      go_simp
      with_reducible rfl
    rotate_left
    · simp only [Act.put, List.setIfInBounds_toArray, List.set_cons_zero, List.set_cons_succ, i64_w, i32_w]
      rfl
    refine pure_ (i := 5) (N := some 106) (v := ?_) (a' := ?_) #[true, false, true, true, false, true, false, false, false, false, false, false, false, false] rfl rfl (by kernel_rfl) (fun _ _ _ h => h) (Or.inl ⟨by rfl, ?_⟩) ?_ ?_
    rotate_left
    · intro w'
      go_simp
      with_reducible rfl
    rotate_left
    · simp only [Act.put, List.setIfInBounds_toArray, List.set_cons_zero, List.set_cons_succ, i64_w, i32_w]
      rfl
    refine pure_ (i := 7) (N := some 108) (v := ?_) (a' := ?_) #[true, false, true, true, false, true, false, true, false, false, false, false, false, false] rfl rfl (by kernel_rfl) (fun _ _ _ h => h) (Or.inl ⟨by rfl, ?_⟩) ?_ ?_
    rotate_left
    · intro w'
      go_simp
      with_reducible rfl
    rotate_left
    · simp only [Act.put, List.setIfInBounds_toArray, List.set_cons_zero, List.set_cons_succ, i64_w, i32_w]
      rfl
    refine pure_ (i := 10) (N := some 111) (v := ?_) (a' := ?_) #[true, false, true, true, false, true, false, true, false, false, true, false, false, false] rfl rfl (by kernel_rfl) (fun _ _ _ h => h) (Or.inl ⟨by rfl, ?_⟩) ?_ ?_
    rotate_left
    · intro w'
      go_simp
      with_reducible rfl
    rotate_left
    · simp only [Act.put, List.setIfInBounds_toArray, List.set_cons_zero, List.set_cons_succ, i64_w, i32_w]
      rfl
    refine take_ (i := 1) (N := some 102) (v := ?_) (a' := ?_) #[true, true, true, true, false, true, false, true, false, false, true, false, false, false] rfl rfl (by kernel_rfl) (fun _ _ _ h => h) (Or.inl ⟨by rfl, ?_⟩) hHeld ?_ ?_
    rotate_left
    · rintro w' ⟨s0, s1, s2, s3⟩
      go_simp
      with_reducible rfl
    rotate_left
    · simp only [Act.put, List.setIfInBounds_toArray, List.set_cons_zero, List.set_cons_succ, i64_w, i32_w]
      rfl
    refine take_ (i := 4) (N := some 105) (v := ?_) (a' := ?_) #[true, true, true, true, true, true, false, true, false, false, true, false, false, false] rfl rfl (by kernel_rfl) (fun _ _ _ h => h) (Or.inl ⟨by rfl, ?_⟩) hHeld ?_ ?_
    rotate_left
    · rintro w' ⟨s0, s1, s2, s3⟩
      go_simp
      with_reducible rfl
    rotate_left
    · simp only [Act.put, List.setIfInBounds_toArray, List.set_cons_zero, List.set_cons_succ, i64_w, i32_w]
      rfl
    refine take_ (i := 6) (N := some 107) (v := ?_) (a' := ?_) #[true, true, true, true, true, true, true, true, false, false, true, false, false, false] rfl rfl (by kernel_rfl) (fun _ _ _ h => h) (Or.inl ⟨by rfl, ?_⟩) hHeld ?_ ?_
    rotate_left
    · rintro w' ⟨s0, s1, s2, s3⟩
      go_simp
      with_reducible rfl
    rotate_left
    · simp only [Act.put, List.setIfInBounds_toArray, List.set_cons_zero, List.set_cons_succ, i64_w, i32_w]
      rfl
    refine pure_ (i := 8) (N := some 109) (v := ?_) (a' := ?_) #[true, true, true, true, true, true, true, true, true, false, true, false, false, false] rfl rfl (by kernel_rfl) (fun _ _ _ h => h) (Or.inl ⟨by rfl, ?_⟩) ?_ ?_
    rotate_left
    · intro w'
      go_simp
      with_reducible rfl
    rotate_left
    · simp only [Act.put, List.setIfInBounds_toArray, List.set_cons_zero, List.set_cons_succ, i64_w, i32_w]
      rfl
    refine take_ (i := 9) (N := some 110) (v := ?_) (a' := ?_) #[true, true, true, true, true, true, true, true, true, true, true, false, false, false] rfl rfl (by kernel_rfl) (fun _ _ _ h => h) (Or.inl ⟨by rfl, ?_⟩) hHeld ?_ ?_
    rotate_left
    · rintro w' ⟨s0, s1, s2, s3⟩
      go_simp
      with_reducible rfl
    rotate_left
    · simp only [Act.put, List.setIfInBounds_toArray, List.set_cons_zero, List.set_cons_succ, i64_w, i32_w]
      rfl
    refine one_ (i := 11) (N := some 112) #[true, true, true, true, true, true, true, true, true, true, true, true, false, false] rfl rfl (by kernel_rfl) (by decide) (fun K hK => ?_)
    refine goes_ Try.func33 (by kernel_rfl) rfl #[.int .i64 mk, .int .i64 (rd st j), .int .i64 0] (by rfl) rfl rfl (by simp only [List.map_toArray, List.map_cons, List.map_nil]; rfl) ?_
    with_reducible refine (ref_after mk (rd st j) 0 _ hs (by decide)).mono ?_
    rintro e w6 ⟨rfl, hb6⟩
    refine ⟨_, rfl, ?_⟩
    have hb6' := below_undrew1 hb6
    have HZ3 := Aside0.mk (blk_below HZ3.out hb6')
    have HZ9 := Aside0.mk (blk_below HZ9.out hb6')
    have HZ11 := Aside0.mk (blk_below HZ11.out hb6')
    have HC := Aside0.mk (Kd.C_below HC.out hb6')
    have HX := Aside0.mk (pw_cell_below hb6' HX.out)
    have HR9 := Aside0.mk (Kd.R_below HR9.out hb6')
    have HR8 := Aside0.mk (Kd.R_below HR8.out hb6')
    have HB := Aside0.mk (below_then HB.out HB.out.size hb6')
    have c6 := (Kd.R_cell (0 : Int) HR8.out (j : Int) (by omega) (by omega)).1
    have f6 := (Kd.R_cell (0 : Int) HR8.out (j : Int) (by omega) (by omega)).2
    rw [Int.toNat_natCast] at c6 f6
    clear hb6 hb6'
    refine hK.out _ _ ⟨(blk_cell HZ11.out 1).trans rfl, (blk_cell HZ3.out 0).trans rfl, (blk_cell HZ3.out 1).trans rfl, HX.out⟩ (fun hHeld => ?_)
    clear hK K
    refine norm_ (a' := ?_) ?_ ?_
    rotate_left
    · show Act.put _ (some 112) _ = _
      simp only [Act.put, List.setIfInBounds_toArray, List.set_cons_zero, List.set_cons_succ, i64_w, i32_w]
      rfl
    refine pure_ (i := 12) (N := some 113) (v := ?_) (a' := ?_) #[true, true, true, true, true, true, true, true, true, true, true, true, true, false] rfl rfl (by kernel_rfl) (fun _ _ _ h => h) (Or.inl ⟨by rfl, ?_⟩) ?_ ?_
    rotate_left
    · intro w'
      go_simp
      with_reducible rfl
    rotate_left
    · simp only [Act.put, List.setIfInBounds_toArray, List.set_cons_zero, List.set_cons_succ, i64_w, i32_w]
      rfl
    refine last_ (i := 13) (N := none) #[true, true, true, true, true, true, true, true, true, true, true, true, true, true] rfl rfl (by kernel_rfl) (by decide) (fun K hK => ?_)
    refine skip_ (w1 := ?_) (by rfl) rfl ?_ ?_
    rotate_left
    · go_simp
      rfl
    refine hK.out _ _ ?_
    clear hK K
    refine done_ (by kernel_rfl) ?_

    clear p0 p1 p2 p3
    obtain ⟨w7, hw7⟩ : ∃ x, w6.setCell ⟨g8, j, none⟩ (.int .i64 (after mk (rd st j) 0)) = x := ⟨_, rfl⟩
    have hgg : some g8 = (Value.slice (some ⟨g8, 0, none⟩) st.length c8).ownBlock := by simp [Value.ownBlock]
    obtain ⟨cells8, hty⟩ := Kd.R_typed HR8.out g8 hgg.symm
    have hput := (Kd.R_put (enc := Value.int .i64) HR8.out (j : Int) (after mk (rd st j) 0)).1
    rw [Int.toNat_natCast] at hput
    have hput := (hw7 ▸ HNS.out ▸ hput : Kd.R (Kd.int .i64) 3 w7 0 (fun _ => True) (.slice (some ⟨g8, 0, none⟩) st.length c8) ns)
    have HC8 := Aside0.mk (Kd.R_reads' hput).2.2
    have HZ9 := Aside0.mk (show w7.heap[b9]? = _ from hw7 ▸ blk_far HZ9.out (blk_ne HZ9.out hty (by decide)) _)
    have HZ11 := Aside0.mk (show w7.heap[b11]? = _ from hw7 ▸ blk_far HZ11.out (blk_ne HZ11.out hty (by decide)) _)
    have HB := Aside0.mk (show Below w.heap.size w w7 from hw7 ▸ HB.out.setCell HG8.out _)
    have hR9 := Kd.R_far (p := ⟨g8, j, none⟩) HR9.out (fun k hk he => hk.2 (by rw [he]; simp [Value.ownBlock])) (.int .i64 (after mk (rd st j) 0))
    have hR9 := (hw7 ▸ hR9 : Kd.R (Kd.int .i64) 3 w7 0 _ (.slice A9 st.length c9) ns)
    have HC9 := Aside0.mk (Kd.R_reads' hR9).2.2
    clear hgg hty hput hR9 c6 f6 HZ3 HX HC HR8
    rw [hw7]
    clear hw7
    have kHZ9_0 : w7.cell? ⟨b9, 0, none⟩ = some (.int .i64 mk) := (blk_cell HZ9.out 0).trans rfl
    have kHZ9_1 : w7.cell? ⟨b9, 1, none⟩ = some (.slice A9 st.length c9) := (blk_cell HZ9.out 1).trans rfl
    have kHZ11_0 : w7.cell? ⟨b11, 0, none⟩ = some (.int .i64 mk) := (blk_cell HZ11.out 0).trans rfl
    have kHZ11_1 : w7.cell? ⟨b11, 1, none⟩ = some (.slice (some ⟨g8, 0, none⟩) st.length c8) := (blk_cell HZ11.out 1).trans rfl
    go_wp2_with (fail)
    refine (same_true A9 c9 (some ⟨g8, 0, none⟩) c8 mk ns _ _ _ HNL.out HNL.out HC9.out (HNL.out ▸ hc9) HC8.out (HNL.out ▸ hc8)).mono ?_
    rintro e y1 ⟨rfl, hB⟩
    clear kHZ11_0 kHZ11_1 kHZ9_0 kHZ9_1
    have HZ9 := Aside0.mk (blk_below HZ9.out hB)
    have HZ11 := Aside0.mk (blk_below HZ11.out hB)
    have HC9 := Aside0.mk (Kd.C_below HC9.out hB)
    have HC8 := Aside0.mk (Kd.C_below HC8.out hB)
    have HB := Aside0.mk (below_then HB.out HB.out.size hB)
    clear hB
    have kHZ9_0 : y1.cell? ⟨b9, 0, none⟩ = some (.int .i64 mk) := (blk_cell HZ9.out 0).trans rfl
    have kHZ9_1 : y1.cell? ⟨b9, 1, none⟩ = some (.slice A9 st.length c9) := (blk_cell HZ9.out 1).trans rfl
    have kHZ11_0 : y1.cell? ⟨b11, 0, none⟩ = some (.int .i64 mk) := (blk_cell HZ11.out 0).trans rfl
    have kHZ11_1 : y1.cell? ⟨b11, 1, none⟩ = some (.slice (some ⟨g8, 0, none⟩) st.length c8) := (blk_cell HZ11.out 1).trans rfl
    go_wp2_with (fail)
    refine (valid_n A9 c9 mk ns _ _ HNL.out HC9.out (HNL.out ▸ hc9) HOK.out).mono ?_
    rintro e y2 ⟨rfl, hB⟩
    clear kHZ11_0 kHZ11_1 kHZ9_0 kHZ9_1
    have HZ9 := Aside0.mk (blk_below HZ9.out hB)
    have HZ11 := Aside0.mk (blk_below HZ11.out hB)
    have HC9 := Aside0.mk (Kd.C_below HC9.out hB)
    have HC8 := Aside0.mk (Kd.C_below HC8.out hB)
    have HB := Aside0.mk (below_then HB.out HB.out.size hB)
    clear hB
    have kHZ9_0 : y2.cell? ⟨b9, 0, none⟩ = some (.int .i64 mk) := (blk_cell HZ9.out 0).trans rfl
    have kHZ9_1 : y2.cell? ⟨b9, 1, none⟩ = some (.slice A9 st.length c9) := (blk_cell HZ9.out 1).trans rfl
    have kHZ11_0 : y2.cell? ⟨b11, 0, none⟩ = some (.int .i64 mk) := (blk_cell HZ11.out 0).trans rfl
    have kHZ11_1 : y2.cell? ⟨b11, 1, none⟩ = some (.slice (some ⟨g8, 0, none⟩) st.length c8) := (blk_cell HZ11.out 1).trans rfl
    go_wp2_with (fail)
    refine (awake_calls _).mono ?_
    rintro e y3 ⟨rfl, hB⟩
    clear kHZ11_0 kHZ11_1 kHZ9_0 kHZ9_1
    have HZ9 := Aside0.mk (blk_below HZ9.out hB)
    have HZ11 := Aside0.mk (blk_below HZ11.out hB)
    have HC9 := Aside0.mk (Kd.C_below HC9.out hB)
    have HC8 := Aside0.mk (Kd.C_below HC8.out hB)
    have HB := Aside0.mk (below_then HB.out HB.out.size hB)
    clear hB
    go_wp2
    go_ret
    exact ⟨rfl, HB.out⟩
set_option maxHeartbeats 4000000 in
set_option maxRecDepth 100000 in
theorem walk4_1 (w : World) (mk : Int) (ad : Addr) (c : Nat) (st : List Int) (hl : st.length ≤ c) (hC : Kd.C (Kd.int .i64) w (some ad) st.length st) (j : Nat) (hn : ¬ (st.length : Int) > 16384) (hm : okModel mk st) (hj : j < st.length) (hc0 : w.cell? (ad.add j) = some (.int .i64 (rd st j)))  :
    Calls Try.prog 6 #[.agg #[.int .i64 mk, .slice (some ad) st.length c], .int .i64 (j : Int), .int .i64 1] w fun e w' => e = .returned (.bool true) ∧ Below w.heap.size w w' := by
    have hu := Try.underlying24
    have hs : okState mk (rd st j) := hm.2.2 _ (rd_mem (by omega) (by omega))
    have h0 : (0 : Int) ≤ (j : Int) := by omega
    have h1 : (j : Int) < (st.length : Int) := by omega
    obtain ⟨i, hij⟩ : ∃ i : Int, (j : Int) = i := ⟨_, rfl⟩
    obtain ⟨ns, hns⟩ : ∃ ns, st.set j (after mk (rd st j) 1) = ns := ⟨_, rfl⟩
    have HNS := Aside0.mk hns
    have HNL : Aside0 (st.length = ns.length) := ⟨by rw [← hns, List.length_set]⟩
    have HOK : Aside0 (okModel mk ns) := ⟨hns ▸ next_model hm hj (by decide)⟩
    have hp : pR mk st i = (likely mk (rd st j), 0) := by subst hij; unfold pR; rw [if_pos hm, if_pos (by omega)]
    have hx : nextR mk st i 1 = (mk, ns, 0) := by subst hij; unfold nextR; rw [if_pos hm, if_pos ⟨by omega, by decide⟩, Int.toNat_natCast, hns]
    clear hns
    have HP : ∀ W, Kd.C (Kd.int .i64) W (some ad) st.length st → Aside0 (Calls Try.prog 30 #[.agg #[.int .i64 mk, .slice (some ad) st.length c], .int .i64 i] W fun e w' => e = .returned (.tuple #[.int .i64 (likely mk (rd st j)), .int .i64 0]) ∧ Below W.heap.size W w') := fun W h => ⟨by have := p_calls (some ad) c mk st i W h hl; rw [hp] at this; exact this⟩
    have HN := fun W (h : Kd.C (Kd.int .i64) W (some ad) st.length st) => Aside0.mk (next_n (some ad) c mk st ns i 1 W h hl hx st.length HNL.out)
    have HV : ∀ W, Kd.C (Kd.int .i64) W (some ad) st.length st → Aside0 (Calls Try.prog 16 #[.agg #[.int .i64 mk, .slice (some ad) st.length c]] W fun e w' => e = .returned (.bool true) ∧ Below W.heap.size W w') := fun W h => ⟨by have := ref_valid_calls (some ad) c mk st W h hl; rw [decide_eq_true hm] at this; exact this⟩
    clear hp hx
    obtain ⟨b3, hsb3⟩ : ∃ x, w.heap.size = x := ⟨_, rfl⟩
    obtain ⟨W0, hsW0⟩ : ∃ x, w.alloc (.cells #[.int .i64 mk, .slice (some ad) st.length c] 24) = x := ⟨_, rfl⟩
    have HZ3 := Aside0.mk (show W0.heap[b3]? = some (.cells #[.int .i64 mk, .slice (some ad) st.length c] 24 (0, 0)) from hsW0 ▸ hsb3 ▸ heap_new w _)
    have HC := Aside0.mk (show Kd.C (Kd.int .i64) W0 (some ad) st.length st from hsW0 ▸ Kd.C_below hC (below_alloc (Below.refl _ _) _))
    have HB := Aside0.mk (show Below w.heap.size w W0 from hsW0 ▸ below_alloc (Below.refl _ _) _)
    clear hC
    have HX := Aside0.mk (show W0.cell? (ad.add j) = some (.int .i64 (rd st j)) from hsW0 ▸ pw_cell_below (below_alloc (Below.refl _ _) _) hc0)
    subst hij
    clear hm hc0
    go_enter Try.func6, Try.ntmps6
    have kHZ3_0 : W0.cell? ⟨b3, 0, none⟩ = some (.int .i64 mk) := (blk_cell HZ3.out 0).trans rfl
    have kHZ3_1 : W0.cell? ⟨b3, 1, none⟩ = some (.slice (some ad) st.length c) := (blk_cell HZ3.out 1).trans rfl
    go_wp2_with (fail)
    refine ((HP _ HC.out).out).mono ?_
    rintro e q1 ⟨rfl, hB⟩
    clear hsW0 hsb3 kHZ3_0 kHZ3_1
    have HZ3 := Aside0.mk (blk_below HZ3.out hB)
    have HC := Aside0.mk (Kd.C_below HC.out hB)
    have HX := Aside0.mk (pw_cell_below hB HX.out)
    have HB := Aside0.mk (below_then HB.out HB.out.size hB)
    clear hB
    have kHZ3_0 : q1.cell? ⟨b3, 0, none⟩ = some (.int .i64 mk) := (blk_cell HZ3.out 0).trans rfl
    have kHZ3_1 : q1.cell? ⟨b3, 1, none⟩ = some (.slice (some ad) st.length c) := (blk_cell HZ3.out 1).trans rfl
    go_wp2_with (fail)
    refine ((HN _ HC.out).out).mono ?_
    rintro e q2 ⟨A9, c9, rfl, hR, hB⟩
    clear kHZ3_0 kHZ3_1
    have HZ3 := Aside0.mk (blk_below HZ3.out hB)
    have HC := Aside0.mk (Kd.C_below HC.out hB)
    have HX := Aside0.mk (pw_cell_below hB HX.out)
    have HB := Aside0.mk (below_then HB.out HB.out.size hB)
    clear hB
    have HR9 := Aside0.mk (Kd.R_lower hR (Nat.zero_le _))
    have hc9 := (Kd.R_reads' hR).2.1
    clear hR
    obtain ⟨b9, hsb9⟩ : ∃ x_, q2.heap.size = x_ := ⟨_, rfl⟩
    obtain ⟨q3, hsq3⟩ : ∃ x_, q2.alloc (.cells #[.int .i64 mk, .slice A9 st.length c9] 24) = x_ := ⟨_, rfl⟩
    have hB : Below q2.heap.size q2 q3 := hsq3 ▸ below_alloc (Below.refl _ _) _
    have HN := Aside0.mk (show q3.heap[b9]? = some (.cells #[.int .i64 mk, .slice A9 st.length c9] 24 (0, 0)) from hsq3 ▸ hsb9 ▸ heap_new q2 _)
    have HZ3 := Aside0.mk (blk_below HZ3.out hB)
    have HC := Aside0.mk (Kd.C_below HC.out hB)
    have HX := Aside0.mk (pw_cell_below hB HX.out)
    have HR9 := Aside0.mk (Kd.R_below HR9.out hB)
    have HB := Aside0.mk (below_then HB.out HB.out.size hB)
    have HZ9 := HN
    clear HN hB
    have kHZ3_0 : q3.cell? ⟨b3, 0, none⟩ = some (.int .i64 mk) := (blk_cell HZ3.out 0).trans rfl
    have kHZ3_1 : q3.cell? ⟨b3, 1, none⟩ = some (.slice (some ad) st.length c) := (blk_cell HZ3.out 1).trans rfl
    have kHZ9_0 : q3.cell? ⟨b9, 0, none⟩ = some (.int .i64 mk) := (blk_cell HZ9.out 0).trans rfl
    have kHZ9_1 : q3.cell? ⟨b9, 1, none⟩ = some (.slice A9 st.length c9) := (blk_cell HZ9.out 1).trans rfl
    go_wp2_with (fail)
    refine ((HV _ HC.out).out).mono ?_
    rintro e q4 ⟨rfl, hB⟩
    clear hsb9 hsq3 kHZ3_0 kHZ3_1 kHZ9_0 kHZ9_1
    have HZ3 := Aside0.mk (blk_below HZ3.out hB)
    have HZ9 := Aside0.mk (blk_below HZ9.out hB)
    have HC := Aside0.mk (Kd.C_below HC.out hB)
    have HX := Aside0.mk (pw_cell_below hB HX.out)
    have HR9 := Aside0.mk (Kd.R_below HR9.out hB)
    have HB := Aside0.mk (below_then HB.out HB.out.size hB)
    clear hB
    have kHZ3_0 : q4.cell? ⟨b3, 0, none⟩ = some (.int .i64 mk) := (blk_cell HZ3.out 0).trans rfl
    have kHZ3_1 : q4.cell? ⟨b3, 1, none⟩ = some (.slice (some ad) st.length c) := (blk_cell HZ3.out 1).trans rfl
    have kHZ9_0 : q4.cell? ⟨b9, 0, none⟩ = some (.int .i64 mk) := (blk_cell HZ9.out 0).trans rfl
    have kHZ9_1 : q4.cell? ⟨b9, 1, none⟩ = some (.slice A9 st.length c9) := (blk_cell HZ9.out 1).trans rfl
    go_wp2
    clear kHZ3_0 kHZ3_1 kHZ9_0 kHZ9_1
    have HZ3_0 := Aside0.mk (blk_below HZ3.out (below_drew (Below.refl _ _)))
    have HZ9_0 := Aside0.mk (blk_below HZ9.out (below_drew (Below.refl _ _)))
    have HC_0 := Aside0.mk (Kd.C_below HC.out (below_drew (Below.refl _ _)))
    have HR9_0 := Aside0.mk (Kd.R_below HR9.out (below_drew (Below.refl _ _)))
    have HX_0 := Aside0.mk (pw_cell_below (below_drew (Below.refl _ _)) HX.out)
    have HB_0 := Aside0.mk (below_drew1 HB.out)
    clear HZ3 HZ9 HC HR9 HX HB
    refine start_ (n := 14) (S := fun w' => w'.cell? ⟨b3, 0, none⟩ = some (.int .i64 mk) ∧ w'.cell? ⟨b3, 1, none⟩ = some (.slice (some ad) st.length c) ∧ w'.cell? ⟨b9, 0, none⟩ = some (.int .i64 mk) ∧ w'.cell? ⟨b9, 1, none⟩ = some (.slice A9 st.length c9) ∧ w'.cell? (ad.add j) = some (.int .i64 (rd st j))) (ds := []) #[false, false, false, false, false, false, false, false, false, false, false, false, false, false] (by kernel_rfl) rfl rfl ⟨(blk_cell HZ3_0.out 0).trans rfl, (blk_cell HZ3_0.out 1).trans rfl, (blk_cell HZ9_0.out 0).trans rfl, (blk_cell HZ9_0.out 1).trans rfl, HX_0.out⟩ (fun hHeld => ?_)
    refine pure_ (i := 0) (N := some 69) (v := ?_) (a' := ?_) #[true, false, false, false, false, false, false, false, false, false, false, false, false, false] rfl rfl (by kernel_rfl) (fun _ _ _ h => h) (Or.inl ⟨by rfl, ?_⟩) ?_ ?_
    rotate_left
    · intro w'
      go_simp
      with_reducible rfl
    rotate_left
    · simp only [Act.put, List.setIfInBounds_toArray, List.set_cons_zero, List.set_cons_succ, i64_w, i32_w]
      rfl
    refine pure_ (i := 1) (N := some 70) (v := ?_) (a' := ?_) #[true, true, false, false, false, false, false, false, false, false, false, false, false, false] rfl rfl (by kernel_rfl) (fun _ _ _ h => h) (Or.inl ⟨by rfl, ?_⟩) ?_ ?_
    rotate_left
    · intro w'
      go_simp
      with_reducible rfl
    rotate_left
    · simp only [Act.put, List.setIfInBounds_toArray, List.set_cons_zero, List.set_cons_succ, i64_w, i32_w]
      rfl
    refine pure_ (i := 2) (N := some 71) (v := ?_) (a' := ?_) #[true, true, true, false, false, false, false, false, false, false, false, false, false, false] rfl rfl (by kernel_rfl) (fun _ _ _ h => h) (Or.inl ⟨by rfl, ?_⟩) ?_ ?_
    rotate_left
    · intro w'
      go_simp
      with_reducible rfl
    rotate_left
    · simp only [Act.put, List.setIfInBounds_toArray, List.set_cons_zero, List.set_cons_succ, i64_w, i32_w]
      rfl
    refine pure_ (i := 3) (N := some 72) (v := ?_) (a' := ?_) #[true, true, true, true, false, false, false, false, false, false, false, false, false, false] rfl rfl (by kernel_rfl) (fun _ _ _ h => h) (Or.inl ⟨by rfl, ?_⟩) ?_ ?_
    rotate_left
    · intro w'
      go_simp
      with_reducible rfl
    rotate_left
    · simp only [Act.put, List.setIfInBounds_toArray, List.set_cons_zero, List.set_cons_succ, i64_w, i32_w]
      rfl
    refine pure_ (i := 4) (N := some 73) (v := ?_) (a' := ?_) #[true, true, true, true, true, false, false, false, false, false, false, false, false, false] rfl rfl (by kernel_rfl) (fun _ _ _ h => h) (Or.inl ⟨by rfl, ?_⟩) ?_ ?_
    rotate_left
    · intro w'
      go_simp
      with_reducible rfl
    rotate_left
    · simp only [Act.put, List.setIfInBounds_toArray, List.set_cons_zero, List.set_cons_succ, i64_w, i32_w]
      rfl
    refine pure_ (i := 6) (N := some 75) (v := ?_) (a' := ?_) #[true, true, true, true, true, false, true, false, false, false, false, false, false, false] rfl rfl (by kernel_rfl) (fun _ _ _ h => h) (Or.inl ⟨by rfl, ?_⟩) ?_ ?_
    rotate_left
    · intro w'
      go_simp
      with_reducible rfl
    rotate_left
    · simp only [Act.put, List.setIfInBounds_toArray, List.set_cons_zero, List.set_cons_succ, i64_w, i32_w]
      rfl
    refine pure_ (i := 8) (N := some 77) (v := ?_) (a' := ?_) #[true, true, true, true, true, false, true, false, true, false, false, false, false, false] rfl rfl (by kernel_rfl) (fun _ _ _ h => h) (Or.inl ⟨by rfl, ?_⟩) ?_ ?_
    rotate_left
    · intro w'
      go_simp
      with_reducible rfl
    rotate_left
    · simp only [Act.put, List.setIfInBounds_toArray, List.set_cons_zero, List.set_cons_succ, i64_w, i32_w]
      rfl
    refine take_ (i := 5) (N := some 74) (v := ?_) (a' := ?_) #[true, true, true, true, true, true, true, false, true, false, false, false, false, false] rfl rfl (by kernel_rfl) (fun _ _ _ h => h) (Or.inl ⟨by rfl, ?_⟩) hHeld ?_ ?_
    rotate_left
    · rintro w' ⟨s0, s1, s2, s3, s4⟩
      go_simp
      with_reducible rfl
    rotate_left
    · simp only [Act.put, List.setIfInBounds_toArray, List.set_cons_zero, List.set_cons_succ, i64_w, i32_w]
      rfl
    refine take_ (i := 7) (N := some 76) (v := ?_) (a' := ?_) #[true, true, true, true, true, true, true, true, true, false, false, false, false, false] rfl rfl (by kernel_rfl) (fun _ _ _ h => h) (Or.inl ⟨by rfl, ?_⟩) hHeld ?_ ?_
    rotate_left
    · rintro w' ⟨s0, s1, s2, s3, s4⟩
      go_simp
      with_reducible rfl
    rotate_left
    · simp only [Act.put, List.setIfInBounds_toArray, List.set_cons_zero, List.set_cons_succ, i64_w, i32_w]
      rfl
    refine pure_ (i := 9) (N := some 78) (v := ?_) (a' := ?_) #[true, true, true, true, true, true, true, true, true, true, false, false, false, false] rfl rfl (by kernel_rfl) (fun _ _ _ h => h) (Or.inl ⟨by rfl, ?_⟩) ?_ ?_
    rotate_left
    · intro w'
      go_simp
      with_reducible rfl
    rotate_left
    · simp only [Act.put, List.setIfInBounds_toArray, List.set_cons_zero, List.set_cons_succ, i64_w, i32_w]
      rfl
    refine take_ (i := 10) (N := some 79) (v := ?_) (a' := ?_) #[true, true, true, true, true, true, true, true, true, true, true, false, false, false] rfl rfl (by kernel_rfl) (fun _ _ _ h => h) (Or.inl ⟨by rfl, ?_⟩) hHeld ?_ ?_
    rotate_left
    · rintro w' ⟨s0, s1, s2, s3, s4⟩
      go_simp
      with_reducible rfl
    rotate_left
    · simp only [Act.put, List.setIfInBounds_toArray, List.set_cons_zero, List.set_cons_succ, i64_w, i32_w]
      rfl
    refine one_ (i := 11) (N := some 80) #[true, true, true, true, true, true, true, true, true, true, true, true, false, false] rfl rfl (by kernel_rfl) (by decide) (fun K hK => ?_)
    refine goes_ Try.func32 (by kernel_rfl) rfl #[.int .i64 mk, .int .i64 (rd st j)] (by rfl) rfl rfl (by simp only [List.map_toArray, List.map_cons, List.map_nil]; rfl) ?_
    with_reducible refine (likelyB mk (rd st j) _ hs).mono ?_
    rintro e wk1 ⟨rfl, hk1⟩
    refine ⟨_, rfl, ?_⟩
    have HZ3_1 := Aside0.mk (blk_below HZ3_0.out hk1)
    have HZ9_1 := Aside0.mk (blk_below HZ9_0.out hk1)
    have HC_1 := Aside0.mk (Kd.C_below HC_0.out hk1)
    have HR9_1 := Aside0.mk (Kd.R_below HR9_0.out hk1)
    have HX_1 := Aside0.mk (pw_cell_below hk1 HX_0.out)
    have HB_1 := Aside0.mk (below_then HB_0.out HB_0.out.size hk1)
    clear HZ3_0 HZ9_0 HC_0 HR9_0 HX_0 HB_0 hk1
    refine hK.out _ _ ⟨(blk_cell HZ3_1.out 0).trans rfl, (blk_cell HZ3_1.out 1).trans rfl, (blk_cell HZ9_1.out 0).trans rfl, (blk_cell HZ9_1.out 1).trans rfl, HX_1.out⟩ (fun hHeld => ?_)
    clear hK K
    refine norm_ (a' := ?_) ?_ ?_
    rotate_left
    · show Act.put _ (some 80) _ = _
      simp only [Act.put, List.setIfInBounds_toArray, List.set_cons_zero, List.set_cons_succ, i64_w, i32_w]
      rfl
    refine pure_ (i := 12) (N := some 81) (v := ?_) (a' := ?_) #[true, true, true, true, true, true, true, true, true, true, true, true, true, false] rfl rfl (by kernel_rfl) (fun _ _ _ h => h) (Or.inl ⟨by rfl, ?_⟩) ?_ ?_
    rotate_left
    · intro w'
      go_simp
      with_reducible rfl
    rotate_left
    · simp only [Act.put, List.setIfInBounds_toArray, List.set_cons_zero, List.set_cons_succ, i64_w, i32_w]
      rfl
    refine pure_ (i := 13) (N := some 82) (v := ?_) (a' := ?_) #[true, true, true, true, true, true, true, true, true, true, true, true, true, true] rfl rfl (by kernel_rfl) (fun _ _ _ h => h) (Or.inl ⟨by rfl, ?_⟩) ?_ ?_
    rotate_left
    · intro w'
      go_simp
      with_reducible rfl
    rotate_left
    · simp only [Act.put, List.setIfInBounds_toArray, List.set_cons_zero, List.set_cons_succ, i64_w, i32_w]
      rfl
    refine done_ (by kernel_rfl) ?_

    have HZ3 := HZ3_1
    have HZ9 := HZ9_1
    have HC := HC_1
    have HR9 := HR9_1
    have HX := HX_1
    have HB := HB_1
    clear HZ3_1 HZ9_1 HC_1 HR9_1 HX_1 HB_1
    have kHZ3_0 : wk1.cell? ⟨b3, 0, none⟩ = some (.int .i64 mk) := (blk_cell HZ3.out 0).trans rfl
    have kHZ3_1 : wk1.cell? ⟨b3, 1, none⟩ = some (.slice (some ad) st.length c) := (blk_cell HZ3.out 1).trans rfl
    have kHZ9_0 : wk1.cell? ⟨b9, 0, none⟩ = some (.int .i64 mk) := (blk_cell HZ9.out 0).trans rfl
    have kHZ9_1 : wk1.cell? ⟨b9, 1, none⟩ = some (.slice A9 st.length c9) := (blk_cell HZ9.out 1).trans rfl
    go_wp2_with (fail)
    refine (copy_calls (some ad) c mk st _ HC.out hl (by omega)).mono ?_
    rintro e z1 ⟨A8, c8, rfl, hR, hB⟩
    have HRX := Aside0.mk (Kd.R_elder' HR9.out (Kd.R_base hR) hB)
    obtain ⟨g8, cap8, hv8, hg8, _, _⟩ := Kd.R_form hR (by omega)
    injection hv8 with hA8 hn8 hc8
    clear hn8
    subst hA8 hc8
    have HG8 := Aside0.mk (Nat.le_trans HB.out.size hg8)
    clear kHZ3_0 kHZ3_1 kHZ9_0 kHZ9_1
    have HZ3 := Aside0.mk (blk_below HZ3.out hB)
    have HZ9 := Aside0.mk (blk_below HZ9.out hB)
    have HC := Aside0.mk (Kd.C_below HC.out hB)
    have HX := Aside0.mk (pw_cell_below hB HX.out)
    have HR9 := Aside0.mk (Kd.R_below HR9.out hB)
    have HB := Aside0.mk (below_then HB.out HB.out.size hB)
    have HR9 := HRX
    clear HRX hg8
    clear hB
    have HR8 := Aside0.mk (Kd.R_lower hR (Nat.zero_le _))
    have hc8 := (Kd.R_reads' hR).2.1
    clear hR
    obtain ⟨b11, hsb11⟩ : ∃ x_, z1.heap.size = x_ := ⟨_, rfl⟩
    obtain ⟨z2, hsz2⟩ : ∃ x_, z1.alloc (.cells #[.int .i64 mk, .slice (some ⟨g8, 0, none⟩) st.length c8] 24) = x_ := ⟨_, rfl⟩
    have hB : Below z1.heap.size z1 z2 := hsz2 ▸ below_alloc (Below.refl _ _) _
    have HN := Aside0.mk (show z2.heap[b11]? = some (.cells #[.int .i64 mk, .slice (some ⟨g8, 0, none⟩) st.length c8] 24 (0, 0)) from hsz2 ▸ hsb11 ▸ heap_new z1 _)
    have HZ3 := Aside0.mk (blk_below HZ3.out hB)
    have HZ9 := Aside0.mk (blk_below HZ9.out hB)
    have HC := Aside0.mk (Kd.C_below HC.out hB)
    have HX := Aside0.mk (pw_cell_below hB HX.out)
    have HR9 := Aside0.mk (Kd.R_below HR9.out hB)
    have HR8 := Aside0.mk (Kd.R_below HR8.out hB)
    have HB := Aside0.mk (below_then HB.out HB.out.size hB)
    have HZ11 := HN
    clear HN hB
    have kHZ3_0 : z2.cell? ⟨b3, 0, none⟩ = some (.int .i64 mk) := (blk_cell HZ3.out 0).trans rfl
    have kHZ3_1 : z2.cell? ⟨b3, 1, none⟩ = some (.slice (some ad) st.length c) := (blk_cell HZ3.out 1).trans rfl
    have kHZ9_0 : z2.cell? ⟨b9, 0, none⟩ = some (.int .i64 mk) := (blk_cell HZ9.out 0).trans rfl
    have kHZ9_1 : z2.cell? ⟨b9, 1, none⟩ = some (.slice A9 st.length c9) := (blk_cell HZ9.out 1).trans rfl
    have kHZ11_0 : z2.cell? ⟨b11, 0, none⟩ = some (.int .i64 mk) := (blk_cell HZ11.out 0).trans rfl
    have kHZ11_1 : z2.cell? ⟨b11, 1, none⟩ = some (.slice (some ⟨g8, 0, none⟩) st.length c8) := (blk_cell HZ11.out 1).trans rfl
    go_wp2
    clear hsb11 hsz2 kHZ11_0 kHZ11_1 kHZ3_0 kHZ3_1 kHZ9_0 kHZ9_1
    have p0 : z2.cell? ⟨b11, 1, none⟩ = some (.slice (some ⟨g8, 0, none⟩) st.length c8) := (blk_cell HZ11.out 1).trans rfl
    have p1 : z2.cell? ⟨b3, 0, none⟩ = some (.int .i64 mk) := (blk_cell HZ3.out 0).trans rfl
    have p2 : z2.cell? ⟨b3, 1, none⟩ = some (.slice (some ad) st.length c) := (blk_cell HZ3.out 1).trans rfl
    have p3 := HX.out
    refine start_ (n := 14) (S := fun w' => w'.cell? ⟨b11, 1, none⟩ = some (.slice (some ⟨g8, 0, none⟩) st.length c8) ∧ w'.cell? ⟨b3, 0, none⟩ = some (.int .i64 mk) ∧ w'.cell? ⟨b3, 1, none⟩ = some (.slice (some ad) st.length c) ∧ w'.cell? (ad.add j) = some (.int .i64 (rd st j))) (ds := [13]) #[false, false, false, false, false, false, false, false, false, false, false, false, false, false] (by kernel_rfl) rfl rfl ⟨p0, p1, p2, p3⟩ (fun hHeld => ?_)
    refine pure_ (i := 0) (N := some 101) (v := ?_) (a' := ?_) #[true, false, false, false, false, false, false, false, false, false, false, false, false, false] rfl rfl (by kernel_rfl) (fun _ _ _ h => h) (Or.inl ⟨by rfl, ?_⟩) ?_ ?_
    rotate_left
    · intro w'
      go_simp
      with_reducible rfl
    rotate_left
    · simp only [Act.put, List.setIfInBounds_toArray, List.set_cons_zero, List.set_cons_succ, i64_w, i32_w]
      rfl
    refine pure_ (i := 2) (N := some 103) (v := ?_) (a' := ?_) #[true, false, true, false, false, false, false, false, false, false, false, false, false, false] rfl rfl (by kernel_rfl) (fun _ _ _ h => h) (Or.inl ⟨by rfl, ?_⟩) ?_ ?_
    rotate_left
    · intro w'
      go_simp
      with_reducible rfl
    rotate_left
    · simp only [Act.put, List.setIfInBounds_toArray, List.set_cons_zero, List.set_cons_succ, i64_w, i32_w]
      rfl
    refine pure_ (i := 3) (N := some 104) (v := ?_) (a' := ?_) #[true, false, true, true, false, false, false, false, false, false, false, false, false, false] rfl rfl (by kernel_rfl) (fun _ _ _ h => h) (Or.inl ⟨by rfl, ?_⟩) ?_ ?_
    rotate_left
    · intro w'
      go_simp
      with_reducible rfl
    rotate_left
    · simp only [Act.put, List.setIfInBounds_toArray, List.set_cons_zero, List.set_cons_succ, i64_w, i32_w]
      rfl
    refine pure_ (i := 5) (N := some 106) (v := ?_) (a' := ?_) #[true, false, true, true, false, true, false, false, false, false, false, false, false, false] rfl rfl (by kernel_rfl) (fun _ _ _ h => h) (Or.inl ⟨by rfl, ?_⟩) ?_ ?_
    rotate_left
    · intro w'
      go_simp
      with_reducible rfl
    rotate_left
    · simp only [Act.put, List.setIfInBounds_toArray, List.set_cons_zero, List.set_cons_succ, i64_w, i32_w]
      rfl
    refine pure_ (i := 7) (N := some 108) (v := ?_) (a' := ?_) #[true, false, true, true, false, true, false, true, false, false, false, false, false, false] rfl rfl (by kernel_rfl) (fun _ _ _ h => h) (Or.inl ⟨by rfl, ?_⟩) ?_ ?_
    rotate_left
    · intro w'
      go_simp
      with_reducible rfl
    rotate_left
    · simp only [Act.put, List.setIfInBounds_toArray, List.set_cons_zero, List.set_cons_succ, i64_w, i32_w]
      rfl
    refine pure_ (i := 10) (N := some 111) (v := ?_) (a' := ?_) #[true, false, true, true, false, true, false, true, false, false, true, false, false, false] rfl rfl (by kernel_rfl) (fun _ _ _ h => h) (Or.inl ⟨by rfl, ?_⟩) ?_ ?_
    rotate_left
    · intro w'
      go_simp
      with_reducible rfl
    rotate_left
    · simp only [Act.put, List.setIfInBounds_toArray, List.set_cons_zero, List.set_cons_succ, i64_w, i32_w]
      rfl
    refine take_ (i := 1) (N := some 102) (v := ?_) (a' := ?_) #[true, true, true, true, false, true, false, true, false, false, true, false, false, false] rfl rfl (by kernel_rfl) (fun _ _ _ h => h) (Or.inl ⟨by rfl, ?_⟩) hHeld ?_ ?_
    rotate_left
    · rintro w' ⟨s0, s1, s2, s3⟩
      go_simp
      with_reducible rfl
    rotate_left
    · simp only [Act.put, List.setIfInBounds_toArray, List.set_cons_zero, List.set_cons_succ, i64_w, i32_w]
      rfl
    refine take_ (i := 4) (N := some 105) (v := ?_) (a' := ?_) #[true, true, true, true, true, true, false, true, false, false, true, false, false, false] rfl rfl (by kernel_rfl) (fun _ _ _ h => h) (Or.inl ⟨by rfl, ?_⟩) hHeld ?_ ?_
    rotate_left
    · rintro w' ⟨s0, s1, s2, s3⟩
      go_simp
      with_reducible rfl
    rotate_left
    · simp only [Act.put, List.setIfInBounds_toArray, List.set_cons_zero, List.set_cons_succ, i64_w, i32_w]
      rfl
    refine take_ (i := 6) (N := some 107) (v := ?_) (a' := ?_) #[true, true, true, true, true, true, true, true, false, false, true, false, false, false] rfl rfl (by kernel_rfl) (fun _ _ _ h => h) (Or.inl ⟨by rfl, ?_⟩) hHeld ?_ ?_
    rotate_left
    · rintro w' ⟨s0, s1, s2, s3⟩
      go_simp
      with_reducible rfl
    rotate_left
    · simp only [Act.put, List.setIfInBounds_toArray, List.set_cons_zero, List.set_cons_succ, i64_w, i32_w]
      rfl
    refine pure_ (i := 8) (N := some 109) (v := ?_) (a' := ?_) #[true, true, true, true, true, true, true, true, true, false, true, false, false, false] rfl rfl (by kernel_rfl) (fun _ _ _ h => h) (Or.inl ⟨by rfl, ?_⟩) ?_ ?_
    rotate_left
    · intro w'
      go_simp
      with_reducible rfl
    rotate_left
    · simp only [Act.put, List.setIfInBounds_toArray, List.set_cons_zero, List.set_cons_succ, i64_w, i32_w]
      rfl
    refine take_ (i := 9) (N := some 110) (v := ?_) (a' := ?_) #[true, true, true, true, true, true, true, true, true, true, true, false, false, false] rfl rfl (by kernel_rfl) (fun _ _ _ h => h) (Or.inl ⟨by rfl, ?_⟩) hHeld ?_ ?_
    rotate_left
    · rintro w' ⟨s0, s1, s2, s3⟩
      go_simp
      with_reducible rfl
    rotate_left
    · simp only [Act.put, List.setIfInBounds_toArray, List.set_cons_zero, List.set_cons_succ, i64_w, i32_w]
      rfl
    refine one_ (i := 11) (N := some 112) #[true, true, true, true, true, true, true, true, true, true, true, true, false, false] rfl rfl (by kernel_rfl) (by decide) (fun K hK => ?_)
    refine goes_ Try.func33 (by kernel_rfl) rfl #[.int .i64 mk, .int .i64 (rd st j), .int .i64 1] (by rfl) rfl rfl (by simp only [List.map_toArray, List.map_cons, List.map_nil]; rfl) ?_
    with_reducible refine (ref_after mk (rd st j) 1 _ hs (by decide)).mono ?_
    rintro e w6 ⟨rfl, hb6⟩
    refine ⟨_, rfl, ?_⟩
    have hb6' := below_undrew1 hb6
    have HZ3 := Aside0.mk (blk_below HZ3.out hb6')
    have HZ9 := Aside0.mk (blk_below HZ9.out hb6')
    have HZ11 := Aside0.mk (blk_below HZ11.out hb6')
    have HC := Aside0.mk (Kd.C_below HC.out hb6')
    have HX := Aside0.mk (pw_cell_below hb6' HX.out)
    have HR9 := Aside0.mk (Kd.R_below HR9.out hb6')
    have HR8 := Aside0.mk (Kd.R_below HR8.out hb6')
    have HB := Aside0.mk (below_then HB.out HB.out.size hb6')
    have c6 := (Kd.R_cell (0 : Int) HR8.out (j : Int) (by omega) (by omega)).1
    have f6 := (Kd.R_cell (0 : Int) HR8.out (j : Int) (by omega) (by omega)).2
    rw [Int.toNat_natCast] at c6 f6
    clear hb6 hb6'
    refine hK.out _ _ ⟨(blk_cell HZ11.out 1).trans rfl, (blk_cell HZ3.out 0).trans rfl, (blk_cell HZ3.out 1).trans rfl, HX.out⟩ (fun hHeld => ?_)
    clear hK K
    refine norm_ (a' := ?_) ?_ ?_
    rotate_left
    · show Act.put _ (some 112) _ = _
      simp only [Act.put, List.setIfInBounds_toArray, List.set_cons_zero, List.set_cons_succ, i64_w, i32_w]
      rfl
    refine pure_ (i := 12) (N := some 113) (v := ?_) (a' := ?_) #[true, true, true, true, true, true, true, true, true, true, true, true, true, false] rfl rfl (by kernel_rfl) (fun _ _ _ h => h) (Or.inl ⟨by rfl, ?_⟩) ?_ ?_
    rotate_left
    · intro w'
      go_simp
      with_reducible rfl
    rotate_left
    · simp only [Act.put, List.setIfInBounds_toArray, List.set_cons_zero, List.set_cons_succ, i64_w, i32_w]
      rfl
    refine last_ (i := 13) (N := none) #[true, true, true, true, true, true, true, true, true, true, true, true, true, true] rfl rfl (by kernel_rfl) (by decide) (fun K hK => ?_)
    refine skip_ (w1 := ?_) (by rfl) rfl ?_ ?_
    rotate_left
    · go_simp
      rfl
    refine hK.out _ _ ?_
    clear hK K
    refine done_ (by kernel_rfl) ?_

    clear p0 p1 p2 p3
    obtain ⟨w7, hw7⟩ : ∃ x, w6.setCell ⟨g8, j, none⟩ (.int .i64 (after mk (rd st j) 1)) = x := ⟨_, rfl⟩
    have hgg : some g8 = (Value.slice (some ⟨g8, 0, none⟩) st.length c8).ownBlock := by simp [Value.ownBlock]
    obtain ⟨cells8, hty⟩ := Kd.R_typed HR8.out g8 hgg.symm
    have hput := (Kd.R_put (enc := Value.int .i64) HR8.out (j : Int) (after mk (rd st j) 1)).1
    rw [Int.toNat_natCast] at hput
    have hput := (hw7 ▸ HNS.out ▸ hput : Kd.R (Kd.int .i64) 3 w7 0 (fun _ => True) (.slice (some ⟨g8, 0, none⟩) st.length c8) ns)
    have HC8 := Aside0.mk (Kd.R_reads' hput).2.2
    have HZ9 := Aside0.mk (show w7.heap[b9]? = _ from hw7 ▸ blk_far HZ9.out (blk_ne HZ9.out hty (by decide)) _)
    have HZ11 := Aside0.mk (show w7.heap[b11]? = _ from hw7 ▸ blk_far HZ11.out (blk_ne HZ11.out hty (by decide)) _)
    have HB := Aside0.mk (show Below w.heap.size w w7 from hw7 ▸ HB.out.setCell HG8.out _)
    have hR9 := Kd.R_far (p := ⟨g8, j, none⟩) HR9.out (fun k hk he => hk.2 (by rw [he]; simp [Value.ownBlock])) (.int .i64 (after mk (rd st j) 1))
    have hR9 := (hw7 ▸ hR9 : Kd.R (Kd.int .i64) 3 w7 0 _ (.slice A9 st.length c9) ns)
    have HC9 := Aside0.mk (Kd.R_reads' hR9).2.2
    clear hgg hty hput hR9 c6 f6 HZ3 HX HC HR8
    rw [hw7]
    clear hw7
    have kHZ9_0 : w7.cell? ⟨b9, 0, none⟩ = some (.int .i64 mk) := (blk_cell HZ9.out 0).trans rfl
    have kHZ9_1 : w7.cell? ⟨b9, 1, none⟩ = some (.slice A9 st.length c9) := (blk_cell HZ9.out 1).trans rfl
    have kHZ11_0 : w7.cell? ⟨b11, 0, none⟩ = some (.int .i64 mk) := (blk_cell HZ11.out 0).trans rfl
    have kHZ11_1 : w7.cell? ⟨b11, 1, none⟩ = some (.slice (some ⟨g8, 0, none⟩) st.length c8) := (blk_cell HZ11.out 1).trans rfl
    go_wp2_with (fail)
    refine (same_true A9 c9 (some ⟨g8, 0, none⟩) c8 mk ns _ _ _ HNL.out HNL.out HC9.out (HNL.out ▸ hc9) HC8.out (HNL.out ▸ hc8)).mono ?_
    rintro e y1 ⟨rfl, hB⟩
    clear kHZ11_0 kHZ11_1 kHZ9_0 kHZ9_1
    have HZ9 := Aside0.mk (blk_below HZ9.out hB)
    have HZ11 := Aside0.mk (blk_below HZ11.out hB)
    have HC9 := Aside0.mk (Kd.C_below HC9.out hB)
    have HC8 := Aside0.mk (Kd.C_below HC8.out hB)
    have HB := Aside0.mk (below_then HB.out HB.out.size hB)
    clear hB
    have kHZ9_0 : y1.cell? ⟨b9, 0, none⟩ = some (.int .i64 mk) := (blk_cell HZ9.out 0).trans rfl
    have kHZ9_1 : y1.cell? ⟨b9, 1, none⟩ = some (.slice A9 st.length c9) := (blk_cell HZ9.out 1).trans rfl
    have kHZ11_0 : y1.cell? ⟨b11, 0, none⟩ = some (.int .i64 mk) := (blk_cell HZ11.out 0).trans rfl
    have kHZ11_1 : y1.cell? ⟨b11, 1, none⟩ = some (.slice (some ⟨g8, 0, none⟩) st.length c8) := (blk_cell HZ11.out 1).trans rfl
    go_wp2_with (fail)
    refine (valid_n A9 c9 mk ns _ _ HNL.out HC9.out (HNL.out ▸ hc9) HOK.out).mono ?_
    rintro e y2 ⟨rfl, hB⟩
    clear kHZ11_0 kHZ11_1 kHZ9_0 kHZ9_1
    have HZ9 := Aside0.mk (blk_below HZ9.out hB)
    have HZ11 := Aside0.mk (blk_below HZ11.out hB)
    have HC9 := Aside0.mk (Kd.C_below HC9.out hB)
    have HC8 := Aside0.mk (Kd.C_below HC8.out hB)
    have HB := Aside0.mk (below_then HB.out HB.out.size hB)
    clear hB
    have kHZ9_0 : y2.cell? ⟨b9, 0, none⟩ = some (.int .i64 mk) := (blk_cell HZ9.out 0).trans rfl
    have kHZ9_1 : y2.cell? ⟨b9, 1, none⟩ = some (.slice A9 st.length c9) := (blk_cell HZ9.out 1).trans rfl
    have kHZ11_0 : y2.cell? ⟨b11, 0, none⟩ = some (.int .i64 mk) := (blk_cell HZ11.out 0).trans rfl
    have kHZ11_1 : y2.cell? ⟨b11, 1, none⟩ = some (.slice (some ⟨g8, 0, none⟩) st.length c8) := (blk_cell HZ11.out 1).trans rfl
    go_wp2_with (fail)
    refine (awake_calls _).mono ?_
    rintro e y3 ⟨rfl, hB⟩
    clear kHZ11_0 kHZ11_1 kHZ9_0 kHZ9_1
    have HZ9 := Aside0.mk (blk_below HZ9.out hB)
    have HZ11 := Aside0.mk (blk_below HZ11.out hB)
    have HC9 := Aside0.mk (Kd.C_below HC9.out hB)
    have HC8 := Aside0.mk (Kd.C_below HC8.out hB)
    have HB := Aside0.mk (below_then HB.out HB.out.size hB)
    clear hB
    go_wp2
    go_ret
    exact ⟨rfl, HB.out⟩
theorem walk (w : World) (mk : Int) (h2 : (Lit.int .i64 mk).wf = true) (A : Option Addr) (c : Nat) (st : List Int) (hl : st.length ≤ c) (hC : Kd.C (Kd.int .i64) w A st.length st) (hW : st.length * 8 ≤ 140737488351232 ∧ ∀ x ∈ st, (Lit.int .i64 x).wf = true) (i : Int) (hwi : (Lit.int .i64 i).wf = true) (bit : Int) (hwb : (Lit.int .i64 bit).wf = true) :
    Calls Try.prog 6 #[.agg #[.int .i64 mk, .slice A st.length c], .int .i64 i, .int .i64 bit] w fun e w' => e = .returned (.bool true) ∧ Below w.heap.size w w' := by
  by_cases hbig : (st.length : Int) > 16384
  · have hmax2 : st.length ≤ 9223372036854775807 := Kd.C_max hC
    have hu := Try.underlying24
    have HB := Aside0.mk (below_alloc (Below.refl w.heap.size w) (.cells #[.int .i64 mk, .slice A st.length c] 24))
    clear h2 hC hW hwi hwb
    go_enter Try.func6, Try.ntmps6
    go_wp2_with (go_at_call 17; refine (awake_calls _).mono ?_; rintro e w2 ⟨rfl, hB⟩; have HB2 := Aside0.mk (below_then HB.out HB.out.size hB); clear hB)
    go_ret
    exact ⟨rfl, HB2.out⟩
  by_cases hm : okModel mk st
  · by_cases hi : 0 ≤ i ∧ i < st.length
    · obtain ⟨j, rfl⟩ : ∃ j : Nat, i = (j : Int) := ⟨i.toNat, by omega⟩
      obtain ⟨ad, rfl, hx⟩ := Kd.at_int hC (j : Int) (by omega) (by omega)
      rw [Int.toNat_natCast] at hx
      by_cases hb : bit = 0
      · subst hb
        exact walk4_0 w mk ad c st hl hC j hbig hm (by omega) hx
      by_cases hb1 : bit = 1
      · subst hb1
        exact walk4_1 w mk ad c st hl hC j hbig hm (by omega) hx
      exact walk3 w mk ad c st hl hC j bit hbig hm (by omega) hx ⟨hb, hb1⟩
    · exact walk2 w mk A c st hl hC i bit hbig hm (by omega)
  · exact walk1 w mk A c st hl hC i bit hbig hm
open Go.ChangeShapes Go.WideShapes Go.ChangeAt
open Go.ChangeMaps (open_string shut_string)
theorem own : ownKnob Try.prog.godebug = none := by kernel_rfl
theorem laidOut : laidOutB Try.prog = true := by kernel_rfl
def IsRow (k : IntKind) (w : World) (a : Option Addr) (len cap : Nat) (zs : List Int) : Prop :=
  (a = none ∧ len = 0 ∧ cap = 0 ∧ zs = []) ∨
  ∃ x, a = some x ∧ len ≤ cap ∧ cap ≤ maxLen ∧ zs.length = cap ∧ (∀ i, i < zs.length → w.cell? (x.add i) = some (.int k (zs.getD i 0))) ∧ ∀ n ∈ zs, (Lit.int k n).wf = true
set_option maxRecDepth 100000 in
theorem lifted (os : Os) (started : os.Started) (H : Type) (enc : TypeId × Value → H) :
    ReturnsInHanded {} Try.checked os 6 .any (Rows.coderStatesSpec.pre6 enc Try.prog Try.f6 Rows.coderStatesRow.domain false) (Rows.coderStatesSpec.post enc Try.prog Try.f6 false true false false) := by
  refine returnsInHanded_of_change_sized (C := Try.checked) own started (by kernel_rfl) Try.func6
    (ChangeSpec.witness6 (enc := enc) (C := Try.checked) false ⟨#[], #[.agg #[.int .i64 0, .slice none 0 0], .int .i64 0, .int .i64 0], []⟩ 8 (by kernel_rfl) (by kernel_rfl) (by kernel_rfl) (by kernel_rfl)) ?_
  intro W base args ds gs before hval0 hW hcnd hsz0 _
  have hsz : (DataW.weightsEach Try.prog (Try.f6.params.toList ++ Rows.coderStatesSpec.plain.varTypes Try.prog) (ds ++ gs)).all (· ≤ reachBytes) = true := hsz0
  have hval : ∀ (j : Nat) t v, Try.f6.params[j]? = some t → args[j]? = some v → Value.okWide Try.prog W .any base t v := hval0
  have hW' := hW
  obtain ⟨p, q, hA0, hV, rfl, hfz, hnd⟩ := hW
  have hA : DataW.TrodAll enc Try.prog W 0 (fun _ => true) true Try.f6.params.toList args.toList ds p := hA0
  rw [Try.params6] at hA hval hsz
  obtain ⟨v0, vs0, d0, ds0, p0, q0, hargs, rfl, rfl, h0, r0⟩ := trodAll_cons hA
  obtain ⟨v1, vs1, d1, ds1, p1, q1, rfl, rfl, rfl, h1, r1⟩ := trodAll_cons r0
  obtain ⟨v2, vs2, d2, ds2, p2, q2, rfl, rfl, rfl, h2, r2⟩ := trodAll_cons r1
  obtain ⟨rfl, rfl, rfl⟩ := trodAll_nil r2
  obtain rfl : args = #[v0, v1, v2] := by cases args; simp_all
  obtain ⟨rfl, rfl⟩ := trodVars_none hV
  have k0 := h0
  have lt0 : ∀ x ∈ p0, x.block < W.heap.size := by obtain ⟨m, hm⟩ := k0; exact DataW.trod_lt m _ _ _ hm
  obtain ⟨cs0, rfl, csz0⟩ := okWide_struct Try.underlying24 (hval 0 24 v0 rfl rfl)
  obtain ⟨⟨x0_0, x0_1⟩, ⟨_, _, hcs0, rfl, ⟨A0_1, c0_1, rfl, l0_1, g0_1⟩⟩, ⟨w0_0, w0_1⟩⟩ := Opn.open_arg (N := 8) (fun n => ((o_struct (d := (Kd.pair (Kd.int .i64) (Kd.slice 3 (Kd.int .i64)))) Try.underlying24 (by kernel_rfl) (f_cons rfl (o_int Try.underlying3 (by kernel_rfl)) (f_one rfl (o_slice (B := 8) Try.underlying22 (by kernel_rfl) (o_int Try.underlying3 (by kernel_rfl)) (by kernel_rfl))))) : Opn.OpensTo Try.prog (n + 8) 24 _ _)) h0 hsz (j := 0) (t := 24) rfl rfl
  obtain rfl : cs0 = #[.int .i64 x0_0, .slice A0_1 x0_1.length c0_1] := by rw [← Array.toList_inj]; exact hcs0
  obtain ⟨a1, rfl, rfl, rfl, w1⟩ := open_int Try.underlying3 (hval 1 3 v1 rfl rfl) h1
  obtain ⟨a2, rfl, rfl, rfl, w2⟩ := open_int Try.underlying3 (hval 2 3 v2 rfl rfl) h2
  clear hA0 hval0 hsz0 hsz
  refine (walk W x0_0 w0_0 A0_1 c0_1 x0_1 l0_1 g0_1 w0_1 a1 w1 a2 w2).mono fun e W' ⟨he, bel⟩ => ?_
  subst he
  exact ⟨_, rfl, _, _, _, [], _, [], hW', trodAll_mk1 (shut_bool Try.underlying4 _), (trodAll_cons_mk (Below.trod laidOut (by kernel_rfl) (of_decide_eq_true (by kernel_rfl)) k0 bel lt0) (trodAll_cons_mk (shut_int Try.underlying3 w1) (trodAll_cons_mk (shut_int Try.underlying3 w2) trodAll_mk0))), rfl, bel.frame _, fun h => by cases h⟩
theorem over : Rows.coderStatesRow.holds Try.pinned (OpenSpec.ofChange Rows.coderStatesSpec) :=
  OpenClaim.holds_of_wide 6 Try.f6 rfl rfl rfl rfl rfl rfl rfl ⟨rfl, rfl, rfl, rfl, rfl⟩ rfl rfl rfl rfl rfl (by kernel_rfl) Try.func6 (by kernel_rfl)
    (of_decide_eq_true (by kernel_rfl)) (by unfold Func.isWrapper; first | (rw [if_pos (by decide +kernel)]; kernel_rfl) | (rw [if_neg (by decide +kernel)]; exact ⟨rfl, rfl⟩))
    (fun os started H enc _ => lifted os started H enc)
theorem proved : Rows.CoderStatesSaid := over
#print axioms proved
end Go.Proofs.Ytpnmedmghncpiaa.HandCoderStates
namespace Go.Proofs.Ytpnmedmghncpiaa
/-- The row, under a short name, for the claim. -/
theorem coderStates_holds : Rows.CoderStatesSaid := HandCoderStates.proved
end Go.Proofs.Ytpnmedmghncpiaa
