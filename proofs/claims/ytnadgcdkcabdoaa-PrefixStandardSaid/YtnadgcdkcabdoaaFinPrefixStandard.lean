/- The standard tables: for every number. -/
import Derived.Test.YtnadgcdkcabdoaaMPrefixStandard1
import Derived.Test.YtnadgcdkcabdoaaMPrefixStandard2
import Derived.Test.YtnadgcdkcabdoaaRows
import Derived.WalkKit
import Derived.ProofKit
import Derived.OpenShut
import Derived.ShutString
import Derived.ChangeOld
import Derived.Lib.SmallJoins
import Derived.Below
import Derived.SizedLaws
import Derived.Test.YtnadgcdkcabdoaaMPrefixStandard0
namespace Go.Proofs.Ytnadgcdkcabdoaa.HandPrefixStandard
open Go Go.RowKit Go.Proofs.Ytnadgcdkcabdoaa.U Go.Proofs.YtnadgcdkcabdoaaW.PrintWords Go.Proofs.YtnadgcdkcabdoaaW.PrintLast Go.Proofs.YtnadgcdkcabdoaaW.PrintMore Go.Proofs.Ytnadgcdkcabdoaa.Aid Go.Proofs.Ytnadgcdkcabdoaa.HandAid Go.Proofs.Ytnadgcdkcabdoaa.Opn Go.Proofs.Ytnadgcdkcabdoaa.Tab Go.Proofs.Ytnadgcdkcabdoaa.Std
set_option linter.unusedVariables false
set_option linter.unusedSimpArgs false
open Go.Proofs.Ytnadgcdkcabdoaa Go.Proofs.Ytnadgcdkcabdoaa.Std
theorem some_of_row {e base : Nat} {w : World} {A : Option Addr} {c : Nat} {L : List Ln} (h : Kd.R k32 e w base (fun _ => True) (.slice A L.length c) L) (hne : L ≠ []) : ∃ ad, A = some ad := by
  obtain ⟨_, _, hC⟩ := Kd.R_reads' h
  obtain ⟨ad, e1, _⟩ := hC.2.2 (List.length_pos_iff.2 hne)
  exact ⟨ad, e1⟩
set_option maxHeartbeats 4000000 in
theorem walk_in (w : World) (n : Int) (h : n = 0 ∨ n = 1 ∨ n = 2) : Calls Try.prog 6 #[.int .i64 n] w fun e w' => e = .returned (.bool true) ∧ Below w.heap.size w w' := by
  obtain ⟨hr, hp, hs, hvv, hne⟩ := std_in n h
  obtain ⟨L, hL⟩ : ∃ L, stdL n = L := ⟨_, rfl⟩
  rw [hL] at hr hp hs hvv hne
  obtain ⟨k, ha⟩ := Ev.rounds awake_ev
  have HR := Aside0.mk hr
  have HP := Aside0.mk hp
  have HS := Aside0.mk hs
  have HV := Aside0.mk hvv
  have HA := Aside0.mk ha
  have HN := Aside0.mk hne
  clear hr hp hs hvv ha hne hL h
  go_enter Try.func6, Try.ntmps6
  go_wp2_with (first
    | (go_at_call 24; with_reducible refine (prefix_Standard.calls 40 n L 0 _ HP.out).mono ?_; rintro e w1 ⟨v1, rfl, hR1, hb1⟩; obtain ⟨A1, c1, rfl⟩ := Kd.R_slice hR1; have HR1 := Aside0.mk hR1; have HB1 := Aside0.mk hb1; clear hR1 hb1)
    | (go_at_call 25; with_reducible refine (incunableref04_Standard.calls n L _ HR.out).mono ?_; rintro e w2 ⟨v2, rfl, hR2, hb2⟩; obtain ⟨A2, c2, rfl⟩ := Kd.R_slice hR2; obtain ⟨ad, rfl⟩ := some_of_row hR2 HN.out; have hnil : ∀ w : World, (Go.binOp .eql 30 (.slice (some ad) L.length c2) (.slice none 0 0)).run Try.prog w = .ok (.bool false) w := fun w => Go.run_eql_slice_nil (P := Try.prog) w _ _ _ _ _ Try.underlying30; have HR2 := Aside0.mk hR2; have HB2 := Aside0.mk (below_then HB1.out HB1.out.size hb2); have HR1' := Aside0.mk (Kd.R_below HR1.out hb2); clear hR2 hb2)
    | (go_at_call 26; with_reducible refine (incunableref04_SameLines.calls 40 A1 c1 L (some ad) c2 L true _ (Kd.R_reads' HR1'.out).2.2 (Kd.R_reads' HR1'.out).2.1 (Kd.R_reads' HR2.out).2.2 (Kd.R_reads' HR2.out).2.1 HS.out).mono ?_; rintro e w3 ⟨rfl, ⟨⟨m3, hm3⟩⟩⟩; have HB3 := Aside0.mk (show Below w.heap.size w w3 from hm3 ▸ pw_below_drewN HB2.out m3); have HR1'' := Aside0.mk (show Kd.R k32 32 w3 _ (fun _ => True) (.slice A1 L.length c1) L from hm3 ▸ Kd.R_drewN HR1'.out m3); clear hm3)
    | (go_at_call 23; with_reducible refine (prefix_Valid.calls 40 A1 c1 L true _ (Kd.R_reads' HR1''.out).2.2 (Kd.R_reads' HR1''.out).2.1 HV.out).mono ?_; rintro e w4 ⟨rfl, hb4⟩; have HB4 := Aside0.mk (below_then HB3.out HB3.out.size hb4); clear hb4)
    | (go_at_call 19; with_reducible refine (incunablelaw04_Awake.calls k true _ HA.out).mono ?_; rintro e w5 ⟨rfl, hb5⟩; have HB5 := Aside0.mk (below_then HB4.out HB4.out.size hb5); clear hb5))
  go_ret
  exact ⟨rfl, HB5.out⟩
set_option maxHeartbeats 4000000 in
theorem walk_out (w : World) (n : Int) (h0 : n ≠ 0) (h1 : n ≠ 1) (h2 : n ≠ 2) : Calls Try.prog 6 #[.int .i64 n] w fun e w' => e = .returned (.bool true) ∧ Below w.heap.size w w' := by
  have hp := pstd_out n h0 h1 h2 40
  obtain ⟨k, ha⟩ := Ev.rounds awake_ev
  have HP := Aside0.mk hp
  have HA := Aside0.mk ha
  have H0 := Aside0.mk h0
  have H1 := Aside0.mk h1
  have H2 := Aside0.mk h2
  clear hp ha h0 h1 h2
  have hnil : ∀ w : World, (Go.binOp .eql 30 (.slice none 0 0) (.slice none 0 0)).run Try.prog w = .ok (.bool true) w := fun w => Go.run_eql_slice_nil (P := Try.prog) w _ _ _ _ _ Try.underlying30
  go_enter Try.func6, Try.ntmps6
  go_wp2_with (first
    | (go_at_call 24; with_reducible refine (prefix_Standard.calls 40 n [] 2 _ HP.out).mono ?_; rintro e w1 ⟨v1, rfl, hR1, hb1⟩; obtain ⟨A1, c1, rfl⟩ := Kd.R_slice hR1; have HB1 := Aside0.mk hb1; clear hR1 hb1)
    | (go_at_call 25; with_reducible refine (rnil_calls n H0.out H1.out H2.out _).mono ?_; rintro e w2 ⟨rfl, rfl⟩)
    | (go_at_call 19; with_reducible refine (incunablelaw04_Awake.calls k true _ HA.out).mono ?_; rintro e w5 ⟨rfl, hb5⟩; have HB5 := Aside0.mk (below_then HB1.out HB1.out.size hb5); clear hb5))
  go_ret
  exact ⟨rfl, HB5.out⟩
theorem walk (w : World) (n : Int) (hw : (Lit.int .i64 n).wf = true) : Calls Try.prog 6 #[.int .i64 n] w fun e w' => e = .returned (.bool true) ∧ Below w.heap.size w w' := by
  by_cases h0 : n = 0
  · exact walk_in w n (.inl h0)
  · by_cases h1 : n = 1
    · exact walk_in w n (.inr (.inl h1))
    · by_cases h2 : n = 2
      · exact walk_in w n (.inr (.inr h2))
      · exact walk_out w n h0 h1 h2
open Go.ChangeShapes Go.WideShapes Go.ChangeAt
open Go.ChangeMaps (open_string shut_string)
theorem own : ownKnob Try.prog.godebug = none := by kernel_rfl
set_option maxRecDepth 100000 in
theorem lifted (os : Os) (started : os.Started) (H : Type) (enc : TypeId × Value → H) :
    ReturnsInHanded {} Try.checked os 6 .any (Rows.prefixStandardSpec.pre6 enc Try.prog Try.f6 Rows.prefixStandardRow.domain false) (Rows.prefixStandardSpec.post enc Try.prog Try.f6 false true false false) := by
  refine returnsInHanded_of_change_sized (C := Try.checked) own started (by kernel_rfl) Try.func6
    (ChangeSpec.witness6 (enc := enc) (C := Try.checked) false ⟨#[], #[.int .i64 0], []⟩ 8 (by kernel_rfl) (by kernel_rfl) (by kernel_rfl) (by kernel_rfl)) ?_
  intro W base args ds gs before hval0 hW hcnd hsz0 _
  have hsz : (DataW.weightsEach Try.prog (Try.f6.params.toList ++ Rows.prefixStandardSpec.plain.varTypes Try.prog) (ds ++ gs)).all (· ≤ reachBytes) = true := hsz0
  have hval : ∀ (j : Nat) t v, Try.f6.params[j]? = some t → args[j]? = some v → Value.okWide Try.prog W .any base t v := hval0
  have hW' := hW
  obtain ⟨p, q, hA0, hV, rfl, hfz, hnd⟩ := hW
  have hA : DataW.TrodAll enc Try.prog W 0 (fun _ => true) true Try.f6.params.toList args.toList ds p := hA0
  rw [Try.params6] at hA hval hsz
  obtain ⟨v0, vs0, d0, ds0, p0, q0, hargs, rfl, rfl, h0, r0⟩ := trodAll_cons hA
  obtain ⟨rfl, rfl, rfl⟩ := trodAll_nil r0
  obtain rfl : args = #[v0] := by cases args; simp_all
  obtain ⟨rfl, rfl⟩ := trodVars_none hV
  obtain ⟨a0, rfl, rfl, rfl, w0⟩ := open_int Try.underlying3 (hval 0 3 v0 rfl rfl) h0
  clear hA0 hval0 hsz0 hsz
  refine (walk W a0 w0).mono fun e W' ⟨he, bel⟩ => ?_
  subst he
  exact ⟨_, rfl, _, _, _, [], _, [], hW', trodAll_mk1 (shut_bool Try.underlying4 _), (trodAll_cons_mk (shut_int Try.underlying3 w0) trodAll_mk0), rfl, bel.frame _, fun h => by cases h⟩
theorem over : Rows.prefixStandardRow.holds Try.pinned (OpenSpec.ofChange Rows.prefixStandardSpec) :=
  OpenClaim.holds_of_wide 6 Try.f6 rfl rfl rfl rfl rfl rfl rfl ⟨rfl, rfl, rfl, rfl, rfl⟩ rfl rfl rfl rfl rfl (by kernel_rfl) Try.func6 (by kernel_rfl)
    (of_decide_eq_true (by kernel_rfl)) (by unfold Func.isWrapper; first | (rw [if_pos (by decide +kernel)]; kernel_rfl) | (rw [if_neg (by decide +kernel)]; exact ⟨rfl, rfl⟩))
    (fun os started H enc _ => lifted os started H enc)
theorem proved : Rows.PrefixStandardSaid := over
#print axioms proved
end Go.Proofs.Ytnadgcdkcabdoaa.HandPrefixStandard
namespace Go.Proofs.Ytnadgcdkcabdoaa
/-- The row, under a short name, for the claim. -/
theorem prefixStandard_holds : Rows.PrefixStandardSaid := HandPrefixStandard.proved
end Go.Proofs.Ytnadgcdkcabdoaa
