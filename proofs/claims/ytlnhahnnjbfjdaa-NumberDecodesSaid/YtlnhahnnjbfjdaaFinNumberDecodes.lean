/- What any bytes are decoded to: for every kind, list of bytes and number. -/
import Derived.Test.YtlnhahnnjbfjdaaMNumberDecodes1
import Derived.Test.YtlnhahnnjbfjdaaMNumberDecodes2
import Derived.Test.YtlnhahnnjbfjdaaMNumberDecodes3
import Derived.Test.YtlnhahnnjbfjdaaRows
import Derived.WalkKit
import Derived.ProofKit
import Derived.OpenShut
import Derived.ShutString
import Derived.ChangeOld
import Derived.Lib.SmallJoins
import Derived.Below
import Derived.SizedLaws
import Derived.Test.YtlnhahnnjbfjdaaMNumberDecodes0
namespace Go.Proofs.Ytlnhahnnjbfjdaa.HandNumberDecodes
open Go Go.RowKit Go.Proofs.Ytlnhahnnjbfjdaa.U Go.Proofs.YtlnhahnnjbfjdaaW.PrintWords Go.Proofs.YtlnhahnnjbfjdaaW.PrintLast Go.Proofs.YtlnhahnnjbfjdaaW.PrintMore Go.Proofs.Ytlnhahnnjbfjdaa.Aid Go.Proofs.Ytlnhahnnjbfjdaa.HandAid Go.Proofs.Ytlnhahnnjbfjdaa.Cod1 Go.Proofs.Ytlnhahnnjbfjdaa.Cod2 Go.Proofs.Ytlnhahnnjbfjdaa.Cod3 Go.Proofs.Ytlnhahnnjbfjdaa.Mod Go.Proofs.Ytlnhahnnjbfjdaa.NewRef Go.Proofs.Ytlnhahnnjbfjdaa.Enc Go.Proofs.Ytlnhahnnjbfjdaa.Mods Go.Proofs.Ytlnhahnnjbfjdaa.EncAt Go.Proofs.Ytlnhahnnjbfjdaa.Put Go.Proofs.Ytlnhahnnjbfjdaa.End Go.Proofs.Ytlnhahnnjbfjdaa.Snc Go.Proofs.Ytlnhahnnjbfjdaa.Num Go.Proofs.Ytlnhahnnjbfjdaa.Evs Go.Proofs.Ytlnhahnnjbfjdaa.RefEvs Go.Proofs.Ytlnhahnnjbfjdaa.Sane Go.Proofs.Ytlnhahnnjbfjdaa.RefAt Go.Proofs.Ytlnhahnnjbfjdaa.Dec Go.Proofs.Ytlnhahnnjbfjdaa.Get Go.Proofs.Ytlnhahnnjbfjdaa.DecNew Go.Proofs.Ytlnhahnnjbfjdaa.RDec Go.Proofs.Ytlnhahnnjbfjdaa.RDecNew Go.Proofs.Ytlnhahnnjbfjdaa.Ngt Go.Proofs.Ytlnhahnnjbfjdaa.Nwk Go.Proofs.Ytlnhahnnjbfjdaa.Nrw Go.Proofs.Ytlnhahnnjbfjdaa.Ndc
set_option linter.unusedVariables false
set_option linter.unusedSimpArgs false
open Go.Proofs.Ytlnhahnnjbfjdaa Go.Proofs.Ytlnhahnnjbfjdaa.U Go.Proofs.Ytlnhahnnjbfjdaa.HandAid Go.Proofs.Ytlnhahnnjbfjdaa.Mod Go.Proofs.Ytlnhahnnjbfjdaa.Sane Go.Proofs.Ytlnhahnnjbfjdaa.Ndc
theorem same_n0 (l : List S23) (hn : l.length ≤ 1000000) : ∀ (r i : Nat), i + r = l.length → Ev (fun k => incunableref03_Same.l0 k l l i) true
  | 0, i, h => by
    refine ev_succ ?_
    unfold incunableref03_Same.l0
    exact ev_neg (by omega) (Ev.now _)
  | r + 1, i, h => by
    refine ev_succ ?_
    unfold incunableref03_Same.l0
    refine ev_pos (by omega) (ev_pos (by omega) (ev_pos (by omega) (ev_neg (by simp) ?_)))
    rw [show wrap64 ((i : Int) + 1) = ((i + 1 : Nat) : Int) by rw [wrap_id] <;> omega]
    exact same_n0 l hn r (i + 1) (by omega)
theorem same_n (l : List S23) (hn : l.length ≤ 1000000) : Ev (fun k => incunableref03_Same.f k l l) true := by
  unfold incunableref03_Same.f
  exact ev_pos rfl (same_n0 l hn l.length 0 (by omega))
theorem decN_len : ∀ (k : Nat) (s : DS) (l : List S23), (decN k s l).1.length ≤ l.length + k
  | 0, s, l => Nat.le_refl _
  | k + 1, s, l => by
    unfold decN
    split
    · refine Nat.le_trans (decN_len k _ _) ?_
      rw [List.length_append]
      show l.length + 1 + k ≤ _
      omega
    · exact Nat.zero_le _
theorem decNs_len (kind : Int) (b : List Int) (n : Int) : (decNs kind b n).1.length ≤ 20000 := by
  unfold decNs
  split
  · rename_i h
    refine Nat.le_trans (decN_len _ _ _) ?_
    show 0 + n.toNat ≤ 20000
    omega
  · exact Nat.zero_le _
set_option maxHeartbeats 4000000 in
set_option maxRecDepth 100000 in
theorem walk (w : World) (kind : Int) (h2 : (Lit.int .i64 kind).wf = true)
    (A1 : Option Addr) (c1 : Nat) (b : List Int) (hC1 : Kd.C (Kd.int .u8) w A1 b.length b) (hc1 : b.length ≤ c1) (y1 : b.length * 1 ≤ 140737488351232) (hw1 : ∀ x ∈ b, (Lit.int .u8 x).wf = true)
    (n : Int) (h3 : (Lit.int .i64 n).wf = true) :
    Calls Try.prog 5 #[.int .i64 kind, .slice A1 b.length c1, .int .i64 n] w fun e w' => e = .returned (.bool true) ∧ Below w.heap.size w w' := by
  have hby : Bytes b := bytes_of hw1
  have HC := Aside0.mk hC1
  have hS : ∀ W : World, Aside0 (Calls Try.prog 15 #[] W fun e w' => e = .returned (.bool true) ∧ Below W.heap.size W w') := fun W => ⟨sane_calls W⟩
  clear hC1 hw1 h2 h3
  by_cases hbig : b.length > 500 ∨ (n > 300 ∧ n ≤ 20000)
  · have hb2 : (b.length : Int) > 500 ∨ (¬ (b.length : Int) > 500 ∧ 300 < n ∧ n ≤ 20000) := by omega
    clear hbig
    rcases hb2 with h | ⟨h, h', h''⟩
    · go_enter Try.func5, Try.ntmps5
      go_wp2_with (fail)
      refine (sane_calls _).mono ?_
      rintro e w2 ⟨rfl, hB⟩
      go_wp2_with (fail)
      go_ret
      exact ⟨rfl, hB⟩
    · go_enter Try.func5, Try.ntmps5
      go_wp2_with (fail)
      refine (sane_calls _).mono ?_
      rintro e w2 ⟨rfl, hB⟩
      go_wp2_with (fail)
      go_ret
      exact ⟨rfl, hB⟩
  · have hl : b.length ≤ 1099511627776 := by omega
    obtain ⟨⟨L, er⟩, hR⟩ : ∃ r, decNs kind b n = r := ⟨_, rfl⟩
    have hlen : L.length ≤ 20000 := by have := decNs_len kind b n; rw [hR] at this; exact this
    obtain ⟨K, hK'⟩ := same_n L (by omega)
    have HK := Aside0.mk (hK' K (Nat.le_refl _))
    clear hK'
    have g1 : ¬ (b.length : Int) > 500 := by omega
    have HN := Aside0.mk (show ¬ n > 300 ∨ (n > 300 ∧ ¬ n ≤ 20000) by omega)
    clear hbig
    have go : ∀ (hn : ¬ n > 300 ∨ (n > 300 ∧ ¬ n ≤ 20000)), Calls Try.prog 5 #[.int .i64 kind, .slice A1 b.length c1, .int .i64 n] w fun e w' => e = .returned (.bool true) ∧ Below w.heap.size w w' := by
      intro hn
      clear HN
      rcases hn with hn | ⟨hn, hn2⟩
      · go_enter Try.func5, Try.ntmps5
        go_wp2_with (fail)
        refine (ndecode_calls kind A1 c1 b n w HC.out hc1 hby hl).mono ?_
        rw [hR]
        rintro e w1 ⟨v1, rfl, hR1, hB1⟩
        obtain ⟨P1, d1, rfl⟩ := Kd.R_slice hR1
        have HR1 := Aside0.mk hR1
        have HB1 := Aside0.mk hB1
        clear hR1 hB1
        go_wp2_with (fail)
        refine (rdecode_calls kind A1 c1 b n w1 (Kd.C_below HC.out HB1.out) hc1 hby hl).mono ?_
        rw [hR]
        rintro e w2 ⟨v2, rfl, hR2, hB2⟩
        obtain ⟨P2, d2, rfl⟩ := Kd.R_slice hR2
        obtain ⟨_, hd1, hC1⟩ := Kd.R_reads' HR1.out
        obtain ⟨_, hd2, hC2⟩ := Kd.R_reads' hR2
        have HC1 := Aside0.mk (Kd.C_below hC1 hB2)
        have HC2 := Aside0.mk hC2
        have HB2 := Aside0.mk (below_then HB1.out HB1.out.size hB2)
        clear HR1 HB1 hR2 hB2 hC1 hC2 hR
        go_wp2_with (fail)
        refine (incunableref03_Same.calls K P1 d1 L P2 d2 L true _ HC1.out hd1 HC2.out hd2 HK.out).mono ?_
        rintro e w3 ⟨rfl, hB3⟩
        have HB3 := Aside0.mk (below_then HB2.out HB2.out.size hB3.below)
        clear hB3
        go_wp2_with (fail)
        refine (sane_calls _).mono ?_
        rintro e w4 ⟨rfl, hB⟩
        go_wp2_with (fail)
        go_ret
        exact ⟨rfl, below_then HB3.out HB3.out.size hB⟩
      · go_enter Try.func5, Try.ntmps5
        go_wp2_with (fail)
        refine (ndecode_calls kind A1 c1 b n w HC.out hc1 hby hl).mono ?_
        rw [hR]
        rintro e w1 ⟨v1, rfl, hR1, hB1⟩
        obtain ⟨P1, d1, rfl⟩ := Kd.R_slice hR1
        have HR1 := Aside0.mk hR1
        have HB1 := Aside0.mk hB1
        clear hR1 hB1
        go_wp2_with (fail)
        refine (rdecode_calls kind A1 c1 b n w1 (Kd.C_below HC.out HB1.out) hc1 hby hl).mono ?_
        rw [hR]
        rintro e w2 ⟨v2, rfl, hR2, hB2⟩
        obtain ⟨P2, d2, rfl⟩ := Kd.R_slice hR2
        obtain ⟨_, hd1, hC1⟩ := Kd.R_reads' HR1.out
        obtain ⟨_, hd2, hC2⟩ := Kd.R_reads' hR2
        have HC1 := Aside0.mk (Kd.C_below hC1 hB2)
        have HC2 := Aside0.mk hC2
        have HB2 := Aside0.mk (below_then HB1.out HB1.out.size hB2)
        clear HR1 HB1 hR2 hB2 hC1 hC2 hR
        go_wp2_with (fail)
        refine (incunableref03_Same.calls K P1 d1 L P2 d2 L true _ HC1.out hd1 HC2.out hd2 HK.out).mono ?_
        rintro e w3 ⟨rfl, hB3⟩
        have HB3 := Aside0.mk (below_then HB2.out HB2.out.size hB3.below)
        clear hB3
        go_wp2_with (fail)
        refine (sane_calls _).mono ?_
        rintro e w4 ⟨rfl, hB⟩
        go_wp2_with (fail)
        go_ret
        exact ⟨rfl, below_then HB3.out HB3.out.size hB⟩
    exact go HN.out
open Go.ChangeShapes Go.WideShapes Go.ChangeAt
open Go.ChangeMaps (open_string shut_string)
theorem own : ownKnob Try.prog.godebug = none := by kernel_rfl
theorem laidOut : laidOutB Try.prog = true := by kernel_rfl
def IsRow (k : IntKind) (w : World) (a : Option Addr) (len cap : Nat) (zs : List Int) : Prop :=
  (a = none ∧ len = 0 ∧ cap = 0 ∧ zs = []) ∨
  ∃ x, a = some x ∧ len ≤ cap ∧ cap ≤ maxLen ∧ zs.length = cap ∧ (∀ i, i < zs.length → w.cell? (x.add i) = some (.int k (zs.getD i 0))) ∧ ∀ n ∈ zs, (Lit.int k n).wf = true
set_option maxRecDepth 100000 in
theorem lifted (os : Os) (started : os.Started) (H : Type) (enc : TypeId × Value → H) :
    ReturnsInHanded {} Try.checked os 5 .any (Rows.numberDecodesSpec.pre6 enc Try.prog Try.f5 Rows.numberDecodesRow.domain false) (Rows.numberDecodesSpec.post enc Try.prog Try.f5 false true false false) := by
  refine returnsInHanded_of_change_sized (C := Try.checked) own started (by kernel_rfl) Try.func5
    (ChangeSpec.witness6 (enc := enc) (C := Try.checked) false ⟨#[], #[.int .i64 0, .slice none 0 0, .int .i64 0], []⟩ 8 (by kernel_rfl) (by kernel_rfl) (by kernel_rfl) (by kernel_rfl)) ?_
  intro W base args ds gs before hval0 hW hcnd hsz0 _
  have hsz : (DataW.weightsEach Try.prog (Try.f5.params.toList ++ Rows.numberDecodesSpec.plain.varTypes Try.prog) (ds ++ gs)).all (· ≤ reachBytes) = true := hsz0
  have hval : ∀ (j : Nat) t v, Try.f5.params[j]? = some t → args[j]? = some v → Value.okWide Try.prog W .any base t v := hval0
  have hW' := hW
  obtain ⟨p, q, hA0, hV, rfl, hfz, hnd⟩ := hW
  have hA : DataW.TrodAll enc Try.prog W 0 (fun _ => true) true Try.f5.params.toList args.toList ds p := hA0
  rw [Try.params5] at hA hval hsz
  obtain ⟨v0, vs0, d0, ds0, p0, q0, hargs, rfl, rfl, h0, r0⟩ := trodAll_cons hA
  obtain ⟨v1, vs1, d1, ds1, p1, q1, rfl, rfl, rfl, h1, r1⟩ := trodAll_cons r0
  obtain ⟨v2, vs2, d2, ds2, p2, q2, rfl, rfl, rfl, h2, r2⟩ := trodAll_cons r1
  obtain ⟨rfl, rfl, rfl⟩ := trodAll_nil r2
  obtain rfl : args = #[v0, v1, v2] := by cases args; simp_all
  obtain ⟨rfl, rfl⟩ := trodVars_none hV
  obtain ⟨a0, rfl, rfl, rfl, w0⟩ := open_int Try.underlying3 (hval 0 3 v0 rfl rfl) h0
  obtain ⟨a1, len1, cap1, rfl⟩ := okWide_slice Try.underlying34 (hval 1 34 v1 rfl rfl)
  have k1 := h1
  have lt1 : ∀ x ∈ p1, x.block < W.heap.size := by obtain ⟨m, hm⟩ := k1; exact DataW.trod_lt m _ _ _ hm
  obtain ⟨z1, w1⟩ : ∃ zs, IsRow .u8 W a1 len1 cap1 zs := by
    obtain ⟨fuel, hf⟩ := h1
    rcases open_ints Try.underlying34 Try.underlying5 (by kernel_rfl) hf with ⟨hcs, _⟩ | ⟨x, l, c, zs, hcs, _, hl, hm, hz, _, hcell, hwz⟩
    · simp [Value.cells] at hcs
      obtain ⟨rfl, rfl, rfl⟩ := hcs
      exact ⟨[], .inl ⟨rfl, rfl, rfl, rfl⟩⟩
    · simp [Value.cells] at hcs
      obtain ⟨rfl, rfl, rfl⟩ := hcs
      exact ⟨zs, .inr ⟨_, rfl, hl, hm, by simpa using hz, hcell, hwz⟩⟩
  have y1 : len1 * 1 ≤ 140737488351232 := sized_ints hsz (j := 1) (t := 34) rfl rfl Try.underlying34 Try.underlying5 (by kernel_rfl) (by kernel_rfl) h1
  obtain ⟨l1, rfl, hr1, hm1, hw1, hc1⟩ := ReadsInt.ofRowC w1
  obtain ⟨a2, rfl, rfl, rfl, w2⟩ := open_int Try.underlying3 (hval 2 3 v2 rfl rfl) h2
  clear hA0 hval0 hsz0 hsz
  refine (walk W a0 w0 _ _ l1 (Kd.C_of_reads (d := (0 : Int)) (h1 := fun _ => rfl) hr1) hc1 y1 hw1 a2 w2).mono fun e W' ⟨he, bel⟩ => ?_
  subst he
  exact ⟨_, rfl, _, _, _, [], _, [], hW', trodAll_mk1 (shut_bool Try.underlying4 _), (trodAll_cons_mk (shut_int Try.underlying3 w0) (trodAll_cons_mk (Below.trod laidOut (by kernel_rfl) (of_decide_eq_true (by kernel_rfl)) k1 bel lt1) (trodAll_cons_mk (shut_int Try.underlying3 w2) trodAll_mk0))), rfl, bel.frame _, fun h => by cases h⟩
theorem over : Rows.numberDecodesRow.holds Try.pinned (OpenSpec.ofChange Rows.numberDecodesSpec) :=
  OpenClaim.holds_of_wide 5 Try.f5 rfl rfl rfl rfl rfl rfl rfl ⟨rfl, rfl, rfl, rfl, rfl⟩ rfl rfl rfl rfl rfl (by kernel_rfl) Try.func5 (by kernel_rfl)
    (of_decide_eq_true (by kernel_rfl)) (by unfold Func.isWrapper; first | (rw [if_pos (by decide +kernel)]; kernel_rfl) | (rw [if_neg (by decide +kernel)]; exact ⟨rfl, rfl⟩))
    (fun os started H enc _ => lifted os started H enc)
theorem proved : Rows.NumberDecodesSaid := over
#print axioms proved
end Go.Proofs.Ytlnhahnnjbfjdaa.HandNumberDecodes
namespace Go.Proofs.Ytlnhahnnjbfjdaa
/-- The row, under a short name, for the claim. -/
theorem numberDecodes_holds : Rows.NumberDecodesSaid := HandNumberDecodes.proved
end Go.Proofs.Ytlnhahnnjbfjdaa
