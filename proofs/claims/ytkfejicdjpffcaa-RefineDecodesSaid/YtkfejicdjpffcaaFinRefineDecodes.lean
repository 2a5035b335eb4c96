/- The region that any bytes are is the reference's: for all options, bytes, sides and bitmaps. -/
import Derived.Test.YtkfejicdjpffcaaMRefineDecodes1
import Derived.Test.YtkfejicdjpffcaaMRefineDecodes2
import Derived.Test.YtkfejicdjpffcaaMRefineDecodes3
import Derived.Test.YtkfejicdjpffcaaMRefineDecodes4
import Derived.Test.YtkfejicdjpffcaaMRefineDecodes5
import Derived.Test.YtkfejicdjpffcaaRows
import Derived.WalkKit
import Derived.ProofKit
import Derived.OpenShut
import Derived.ShutString
import Derived.ChangeOld
import Derived.Lib.SmallJoins
import Derived.Below
import Derived.SizedLaws
import Derived.Test.YtkfejicdjpffcaaMRefineDecodes0
namespace Go.Proofs.Ytkfejicdjpffcaa.HandRefineDecodes
open Go Go.RowKit Go.Proofs.Ytkfejicdjpffcaa.U Go.Proofs.YtkfejicdjpffcaaW.PrintWords Go.Proofs.YtkfejicdjpffcaaW.PrintLast Go.Proofs.YtkfejicdjpffcaaW.PrintMore Go.Proofs.Ytkfejicdjpffcaa.Aid Go.Proofs.Ytkfejicdjpffcaa.HandAid Go.Proofs.Ytkfejicdjpffcaa.Opn Go.Proofs.Ytkfejicdjpffcaa.Cod1 Go.Proofs.Ytkfejicdjpffcaa.Cod2 Go.Proofs.Ytkfejicdjpffcaa.Cod3 Go.Proofs.Ytkfejicdjpffcaa.Mod Go.Proofs.Ytkfejicdjpffcaa.NewRef Go.Proofs.Ytkfejicdjpffcaa.Enc Go.Proofs.Ytkfejicdjpffcaa.Mods Go.Proofs.Ytkfejicdjpffcaa.EncAt Go.Proofs.Ytkfejicdjpffcaa.Put Go.Proofs.Ytkfejicdjpffcaa.End Go.Proofs.Ytkfejicdjpffcaa.Snc Go.Proofs.Ytkfejicdjpffcaa.Dec Go.Proofs.Ytkfejicdjpffcaa.Get Go.Proofs.Ytkfejicdjpffcaa.DecNew Go.Proofs.Ytkfejicdjpffcaa.RefAt Go.Proofs.Ytkfejicdjpffcaa.RefPut Go.Proofs.Ytkfejicdjpffcaa.RefEnd Go.Proofs.Ytkfejicdjpffcaa.RDec Go.Proofs.Ytkfejicdjpffcaa.RDecNew Go.Proofs.Ytkfejicdjpffcaa.Isk Go.Proofs.Ytkfejicdjpffcaa.Pse Go.Proofs.Ytkfejicdjpffcaa.Pwk Go.Proofs.Ytkfejicdjpffcaa.Bkp Go.Proofs.Ytkfejicdjpffcaa.Rpx Go.Proofs.Ytkfejicdjpffcaa.Rva Go.Proofs.Ytkfejicdjpffcaa.Rfl Go.Proofs.Ytkfejicdjpffcaa.Rcx Go.Proofs.Ytkfejicdjpffcaa.Rty Go.Proofs.Ytkfejicdjpffcaa.Rev Go.Proofs.Ytkfejicdjpffcaa.Rpt Go.Proofs.Ytkfejicdjpffcaa.Rrp Go.Proofs.Ytkfejicdjpffcaa.Ren Go.Proofs.Ytkfejicdjpffcaa.Rdv Go.Proofs.Ytkfejicdjpffcaa.Rrw Go.Proofs.Ytkfejicdjpffcaa.Rmk Go.Proofs.Ytkfejicdjpffcaa.Rgt Go.Proofs.Ytkfejicdjpffcaa.Rrg Go.Proofs.Ytkfejicdjpffcaa.Rde Go.Proofs.Ytkfejicdjpffcaa.Rbk Go.Proofs.Ytkfejicdjpffcaa.Cby Go.Proofs.Ytkfejicdjpffcaa.Raw Go.Proofs.Ytkfejicdjpffcaa.Lde
set_option linter.unusedVariables false
set_option linter.unusedSimpArgs false
open Go.Proofs.Ytkfejicdjpffcaa Go.Proofs.Ytkfejicdjpffcaa.U Go.Proofs.Ytkfejicdjpffcaa.Lde
theorem walk (w : World) (t : Int) (h0 : (Lit.int .i64 t).wf = true) (dx : Int) (h1 : (Lit.int .i64 dx).wf = true) (dy : Int) (h2 : (Lit.int .i64 dy).wf = true) (ty : Bool) (kd : Int) (h4 : (Lit.int .i64 kd).wf = true) (AC : Option Addr) (cC : Nat) (code : List Int) (hC : Kd.C (Kd.int .u8) w AC code.length code) (hcC : code.length ≤ cC) (hyC : code.length * 1 ≤ 140737488351232) (hwC : ∀ x ∈ code, (Lit.int .u8 x).wf = true) (W : Int) (h5 : (Lit.int .i64 W).wf = true) (H : Int) (h6 : (Lit.int .i64 H).wf = true) (RW : Int) (h8 : (Lit.int .i64 RW).wf = true) (RH : Int) (h9 : (Lit.int .i64 RH).wf = true) (AR : Option Addr) (cR : Nat) (RP : List Int) (hcR : RP.length ≤ cR) (hA : Kd.C (Kd.int .u8) w AR RP.length RP) (hwR : RP.length * 1 ≤ 140737488351232 ∧ ∀ x ∈ RP, (Lit.int .u8 x).wf = true) :
    Calls Try.prog 5 #[.agg #[.int .i64 t, .int .i64 dx, .int .i64 dy, .bool ty, .int .i64 kd], .slice AC code.length cC, .int .i64 W, .int .i64 H, .agg #[.int .i64 RW, .int .i64 RH, .slice AR RP.length cR]] w fun e w' => e = .returned (.bool true) ∧ Below w.heap.size w w' := decodes_walk w t h0 dx h1 dy h2 ty kd h4 AC cC code hC hcC hyC hwC W h5 H h6 RW h8 RH h9 AR cR RP hcR hA hwR
open Go.ChangeShapes Go.WideShapes Go.ChangeAt
open Go.ChangeMaps (open_string shut_string)
theorem own : ownKnob Try.prog.godebug = none := by kernel_rfl
theorem laidOut : laidOutB Try.prog = true := by kernel_rfl
def IsRow (k : IntKind) (w : World) (a : Option Addr) (len cap : Nat) (zs : List Int) : Prop :=
  (a = none ∧ len = 0 ∧ cap = 0 ∧ zs = []) ∨
  ∃ x, a = some x ∧ len ≤ cap ∧ cap ≤ maxLen ∧ zs.length = cap ∧ (∀ i, i < zs.length → w.cell? (x.add i) = some (.int k (zs.getD i 0))) ∧ ∀ n ∈ zs, (Lit.int k n).wf = true
set_option maxRecDepth 100000 in
theorem lifted (os : Os) (started : os.Started) (H : Type) (enc : TypeId × Value → H) :
    ReturnsInHanded {} Try.checked os 5 .any (Rows.refineDecodesSpec.pre6 enc Try.prog Try.f5 Rows.refineDecodesRow.domain false) (Rows.refineDecodesSpec.post enc Try.prog Try.f5 false true false false) := by
  refine returnsInHanded_of_change_sized (C := Try.checked) own started (by kernel_rfl) Try.func5
    (ChangeSpec.witness6 (enc := enc) (C := Try.checked) false ⟨#[], #[.agg #[.int .i64 0, .int .i64 0, .int .i64 0, .bool false, .int .i64 0], .slice none 0 0, .int .i64 0, .int .i64 0, .agg #[.int .i64 0, .int .i64 0, .slice none 0 0]], []⟩ 8 (by kernel_rfl) (by kernel_rfl) (by kernel_rfl) (by kernel_rfl)) ?_
  intro W base args ds gs before hval0 hW hcnd hsz0 _
  have hsz : (DataW.weightsEach Try.prog (Try.f5.params.toList ++ Rows.refineDecodesSpec.plain.varTypes Try.prog) (ds ++ gs)).all (· ≤ reachBytes) = true := hsz0
  have hval : ∀ (j : Nat) t v, Try.f5.params[j]? = some t → args[j]? = some v → Value.okWide Try.prog W .any base t v := hval0
  have hW' := hW
  obtain ⟨p, q, hA0, hV, rfl, hfz, hnd⟩ := hW
  have hA : DataW.TrodAll enc Try.prog W 0 (fun _ => true) true Try.f5.params.toList args.toList ds p := hA0
  rw [Try.params5] at hA hval hsz
  obtain ⟨v0, vs0, d0, ds0, p0, q0, hargs, rfl, rfl, h0, r0⟩ := trodAll_cons hA
  obtain ⟨v1, vs1, d1, ds1, p1, q1, rfl, rfl, rfl, h1, r1⟩ := trodAll_cons r0
  obtain ⟨v2, vs2, d2, ds2, p2, q2, rfl, rfl, rfl, h2, r2⟩ := trodAll_cons r1
  obtain ⟨v3, vs3, d3, ds3, p3, q3, rfl, rfl, rfl, h3, r3⟩ := trodAll_cons r2
  obtain ⟨v4, vs4, d4, ds4, p4, q4, rfl, rfl, rfl, h4, r4⟩ := trodAll_cons r3
  obtain ⟨rfl, rfl, rfl⟩ := trodAll_nil r4
  obtain rfl : args = #[v0, v1, v2, v3, v4] := by cases args; simp_all
  obtain ⟨rfl, rfl⟩ := trodVars_none hV
  have k0 := h0
  have lt0 : ∀ x ∈ p0, x.block < W.heap.size := by obtain ⟨m, hm⟩ := k0; exact DataW.trod_lt m _ _ _ hm
  obtain ⟨cs0, rfl, csz0⟩ := okWide_struct Try.underlying23 (hval 0 23 v0 rfl rfl)
  obtain ⟨⟨x0_0, ⟨x0_1, ⟨x0_2, ⟨x0_3, x0_4⟩⟩⟩⟩, ⟨_, _, hcs0, rfl, ⟨_, _, rfl, rfl, ⟨_, _, rfl, rfl, ⟨_, _, rfl, rfl, rfl⟩⟩⟩⟩, ⟨w0_0, ⟨w0_1, ⟨w0_2, ⟨_, w0_4⟩⟩⟩⟩⟩ := Opn.open_arg (N := 8) (fun n => ((o_struct (d := (Kd.pair (Kd.int .i64) (Kd.pair (Kd.int .i64) (Kd.pair (Kd.int .i64) (Kd.pair Kd.bool (Kd.int .i64)))))) Try.underlying23 (by kernel_rfl) (f_cons rfl (o_int Try.underlying3 (by kernel_rfl)) (f_cons rfl (o_int Try.underlying3 (by kernel_rfl)) (f_cons rfl (o_int Try.underlying3 (by kernel_rfl)) (f_cons rfl (o_bool Try.underlying4 (by kernel_rfl)) (f_one rfl (o_int Try.underlying3 (by kernel_rfl)))))))) : Opn.OpensTo Try.prog (n + 8) 23 _ _)) h0 hsz (j := 0) (t := 23) rfl rfl
  obtain rfl : cs0 = #[.int .i64 x0_0, .int .i64 x0_1, .int .i64 x0_2, .bool x0_3, .int .i64 x0_4] := by rw [← Array.toList_inj]; exact hcs0
  obtain ⟨a1, len1, cap1, rfl⟩ := okWide_slice Try.underlying29 (hval 1 29 v1 rfl rfl)
  have k1 := h1
  have lt1 : ∀ x ∈ p1, x.block < W.heap.size := by obtain ⟨m, hm⟩ := k1; exact DataW.trod_lt m _ _ _ hm
  obtain ⟨z1, w1⟩ : ∃ zs, IsRow .u8 W a1 len1 cap1 zs := by
    obtain ⟨fuel, hf⟩ := h1
    rcases open_ints Try.underlying29 Try.underlying5 (by kernel_rfl) hf with ⟨hcs, _⟩ | ⟨x, l, c, zs, hcs, _, hl, hm, hz, _, hcell, hwz⟩
    · simp [Value.cells] at hcs
      obtain ⟨rfl, rfl, rfl⟩ := hcs
      exact ⟨[], .inl ⟨rfl, rfl, rfl, rfl⟩⟩
    · simp [Value.cells] at hcs
      obtain ⟨rfl, rfl, rfl⟩ := hcs
      exact ⟨zs, .inr ⟨_, rfl, hl, hm, by simpa using hz, hcell, hwz⟩⟩
  have y1 : len1 * 1 ≤ 140737488351232 := sized_ints hsz (j := 1) (t := 29) rfl rfl Try.underlying29 Try.underlying5 (by kernel_rfl) (by kernel_rfl) h1
  obtain ⟨l1, rfl, hr1, hm1, hw1, hc1⟩ := ReadsInt.ofRowC w1
  obtain ⟨a2, rfl, rfl, rfl, w2⟩ := open_int Try.underlying3 (hval 2 3 v2 rfl rfl) h2
  obtain ⟨a3, rfl, rfl, rfl, w3⟩ := open_int Try.underlying3 (hval 3 3 v3 rfl rfl) h3
  have k4 := h4
  have lt4 : ∀ x ∈ p4, x.block < W.heap.size := by obtain ⟨m, hm⟩ := k4; exact DataW.trod_lt m _ _ _ hm
  obtain ⟨cs4, rfl, csz4⟩ := okWide_struct Try.underlying31 (hval 4 31 v4 rfl rfl)
  obtain ⟨⟨x4_0, ⟨x4_1, x4_2⟩⟩, ⟨_, _, hcs4, rfl, ⟨_, _, rfl, rfl, ⟨A4_2, c4_2, rfl, l4_2, g4_2⟩⟩⟩, ⟨w4_0, ⟨w4_1, w4_2⟩⟩⟩ := Opn.open_arg (N := 8) (fun n => ((o_struct (d := (Kd.pair (Kd.int .i64) (Kd.pair (Kd.int .i64) (Kd.slice 5 (Kd.int .u8))))) Try.underlying31 (by kernel_rfl) (f_cons rfl (o_int Try.underlying3 (by kernel_rfl)) (f_cons rfl (o_int Try.underlying3 (by kernel_rfl)) (f_one rfl (o_slice (B := 1) Try.underlying29 (by kernel_rfl) (o_int Try.underlying5 (by kernel_rfl)) (by kernel_rfl)))))) : Opn.OpensTo Try.prog (n + 8) 31 _ _)) h4 hsz (j := 4) (t := 31) rfl rfl
  obtain rfl : cs4 = #[.int .i64 x4_0, .int .i64 x4_1, .slice A4_2 x4_2.length c4_2] := by rw [← Array.toList_inj]; exact hcs4
  clear hA0 hval0 hsz0 hsz
  refine (walk W x0_0 w0_0 x0_1 w0_1 x0_2 w0_2 x0_3 x0_4 w0_4 _ _ l1 (Kd.C_of_reads (d := (0 : Int)) (h1 := fun _ => rfl) hr1) hc1 y1 hw1 a2 w2 a3 w3 x4_0 w4_0 x4_1 w4_1 A4_2 c4_2 x4_2 l4_2 g4_2 w4_2).mono fun e W' ⟨he, bel⟩ => ?_
  subst he
  exact ⟨_, rfl, _, _, _, [], _, [], hW', trodAll_mk1 (shut_bool Try.underlying4 _), (trodAll_cons_mk (Below.trod laidOut (by kernel_rfl) (of_decide_eq_true (by kernel_rfl)) k0 bel lt0) (trodAll_cons_mk (Below.trod laidOut (by kernel_rfl) (of_decide_eq_true (by kernel_rfl)) k1 bel lt1) (trodAll_cons_mk (shut_int Try.underlying3 w2) (trodAll_cons_mk (shut_int Try.underlying3 w3) (trodAll_cons_mk (Below.trod laidOut (by kernel_rfl) (of_decide_eq_true (by kernel_rfl)) k4 bel lt4) trodAll_mk0))))), rfl, bel.frame _, fun h => by cases h⟩
theorem over : Rows.refineDecodesRow.holds Try.pinned (OpenSpec.ofChange Rows.refineDecodesSpec) :=
  OpenClaim.holds_of_wide 5 Try.f5 rfl rfl rfl rfl rfl rfl rfl ⟨rfl, rfl, rfl, rfl, rfl⟩ rfl rfl rfl rfl rfl (by kernel_rfl) Try.func5 (by kernel_rfl)
    (of_decide_eq_true (by kernel_rfl)) (by unfold Func.isWrapper; first | (rw [if_pos (by decide +kernel)]; kernel_rfl) | (rw [if_neg (by decide +kernel)]; exact ⟨rfl, rfl⟩))
    (fun os started H enc _ => lifted os started H enc)
theorem proved : Rows.RefineDecodesSaid := over
#print axioms proved
end Go.Proofs.Ytkfejicdjpffcaa.HandRefineDecodes
namespace Go.Proofs.Ytkfejicdjpffcaa
/-- The row, under a short name, for the claim. -/
theorem refineDecodes_holds : Rows.RefineDecodesSaid := HandRefineDecodes.proved
end Go.Proofs.Ytkfejicdjpffcaa
