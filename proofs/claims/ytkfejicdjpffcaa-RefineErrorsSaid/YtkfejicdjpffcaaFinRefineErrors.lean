/- In which order nil coders, options, bitmaps and contexts are refused: for all options, bitmaps, bases and numbers of contexts. -/
import Derived.Test.YtkfejicdjpffcaaMRefineErrors1
import Derived.Test.YtkfejicdjpffcaaMRefineErrors2
import Derived.Test.YtkfejicdjpffcaaMRefineErrors3
import Derived.Test.YtkfejicdjpffcaaMRefineErrors4
import Derived.Test.YtkfejicdjpffcaaMRefineErrors5
import Derived.Test.YtkfejicdjpffcaaRows
import Derived.WalkKit
import Derived.ProofKit
import Derived.OpenShut
import Derived.ShutString
import Derived.ChangeOld
import Derived.Lib.SmallJoins
import Derived.Below
import Derived.SizedLaws
import Derived.Test.YtkfejicdjpffcaaMRefineErrors0
namespace Go.Proofs.Ytkfejicdjpffcaa.HandRefineErrors
open Go Go.RowKit Go.Proofs.Ytkfejicdjpffcaa.U Go.Proofs.YtkfejicdjpffcaaW.PrintWords Go.Proofs.YtkfejicdjpffcaaW.PrintLast Go.Proofs.YtkfejicdjpffcaaW.PrintMore Go.Proofs.Ytkfejicdjpffcaa.Aid Go.Proofs.Ytkfejicdjpffcaa.HandAid Go.Proofs.Ytkfejicdjpffcaa.Opn Go.Proofs.Ytkfejicdjpffcaa.Cod1 Go.Proofs.Ytkfejicdjpffcaa.Cod2 Go.Proofs.Ytkfejicdjpffcaa.Cod3 Go.Proofs.Ytkfejicdjpffcaa.Mod Go.Proofs.Ytkfejicdjpffcaa.NewRef Go.Proofs.Ytkfejicdjpffcaa.Enc Go.Proofs.Ytkfejicdjpffcaa.Mods Go.Proofs.Ytkfejicdjpffcaa.EncAt Go.Proofs.Ytkfejicdjpffcaa.Put Go.Proofs.Ytkfejicdjpffcaa.End Go.Proofs.Ytkfejicdjpffcaa.Snc Go.Proofs.Ytkfejicdjpffcaa.Dec Go.Proofs.Ytkfejicdjpffcaa.Get Go.Proofs.Ytkfejicdjpffcaa.DecNew Go.Proofs.Ytkfejicdjpffcaa.RefAt Go.Proofs.Ytkfejicdjpffcaa.RefPut Go.Proofs.Ytkfejicdjpffcaa.RefEnd Go.Proofs.Ytkfejicdjpffcaa.RDec Go.Proofs.Ytkfejicdjpffcaa.RDecNew Go.Proofs.Ytkfejicdjpffcaa.Isk Go.Proofs.Ytkfejicdjpffcaa.Pse Go.Proofs.Ytkfejicdjpffcaa.Pwk Go.Proofs.Ytkfejicdjpffcaa.Bkp Go.Proofs.Ytkfejicdjpffcaa.Rpx Go.Proofs.Ytkfejicdjpffcaa.Rva Go.Proofs.Ytkfejicdjpffcaa.Rfl Go.Proofs.Ytkfejicdjpffcaa.Rcx Go.Proofs.Ytkfejicdjpffcaa.Rty Go.Proofs.Ytkfejicdjpffcaa.Rev Go.Proofs.Ytkfejicdjpffcaa.Rpt Go.Proofs.Ytkfejicdjpffcaa.Rrp Go.Proofs.Ytkfejicdjpffcaa.Ren Go.Proofs.Ytkfejicdjpffcaa.Rdv Go.Proofs.Ytkfejicdjpffcaa.Rrw Go.Proofs.Ytkfejicdjpffcaa.Rmk Go.Proofs.Ytkfejicdjpffcaa.Rgt Go.Proofs.Ytkfejicdjpffcaa.Rrg Go.Proofs.Ytkfejicdjpffcaa.Rde Go.Proofs.Ytkfejicdjpffcaa.Rbk Go.Proofs.Ytkfejicdjpffcaa.Cby Go.Proofs.Ytkfejicdjpffcaa.Raw Go.Proofs.Ytkfejicdjpffcaa.Len Go.Proofs.Ytkfejicdjpffcaa.Rct Go.Proofs.Ytkfejicdjpffcaa.Rmi Go.Proofs.Ytkfejicdjpffcaa.Ler
set_option linter.unusedVariables false
set_option linter.unusedSimpArgs false
open Go.Proofs.Ytkfejicdjpffcaa Go.Proofs.Ytkfejicdjpffcaa.U Go.Proofs.Ytkfejicdjpffcaa.Ler
theorem walk (w : World) (t : Int) (h0 : (Lit.int .i64 t).wf = true) (dx : Int) (h1 : (Lit.int .i64 dx).wf = true) (dy : Int) (h2 : (Lit.int .i64 dy).wf = true) (ty : Bool) (kd : Int) (h4 : (Lit.int .i64 kd).wf = true) (W : Int) (h5 : (Lit.int .i64 W).wf = true) (H : Int) (h6 : (Lit.int .i64 H).wf = true) (AB : Option Addr) (cB : Nat) (P : List Int) (hcB : P.length ≤ cB) (hB : Kd.C (Kd.int .u8) w AB P.length P) (hwP : P.length * 1 ≤ 140737488351232 ∧ ∀ x ∈ P, (Lit.int .u8 x).wf = true) (RW : Int) (h8 : (Lit.int .i64 RW).wf = true) (RH : Int) (h9 : (Lit.int .i64 RH).wf = true) (AR : Option Addr) (cR : Nat) (RP : List Int) (hcR : RP.length ≤ cR) (hA : Kd.C (Kd.int .u8) w AR RP.length RP) (hwR : RP.length * 1 ≤ 140737488351232 ∧ ∀ x ∈ RP, (Lit.int .u8 x).wf = true) (x : Int) (hx : (Lit.int .i64 x).wf = true) (y : Int) (hy : (Lit.int .i64 y).wf = true) :
    Calls Try.prog 8 #[.agg #[.int .i64 t, .int .i64 dx, .int .i64 dy, .bool ty, .int .i64 kd], .agg #[.int .i64 W, .int .i64 H, .slice AB P.length cB], .agg #[.int .i64 RW, .int .i64 RH, .slice AR RP.length cR], .int .i64 x, .int .i64 y] w fun e w' => e = .returned (.bool true) ∧ Below w.heap.size w w' := errors_walk w t h0 dx h1 dy h2 ty kd h4 W h5 H h6 AB cB P hcB hB hwP RW h8 RH h9 AR cR RP hcR hA hwR x hx y hy
open Go.ChangeShapes Go.WideShapes Go.ChangeAt
open Go.ChangeMaps (open_string shut_string)
theorem own : ownKnob Try.prog.godebug = none := by kernel_rfl
theorem laidOut : laidOutB Try.prog = true := by kernel_rfl
def IsRow (k : IntKind) (w : World) (a : Option Addr) (len cap : Nat) (zs : List Int) : Prop :=
  (a = none ∧ len = 0 ∧ cap = 0 ∧ zs = []) ∨
  ∃ x, a = some x ∧ len ≤ cap ∧ cap ≤ maxLen ∧ zs.length = cap ∧ (∀ i, i < zs.length → w.cell? (x.add i) = some (.int k (zs.getD i 0))) ∧ ∀ n ∈ zs, (Lit.int k n).wf = true
set_option maxRecDepth 100000 in
theorem lifted (os : Os) (started : os.Started) (H : Type) (enc : TypeId × Value → H) :
    ReturnsInHanded {} Try.checked os 8 .any (Rows.refineErrorsSpec.pre6 enc Try.prog Try.f8 Rows.refineErrorsRow.domain false) (Rows.refineErrorsSpec.post enc Try.prog Try.f8 false true false false) := by
  refine returnsInHanded_of_change_sized (C := Try.checked) own started (by kernel_rfl) Try.func8
    (ChangeSpec.witness6 (enc := enc) (C := Try.checked) false ⟨#[], #[.agg #[.int .i64 0, .int .i64 0, .int .i64 0, .bool false, .int .i64 0], .agg #[.int .i64 0, .int .i64 0, .slice none 0 0], .agg #[.int .i64 0, .int .i64 0, .slice none 0 0], .int .i64 0, .int .i64 0], []⟩ 8 (by kernel_rfl) (by kernel_rfl) (by kernel_rfl) (by kernel_rfl)) ?_
  intro W base args ds gs before hval0 hW hcnd hsz0 _
  have hsz : (DataW.weightsEach Try.prog (Try.f8.params.toList ++ Rows.refineErrorsSpec.plain.varTypes Try.prog) (ds ++ gs)).all (· ≤ reachBytes) = true := hsz0
  have hval : ∀ (j : Nat) t v, Try.f8.params[j]? = some t → args[j]? = some v → Value.okWide Try.prog W .any base t v := hval0
  have hW' := hW
  obtain ⟨p, q, hA0, hV, rfl, hfz, hnd⟩ := hW
  have hA : DataW.TrodAll enc Try.prog W 0 (fun _ => true) true Try.f8.params.toList args.toList ds p := hA0
  rw [Try.params8] at hA hval hsz
  obtain ⟨v0, vs0, d0, ds0, p0, q0, hargs, rfl, rfl, h0, r0⟩ := trodAll_cons hA
  obtain ⟨v1, vs1, d1, ds1, p1, q1, rfl, rfl, rfl, h1, r1⟩ := trodAll_cons r0
  obtain ⟨v2, vs2, d2, ds2, p2, q2, rfl, rfl, rfl, h2, r2⟩ := trodAll_cons r1
  obtain ⟨v3, vs3, d3, ds3, p3, q3, rfl, rfl, rfl, h3, r3⟩ := trodAll_cons r2
  obtain ⟨v4, vs4, d4, ds4, p4, q4, rfl, rfl, rfl, h4, r4⟩ := trodAll_cons r3
  obtain ⟨rfl, rfl, rfl⟩ := trodAll_nil r4
  obtain rfl : args = #[v0, v1, v2, v3, v4] := by cases args; simp_all
  obtain ⟨rfl, rfl⟩ := trodVars_none hV
  have k0 := h0
  have lt0 : ∀ x ∈ p0, x.block < W.heap.size := by obtain ⟨m, hm⟩ := k0; exact DataW.trod_lt m _ _ _ hm
  obtain ⟨cs0, rfl, csz0⟩ := okWide_struct Try.underlying23 (hval 0 23 v0 rfl rfl)
  obtain ⟨⟨x0_0, ⟨x0_1, ⟨x0_2, ⟨x0_3, x0_4⟩⟩⟩⟩, ⟨_, _, hcs0, rfl, ⟨_, _, rfl, rfl, ⟨_, _, rfl, rfl, ⟨_, _, rfl, rfl, rfl⟩⟩⟩⟩, ⟨w0_0, ⟨w0_1, ⟨w0_2, ⟨_, w0_4⟩⟩⟩⟩⟩ := Opn.open_arg (N := 8) (fun n => ((o_struct (d := (Kd.pair (Kd.int .i64) (Kd.pair (Kd.int .i64) (Kd.pair (Kd.int .i64) (Kd.pair Kd.bool (Kd.int .i64)))))) Try.underlying23 (by kernel_rfl) (f_cons rfl (o_int Try.underlying3 (by kernel_rfl)) (f_cons rfl (o_int Try.underlying3 (by kernel_rfl)) (f_cons rfl (o_int Try.underlying3 (by kernel_rfl)) (f_cons rfl (o_bool Try.underlying4 (by kernel_rfl)) (f_one rfl (o_int Try.underlying3 (by kernel_rfl)))))))) : Opn.OpensTo Try.prog (n + 8) 23 _ _)) h0 hsz (j := 0) (t := 23) rfl rfl
  obtain rfl : cs0 = #[.int .i64 x0_0, .int .i64 x0_1, .int .i64 x0_2, .bool x0_3, .int .i64 x0_4] := by rw [← Array.toList_inj]; exact hcs0
  have k1 := h1
  have lt1 : ∀ x ∈ p1, x.block < W.heap.size := by obtain ⟨m, hm⟩ := k1; exact DataW.trod_lt m _ _ _ hm
  obtain ⟨cs1, rfl, csz1⟩ := okWide_struct Try.underlying31 (hval 1 31 v1 rfl rfl)
  obtain ⟨⟨x1_0, ⟨x1_1, x1_2⟩⟩, ⟨_, _, hcs1, rfl, ⟨_, _, rfl, rfl, ⟨A1_2, c1_2, rfl, l1_2, g1_2⟩⟩⟩, ⟨w1_0, ⟨w1_1, w1_2⟩⟩⟩ := Opn.open_arg (N := 8) (fun n => ((o_struct (d := (Kd.pair (Kd.int .i64) (Kd.pair (Kd.int .i64) (Kd.slice 5 (Kd.int .u8))))) Try.underlying31 (by kernel_rfl) (f_cons rfl (o_int Try.underlying3 (by kernel_rfl)) (f_cons rfl (o_int Try.underlying3 (by kernel_rfl)) (f_one rfl (o_slice (B := 1) Try.underlying29 (by kernel_rfl) (o_int Try.underlying5 (by kernel_rfl)) (by kernel_rfl)))))) : Opn.OpensTo Try.prog (n + 8) 31 _ _)) h1 hsz (j := 1) (t := 31) rfl rfl
  obtain rfl : cs1 = #[.int .i64 x1_0, .int .i64 x1_1, .slice A1_2 x1_2.length c1_2] := by rw [← Array.toList_inj]; exact hcs1
  have k2 := h2
  have lt2 : ∀ x ∈ p2, x.block < W.heap.size := by obtain ⟨m, hm⟩ := k2; exact DataW.trod_lt m _ _ _ hm
  obtain ⟨cs2, rfl, csz2⟩ := okWide_struct Try.underlying31 (hval 2 31 v2 rfl rfl)
  obtain ⟨⟨x2_0, ⟨x2_1, x2_2⟩⟩, ⟨_, _, hcs2, rfl, ⟨_, _, rfl, rfl, ⟨A2_2, c2_2, rfl, l2_2, g2_2⟩⟩⟩, ⟨w2_0, ⟨w2_1, w2_2⟩⟩⟩ := Opn.open_arg (N := 8) (fun n => ((o_struct (d := (Kd.pair (Kd.int .i64) (Kd.pair (Kd.int .i64) (Kd.slice 5 (Kd.int .u8))))) Try.underlying31 (by kernel_rfl) (f_cons rfl (o_int Try.underlying3 (by kernel_rfl)) (f_cons rfl (o_int Try.underlying3 (by kernel_rfl)) (f_one rfl (o_slice (B := 1) Try.underlying29 (by kernel_rfl) (o_int Try.underlying5 (by kernel_rfl)) (by kernel_rfl)))))) : Opn.OpensTo Try.prog (n + 8) 31 _ _)) h2 hsz (j := 2) (t := 31) rfl rfl
  obtain rfl : cs2 = #[.int .i64 x2_0, .int .i64 x2_1, .slice A2_2 x2_2.length c2_2] := by rw [← Array.toList_inj]; exact hcs2
  obtain ⟨a3, rfl, rfl, rfl, w3⟩ := open_int Try.underlying3 (hval 3 3 v3 rfl rfl) h3
  obtain ⟨a4, rfl, rfl, rfl, w4⟩ := open_int Try.underlying3 (hval 4 3 v4 rfl rfl) h4
  clear hA0 hval0 hsz0 hsz
  refine (walk W x0_0 w0_0 x0_1 w0_1 x0_2 w0_2 x0_3 x0_4 w0_4 x1_0 w1_0 x1_1 w1_1 A1_2 c1_2 x1_2 l1_2 g1_2 w1_2 x2_0 w2_0 x2_1 w2_1 A2_2 c2_2 x2_2 l2_2 g2_2 w2_2 a3 w3 a4 w4).mono fun e W' ⟨he, bel⟩ => ?_
  subst he
  exact ⟨_, rfl, _, _, _, [], _, [], hW', trodAll_mk1 (shut_bool Try.underlying4 _), (trodAll_cons_mk (Below.trod laidOut (by kernel_rfl) (of_decide_eq_true (by kernel_rfl)) k0 bel lt0) (trodAll_cons_mk (Below.trod laidOut (by kernel_rfl) (of_decide_eq_true (by kernel_rfl)) k1 bel lt1) (trodAll_cons_mk (Below.trod laidOut (by kernel_rfl) (of_decide_eq_true (by kernel_rfl)) k2 bel lt2) (trodAll_cons_mk (shut_int Try.underlying3 w3) (trodAll_cons_mk (shut_int Try.underlying3 w4) trodAll_mk0))))), rfl, bel.frame _, fun h => by cases h⟩
theorem over : Rows.refineErrorsRow.holds Try.pinned (OpenSpec.ofChange Rows.refineErrorsSpec) :=
  OpenClaim.holds_of_wide 8 Try.f8 rfl rfl rfl rfl rfl rfl rfl ⟨rfl, rfl, rfl, rfl, rfl⟩ rfl rfl rfl rfl rfl (by kernel_rfl) Try.func8 (by kernel_rfl)
    (of_decide_eq_true (by kernel_rfl)) (by unfold Func.isWrapper; first | (rw [if_pos (by decide +kernel)]; kernel_rfl) | (rw [if_neg (by decide +kernel)]; exact ⟨rfl, rfl⟩))
    (fun os started H enc _ => lifted os started H enc)
theorem proved : Rows.RefineErrorsSaid := over
#print axioms proved
end Go.Proofs.Ytkfejicdjpffcaa.HandRefineErrors
namespace Go.Proofs.Ytkfejicdjpffcaa
/-- The row, under a short name, for the claim. -/
theorem refineErrors_holds : Rows.RefineErrorsSaid := HandRefineErrors.proved
end Go.Proofs.Ytkfejicdjpffcaa
