/- How many bits a bitmap needs that is its own reference: for all bitmaps, templates and kinds. -/
import Derived.Test.YtkfejicdjpffcaaMRefineSame1
import Derived.Test.YtkfejicdjpffcaaMRefineSame2
import Derived.Test.YtkfejicdjpffcaaMRefineSame3
import Derived.Test.YtkfejicdjpffcaaMRefineSame4
import Derived.Test.YtkfejicdjpffcaaRows
import Derived.WalkKit
import Derived.ProofKit
import Derived.OpenShut
import Derived.ShutString
import Derived.ChangeOld
import Derived.Lib.SmallJoins
import Derived.Below
import Derived.SizedLaws
import Derived.Test.YtkfejicdjpffcaaMRefineSame0
namespace Go.Proofs.Ytkfejicdjpffcaa.HandRefineSame
open Go Go.RowKit Go.Proofs.Ytkfejicdjpffcaa.U Go.Proofs.YtkfejicdjpffcaaW.PrintWords Go.Proofs.YtkfejicdjpffcaaW.PrintLast Go.Proofs.YtkfejicdjpffcaaW.PrintMore Go.Proofs.Ytkfejicdjpffcaa.Aid Go.Proofs.Ytkfejicdjpffcaa.HandAid Go.Proofs.Ytkfejicdjpffcaa.Opn Go.Proofs.Ytkfejicdjpffcaa.Cod1 Go.Proofs.Ytkfejicdjpffcaa.Cod2 Go.Proofs.Ytkfejicdjpffcaa.Cod3 Go.Proofs.Ytkfejicdjpffcaa.Mod Go.Proofs.Ytkfejicdjpffcaa.NewRef Go.Proofs.Ytkfejicdjpffcaa.Enc Go.Proofs.Ytkfejicdjpffcaa.Mods Go.Proofs.Ytkfejicdjpffcaa.EncAt Go.Proofs.Ytkfejicdjpffcaa.Put Go.Proofs.Ytkfejicdjpffcaa.End Go.Proofs.Ytkfejicdjpffcaa.Snc Go.Proofs.Ytkfejicdjpffcaa.Dec Go.Proofs.Ytkfejicdjpffcaa.Get Go.Proofs.Ytkfejicdjpffcaa.DecNew Go.Proofs.Ytkfejicdjpffcaa.RefAt Go.Proofs.Ytkfejicdjpffcaa.RefPut Go.Proofs.Ytkfejicdjpffcaa.RefEnd Go.Proofs.Ytkfejicdjpffcaa.RDec Go.Proofs.Ytkfejicdjpffcaa.RDecNew Go.Proofs.Ytkfejicdjpffcaa.Isk Go.Proofs.Ytkfejicdjpffcaa.Pse Go.Proofs.Ytkfejicdjpffcaa.Pwk Go.Proofs.Ytkfejicdjpffcaa.Bkp Go.Proofs.Ytkfejicdjpffcaa.Rpx Go.Proofs.Ytkfejicdjpffcaa.Rva Go.Proofs.Ytkfejicdjpffcaa.Rfl Go.Proofs.Ytkfejicdjpffcaa.Rcx Go.Proofs.Ytkfejicdjpffcaa.Rty Go.Proofs.Ytkfejicdjpffcaa.Rev Go.Proofs.Ytkfejicdjpffcaa.Rpt Go.Proofs.Ytkfejicdjpffcaa.Rrp Go.Proofs.Ytkfejicdjpffcaa.Ren Go.Proofs.Ytkfejicdjpffcaa.Rdv Go.Proofs.Ytkfejicdjpffcaa.Rrw Go.Proofs.Ytkfejicdjpffcaa.Rmk Go.Proofs.Ytkfejicdjpffcaa.Rgt Go.Proofs.Ytkfejicdjpffcaa.Rrg Go.Proofs.Ytkfejicdjpffcaa.Rde Go.Proofs.Ytkfejicdjpffcaa.Rbk Go.Proofs.Ytkfejicdjpffcaa.Cby Go.Proofs.Ytkfejicdjpffcaa.Raw Go.Proofs.Ytkfejicdjpffcaa.Len Go.Proofs.Ytkfejicdjpffcaa.Enq Go.Proofs.Ytkfejicdjpffcaa.Lsm
set_option linter.unusedVariables false
set_option linter.unusedSimpArgs false
open Go.Proofs.Ytkfejicdjpffcaa Go.Proofs.Ytkfejicdjpffcaa.U Go.Proofs.Ytkfejicdjpffcaa.Lsm
theorem walk (w : World) (W : Int) (h5 : (Lit.int .i64 W).wf = true) (H : Int) (h6 : (Lit.int .i64 H).wf = true) (AB : Option Addr) (cB : Nat) (P : List Int) (hcB : P.length ≤ cB) (hB : Kd.C (Kd.int .u8) w AB P.length P) (hwP : P.length * 1 ≤ 140737488351232 ∧ ∀ x ∈ P, (Lit.int .u8 x).wf = true) (t : Int) (h0 : (Lit.int .i64 t).wf = true) (kd : Int) (h4 : (Lit.int .i64 kd).wf = true) :
    Calls Try.prog 10 #[.agg #[.int .i64 W, .int .i64 H, .slice AB P.length cB], .int .i64 t, .int .i64 kd] w fun e w' => e = .returned (.bool true) ∧ Below w.heap.size w w' := same_walk w W h5 H h6 AB cB P hcB hB hwP t h0 kd h4
open Go.ChangeShapes Go.WideShapes Go.ChangeAt
open Go.ChangeMaps (open_string shut_string)
theorem own : ownKnob Try.prog.godebug = none := by kernel_rfl
theorem laidOut : laidOutB Try.prog = true := by kernel_rfl
def IsRow (k : IntKind) (w : World) (a : Option Addr) (len cap : Nat) (zs : List Int) : Prop :=
  (a = none ∧ len = 0 ∧ cap = 0 ∧ zs = []) ∨
  ∃ x, a = some x ∧ len ≤ cap ∧ cap ≤ maxLen ∧ zs.length = cap ∧ (∀ i, i < zs.length → w.cell? (x.add i) = some (.int k (zs.getD i 0))) ∧ ∀ n ∈ zs, (Lit.int k n).wf = true
set_option maxRecDepth 100000 in
theorem lifted (os : Os) (started : os.Started) (H : Type) (enc : TypeId × Value → H) :
    ReturnsInHanded {} Try.checked os 10 .any (Rows.refineSameSpec.pre6 enc Try.prog Try.f10 Rows.refineSameRow.domain false) (Rows.refineSameSpec.post enc Try.prog Try.f10 false true false false) := by
  refine returnsInHanded_of_change_sized (C := Try.checked) own started (by kernel_rfl) Try.func10
    (ChangeSpec.witness6 (enc := enc) (C := Try.checked) false ⟨#[], #[.agg #[.int .i64 0, .int .i64 0, .slice none 0 0], .int .i64 0, .int .i64 0], []⟩ 8 (by kernel_rfl) (by kernel_rfl) (by kernel_rfl) (by kernel_rfl)) ?_
  intro W base args ds gs before hval0 hW hcnd hsz0 _
  have hsz : (DataW.weightsEach Try.prog (Try.f10.params.toList ++ Rows.refineSameSpec.plain.varTypes Try.prog) (ds ++ gs)).all (· ≤ reachBytes) = true := hsz0
  have hval : ∀ (j : Nat) t v, Try.f10.params[j]? = some t → args[j]? = some v → Value.okWide Try.prog W .any base t v := hval0
  have hW' := hW
  obtain ⟨p, q, hA0, hV, rfl, hfz, hnd⟩ := hW
  have hA : DataW.TrodAll enc Try.prog W 0 (fun _ => true) true Try.f10.params.toList args.toList ds p := hA0
  rw [Try.params10] at hA hval hsz
  obtain ⟨v0, vs0, d0, ds0, p0, q0, hargs, rfl, rfl, h0, r0⟩ := trodAll_cons hA
  obtain ⟨v1, vs1, d1, ds1, p1, q1, rfl, rfl, rfl, h1, r1⟩ := trodAll_cons r0
  obtain ⟨v2, vs2, d2, ds2, p2, q2, rfl, rfl, rfl, h2, r2⟩ := trodAll_cons r1
  obtain ⟨rfl, rfl, rfl⟩ := trodAll_nil r2
  obtain rfl : args = #[v0, v1, v2] := by cases args; simp_all
  obtain ⟨rfl, rfl⟩ := trodVars_none hV
  have k0 := h0
  have lt0 : ∀ x ∈ p0, x.block < W.heap.size := by obtain ⟨m, hm⟩ := k0; exact DataW.trod_lt m _ _ _ hm
  obtain ⟨cs0, rfl, csz0⟩ := okWide_struct Try.underlying31 (hval 0 31 v0 rfl rfl)
  obtain ⟨⟨x0_0, ⟨x0_1, x0_2⟩⟩, ⟨_, _, hcs0, rfl, ⟨_, _, rfl, rfl, ⟨A0_2, c0_2, rfl, l0_2, g0_2⟩⟩⟩, ⟨w0_0, ⟨w0_1, w0_2⟩⟩⟩ := Opn.open_arg (N := 8) (fun n => ((o_struct (d := (Kd.pair (Kd.int .i64) (Kd.pair (Kd.int .i64) (Kd.slice 5 (Kd.int .u8))))) Try.underlying31 (by kernel_rfl) (f_cons rfl (o_int Try.underlying3 (by kernel_rfl)) (f_cons rfl (o_int Try.underlying3 (by kernel_rfl)) (f_one rfl (o_slice (B := 1) Try.underlying29 (by kernel_rfl) (o_int Try.underlying5 (by kernel_rfl)) (by kernel_rfl)))))) : Opn.OpensTo Try.prog (n + 8) 31 _ _)) h0 hsz (j := 0) (t := 31) rfl rfl
  obtain rfl : cs0 = #[.int .i64 x0_0, .int .i64 x0_1, .slice A0_2 x0_2.length c0_2] := by rw [← Array.toList_inj]; exact hcs0
  obtain ⟨a1, rfl, rfl, rfl, w1⟩ := open_int Try.underlying3 (hval 1 3 v1 rfl rfl) h1
  obtain ⟨a2, rfl, rfl, rfl, w2⟩ := open_int Try.underlying3 (hval 2 3 v2 rfl rfl) h2
  clear hA0 hval0 hsz0 hsz
  refine (walk W x0_0 w0_0 x0_1 w0_1 A0_2 c0_2 x0_2 l0_2 g0_2 w0_2 a1 w1 a2 w2).mono fun e W' ⟨he, bel⟩ => ?_
  subst he
  exact ⟨_, rfl, _, _, _, [], _, [], hW', trodAll_mk1 (shut_bool Try.underlying4 _), (trodAll_cons_mk (Below.trod laidOut (by kernel_rfl) (of_decide_eq_true (by kernel_rfl)) k0 bel lt0) (trodAll_cons_mk (shut_int Try.underlying3 w1) (trodAll_cons_mk (shut_int Try.underlying3 w2) trodAll_mk0))), rfl, bel.frame _, fun h => by cases h⟩
theorem over : Rows.refineSameRow.holds Try.pinned (OpenSpec.ofChange Rows.refineSameSpec) :=
  OpenClaim.holds_of_wide 10 Try.f10 rfl rfl rfl rfl rfl rfl rfl ⟨rfl, rfl, rfl, rfl, rfl⟩ rfl rfl rfl rfl rfl (by kernel_rfl) Try.func10 (by kernel_rfl)
    (of_decide_eq_true (by kernel_rfl)) (by unfold Func.isWrapper; first | (rw [if_pos (by decide +kernel)]; kernel_rfl) | (rw [if_neg (by decide +kernel)]; exact ⟨rfl, rfl⟩))
    (fun os started H enc _ => lifted os started H enc)
theorem proved : Rows.RefineSameSaid := over
#print axioms proved
end Go.Proofs.Ytkfejicdjpffcaa.HandRefineSame
namespace Go.Proofs.Ytkfejicdjpffcaa
/-- The row, under a short name, for the claim. -/
theorem refineSame_holds : Rows.RefineSameSaid := HandRefineSame.proved
end Go.Proofs.Ytkfejicdjpffcaa
