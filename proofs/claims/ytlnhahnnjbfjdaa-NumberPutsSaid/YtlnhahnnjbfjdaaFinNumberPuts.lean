/- What Put and PutId put, one behind the other in one code, which errors they have, and that Get and GetId get all again: for every kind, number of contexts and list of deeds. -/
import Derived.Test.YtlnhahnnjbfjdaaMNumberPuts1
import Derived.Test.YtlnhahnnjbfjdaaMNumberPuts2
import Derived.Test.YtlnhahnnjbfjdaaMNumberPuts3
import Derived.Test.YtlnhahnnjbfjdaaMNumberPuts4
import Derived.Test.YtlnhahnnjbfjdaaRows
import Derived.WalkKit
import Derived.ProofKit
import Derived.OpenShut
import Derived.ShutString
import Derived.ChangeOld
import Derived.Lib.SmallJoins
import Derived.Below
import Derived.SizedLaws
import Derived.Test.YtlnhahnnjbfjdaaMNumberPuts0
namespace Go.Proofs.Ytlnhahnnjbfjdaa.HandNumberPuts
open Go Go.RowKit Go.Proofs.Ytlnhahnnjbfjdaa.U Go.Proofs.YtlnhahnnjbfjdaaW.PrintWords Go.Proofs.YtlnhahnnjbfjdaaW.PrintLast Go.Proofs.YtlnhahnnjbfjdaaW.PrintMore Go.Proofs.Ytlnhahnnjbfjdaa.Aid Go.Proofs.Ytlnhahnnjbfjdaa.HandAid Go.Proofs.Ytlnhahnnjbfjdaa.Opn Go.Proofs.Ytlnhahnnjbfjdaa.Cod1 Go.Proofs.Ytlnhahnnjbfjdaa.Cod2 Go.Proofs.Ytlnhahnnjbfjdaa.Cod3 Go.Proofs.Ytlnhahnnjbfjdaa.Mod Go.Proofs.Ytlnhahnnjbfjdaa.NewRef Go.Proofs.Ytlnhahnnjbfjdaa.Enc Go.Proofs.Ytlnhahnnjbfjdaa.Mods Go.Proofs.Ytlnhahnnjbfjdaa.EncAt Go.Proofs.Ytlnhahnnjbfjdaa.Put Go.Proofs.Ytlnhahnnjbfjdaa.End Go.Proofs.Ytlnhahnnjbfjdaa.Snc Go.Proofs.Ytlnhahnnjbfjdaa.Num Go.Proofs.Ytlnhahnnjbfjdaa.Evs Go.Proofs.Ytlnhahnnjbfjdaa.RefEvs Go.Proofs.Ytlnhahnnjbfjdaa.Sane Go.Proofs.Ytlnhahnnjbfjdaa.RefAt Go.Proofs.Ytlnhahnnjbfjdaa.Pse Go.Proofs.Ytlnhahnnjbfjdaa.Npu Go.Proofs.Ytlnhahnnjbfjdaa.Nen Go.Proofs.Ytlnhahnnjbfjdaa.Dec Go.Proofs.Ytlnhahnnjbfjdaa.Get Go.Proofs.Ytlnhahnnjbfjdaa.DecNew Go.Proofs.Ytlnhahnnjbfjdaa.Bkp Go.Proofs.Ytlnhahnnjbfjdaa.RDec Go.Proofs.Ytlnhahnnjbfjdaa.RDecNew Go.Proofs.Ytlnhahnnjbfjdaa.TwoD Go.Proofs.Ytlnhahnnjbfjdaa.Ngt Go.Proofs.Ytlnhahnnjbfjdaa.Nwk Go.Proofs.Ytlnhahnnjbfjdaa.Nrw Go.Proofs.Ytlnhahnnjbfjdaa.Gid Go.Proofs.Ytlnhahnnjbfjdaa.Pgt Go.Proofs.Ytlnhahnnjbfjdaa.TwN Go.Proofs.Ytlnhahnnjbfjdaa.Nfo Go.Proofs.Ytlnhahnnjbfjdaa.Ndc Go.Proofs.Ytlnhahnnjbfjdaa.RefPut Go.Proofs.Ytlnhahnnjbfjdaa.RefEnd Go.Proofs.Ytlnhahnnjbfjdaa.Nre Go.Proofs.Ytlnhahnnjbfjdaa.Ned Go.Proofs.Ytlnhahnnjbfjdaa.Pid Go.Proofs.Ytlnhahnnjbfjdaa.Npt Go.Proofs.Ytlnhahnnjbfjdaa.Npi Go.Proofs.Ytlnhahnnjbfjdaa.Tpi Go.Proofs.Ytlnhahnnjbfjdaa.Ngw Go.Proofs.Ytlnhahnnjbfjdaa.Npw
set_option linter.unusedVariables false
set_option linter.unusedSimpArgs false
open Go.Proofs.Ytlnhahnnjbfjdaa Go.Proofs.Ytlnhahnnjbfjdaa.U Go.Proofs.Ytlnhahnnjbfjdaa.Npw
theorem walk (w : World) (kind : Int) (h0 : (Lit.int .i64 kind).wf = true) (n : Int) (h1 : (Lit.int .i64 n).wf = true) (A : Option Addr) (c : Nat) (l : List S55) (hle : l.length ≤ c) (hC : Kd.C k55 w A l.length l) {P2 : Prop} (hW : P2) :
    Calls Try.prog 9 #[.int .i64 kind, .int .i64 n, .slice A l.length c] w fun e w' => e = .returned (.bool true) ∧ Below w.heap.size w w' := puts_walk w kind n A c l hle hC
open Go.ChangeShapes Go.WideShapes Go.ChangeAt
open Go.ChangeMaps (open_string shut_string)
theorem own : ownKnob Try.prog.godebug = none := by kernel_rfl
theorem laidOut : laidOutB Try.prog = true := by kernel_rfl
def IsRow (k : IntKind) (w : World) (a : Option Addr) (len cap : Nat) (zs : List Int) : Prop :=
  (a = none ∧ len = 0 ∧ cap = 0 ∧ zs = []) ∨
  ∃ x, a = some x ∧ len ≤ cap ∧ cap ≤ maxLen ∧ zs.length = cap ∧ (∀ i, i < zs.length → w.cell? (x.add i) = some (.int k (zs.getD i 0))) ∧ ∀ n ∈ zs, (Lit.int k n).wf = true
set_option maxRecDepth 100000 in
theorem lifted (os : Os) (started : os.Started) (H : Type) (enc : TypeId × Value → H) :
    ReturnsInHanded {} Try.checked os 9 .any (Rows.numberPutsSpec.pre6 enc Try.prog Try.f9 Rows.numberPutsRow.domain false) (Rows.numberPutsSpec.post enc Try.prog Try.f9 false true false false) := by
  refine returnsInHanded_of_change_sized (C := Try.checked) own started (by kernel_rfl) Try.func9
    (ChangeSpec.witness6 (enc := enc) (C := Try.checked) false ⟨#[], #[.int .i64 0, .int .i64 0, .slice none 0 0], []⟩ 8 (by kernel_rfl) (by kernel_rfl) (by kernel_rfl) (by kernel_rfl)) ?_
  intro W base args ds gs before hval0 hW hcnd hsz0 _
  have hsz : (DataW.weightsEach Try.prog (Try.f9.params.toList ++ Rows.numberPutsSpec.plain.varTypes Try.prog) (ds ++ gs)).all (· ≤ reachBytes) = true := hsz0
  have hval : ∀ (j : Nat) t v, Try.f9.params[j]? = some t → args[j]? = some v → Value.okWide Try.prog W .any base t v := hval0
  have hW' := hW
  obtain ⟨p, q, hA0, hV, rfl, hfz, hnd⟩ := hW
  have hA : DataW.TrodAll enc Try.prog W 0 (fun _ => true) true Try.f9.params.toList args.toList ds p := hA0
  rw [Try.params9] at hA hval hsz
  obtain ⟨v0, vs0, d0, ds0, p0, q0, hargs, rfl, rfl, h0, r0⟩ := trodAll_cons hA
  obtain ⟨v1, vs1, d1, ds1, p1, q1, rfl, rfl, rfl, h1, r1⟩ := trodAll_cons r0
  obtain ⟨v2, vs2, d2, ds2, p2, q2, rfl, rfl, rfl, h2, r2⟩ := trodAll_cons r1
  obtain ⟨rfl, rfl, rfl⟩ := trodAll_nil r2
  obtain rfl : args = #[v0, v1, v2] := by cases args; simp_all
  obtain ⟨rfl, rfl⟩ := trodVars_none hV
  obtain ⟨a0, rfl, rfl, rfl, w0⟩ := open_int Try.underlying3 (hval 0 3 v0 rfl rfl) h0
  obtain ⟨a1, rfl, rfl, rfl, w1⟩ := open_int Try.underlying3 (hval 1 3 v1 rfl rfl) h1
  have k2 := h2
  have lt2 : ∀ x ∈ p2, x.block < W.heap.size := by obtain ⟨m, hm⟩ := k2; exact DataW.trod_lt m _ _ _ hm
  obtain ⟨a2, len2, cap2, rfl⟩ := okWide_slice Try.underlying40 (hval 2 40 v2 rfl rfl)
  obtain ⟨x2, ⟨A2, c2, hcs2, l2, g2⟩, w2⟩ := Opn.open_arg (N := 8) (fun n => ((o_slice (B := 48) Try.underlying40 (by kernel_rfl) (show OpensTo _ _ _ k55 _ from o_iso (f := (fun x : S55 => (x.f0, x.f1, x.f2, x.f3, x.f4))) (fun a => ⟨a.1, a.2.1, a.2.2.1, a.2.2.2.1, a.2.2.2.2⟩) (fun _ => rfl) (o_struct (d := (Kd.pair (Kd.int .i64) (Kd.pair (Kd.int .i64) (Kd.pair (Kd.int .i64) (Kd.pair Kd.bool k23))))) Try.underlying55 (by kernel_rfl) (f_cons rfl (o_int Try.underlying3 (by kernel_rfl)) (f_cons rfl (o_int Try.underlying3 (by kernel_rfl)) (f_cons rfl (o_int Try.underlying3 (by kernel_rfl)) (f_cons rfl (o_bool Try.underlying4 (by kernel_rfl)) (f_one rfl (show OpensTo _ _ _ k23 _ from o_iso (f := (fun x : S23 => (x.f0, x.f1))) (fun a => ⟨a.1, a.2⟩) (fun _ => rfl) (o_struct (d := (Kd.pair Kd.bool (Kd.int .i64))) Try.underlying23 (by kernel_rfl) (f_cons rfl (o_bool Try.underlying4 (by kernel_rfl)) (f_one rfl (o_int Try.underlying3 (by kernel_rfl))))))))))))) (by kernel_rfl)) : Opn.OpensTo Try.prog (n + 8) 40 _ _)) h2 hsz (j := 2) (t := 40) rfl rfl
  simp only [Value.cells, List.cons.injEq, Value.slice.injEq, and_true] at hcs2
  obtain ⟨rfl, rfl, rfl⟩ := hcs2
  clear hA0 hval0 hsz0 hsz
  refine (walk W a0 w0 a1 w1 _ _ x2 l2 g2 w2).mono fun e W' ⟨he, bel⟩ => ?_
  subst he
  exact ⟨_, rfl, _, _, _, [], _, [], hW', trodAll_mk1 (shut_bool Try.underlying4 _), (trodAll_cons_mk (shut_int Try.underlying3 w0) (trodAll_cons_mk (shut_int Try.underlying3 w1) (trodAll_cons_mk (Below.trod laidOut (by kernel_rfl) (of_decide_eq_true (by kernel_rfl)) k2 bel lt2) trodAll_mk0))), rfl, bel.frame _, fun h => by cases h⟩
theorem over : Rows.numberPutsRow.holds Try.pinned (OpenSpec.ofChange Rows.numberPutsSpec) :=
  OpenClaim.holds_of_wide 9 Try.f9 rfl rfl rfl rfl rfl rfl rfl ⟨rfl, rfl, rfl, rfl, rfl⟩ rfl rfl rfl rfl rfl (by kernel_rfl) Try.func9 (by kernel_rfl)
    (of_decide_eq_true (by kernel_rfl)) (by unfold Func.isWrapper; first | (rw [if_pos (by decide +kernel)]; kernel_rfl) | (rw [if_neg (by decide +kernel)]; exact ⟨rfl, rfl⟩))
    (fun os started H enc _ => lifted os started H enc)
theorem proved : Rows.NumberPutsSaid := over
#print axioms proved
end Go.Proofs.Ytlnhahnnjbfjdaa.HandNumberPuts
namespace Go.Proofs.Ytlnhahnnjbfjdaa
/-- The row, under a short name, for the claim. -/
theorem numberPuts_holds : Rows.NumberPutsSaid := HandNumberPuts.proved
end Go.Proofs.Ytlnhahnnjbfjdaa
