/- What Get and GetId read in any bytes, in any order, until something is wrong: for every kind, number of contexts, list of bytes and list of deeds. -/
import Derived.Test.YtlnhahnnjbfjdaaMNumberGets1
import Derived.Test.YtlnhahnnjbfjdaaMNumberGets2
import Derived.Test.YtlnhahnnjbfjdaaMNumberGets3
import Derived.Test.YtlnhahnnjbfjdaaMNumberGets4
import Derived.Test.YtlnhahnnjbfjdaaRows
import Derived.WalkKit
import Derived.ProofKit
import Derived.OpenShut
import Derived.ShutString
import Derived.ChangeOld
import Derived.Lib.SmallJoins
import Derived.Below
import Derived.SizedLaws
import Derived.Test.YtlnhahnnjbfjdaaMNumberGets0
namespace Go.Proofs.Ytlnhahnnjbfjdaa.HandNumberGets
open Go Go.RowKit Go.Proofs.Ytlnhahnnjbfjdaa.U Go.Proofs.YtlnhahnnjbfjdaaW.PrintWords Go.Proofs.YtlnhahnnjbfjdaaW.PrintLast Go.Proofs.YtlnhahnnjbfjdaaW.PrintMore Go.Proofs.Ytlnhahnnjbfjdaa.Aid Go.Proofs.Ytlnhahnnjbfjdaa.HandAid Go.Proofs.Ytlnhahnnjbfjdaa.Opn Go.Proofs.Ytlnhahnnjbfjdaa.Cod1 Go.Proofs.Ytlnhahnnjbfjdaa.Cod2 Go.Proofs.Ytlnhahnnjbfjdaa.Cod3 Go.Proofs.Ytlnhahnnjbfjdaa.Mod Go.Proofs.Ytlnhahnnjbfjdaa.NewRef Go.Proofs.Ytlnhahnnjbfjdaa.Enc Go.Proofs.Ytlnhahnnjbfjdaa.Mods Go.Proofs.Ytlnhahnnjbfjdaa.EncAt Go.Proofs.Ytlnhahnnjbfjdaa.Put Go.Proofs.Ytlnhahnnjbfjdaa.End Go.Proofs.Ytlnhahnnjbfjdaa.Snc Go.Proofs.Ytlnhahnnjbfjdaa.Num Go.Proofs.Ytlnhahnnjbfjdaa.Evs Go.Proofs.Ytlnhahnnjbfjdaa.RefEvs Go.Proofs.Ytlnhahnnjbfjdaa.Sane Go.Proofs.Ytlnhahnnjbfjdaa.RefAt Go.Proofs.Ytlnhahnnjbfjdaa.Dec Go.Proofs.Ytlnhahnnjbfjdaa.Get Go.Proofs.Ytlnhahnnjbfjdaa.DecNew Go.Proofs.Ytlnhahnnjbfjdaa.RDec Go.Proofs.Ytlnhahnnjbfjdaa.RDecNew Go.Proofs.Ytlnhahnnjbfjdaa.TwoD Go.Proofs.Ytlnhahnnjbfjdaa.Ngt Go.Proofs.Ytlnhahnnjbfjdaa.Nwk Go.Proofs.Ytlnhahnnjbfjdaa.Nrw Go.Proofs.Ytlnhahnnjbfjdaa.Gid Go.Proofs.Ytlnhahnnjbfjdaa.Pgt Go.Proofs.Ytlnhahnnjbfjdaa.TwN Go.Proofs.Ytlnhahnnjbfjdaa.Ngw
set_option linter.unusedVariables false
set_option linter.unusedSimpArgs false
open Go.Proofs.Ytlnhahnnjbfjdaa Go.Proofs.Ytlnhahnnjbfjdaa.U Go.Proofs.Ytlnhahnnjbfjdaa.Ngw
theorem walk (w : World) (kind : Int) (h0 : (Lit.int .i64 kind).wf = true) (n : Int) (h1 : (Lit.int .i64 n).wf = true)
    (A2 : Option Addr) (c2 : Nat) (b : List Int) (l2 : b.length ≤ c2) (g2 : Kd.C (Kd.int .u8) w A2 b.length b) (w2 : b.length * 1 ≤ 140737488351232 ∧ ∀ x ∈ b, (Lit.int .u8 x).wf = true)
    (A3 : Option Addr) (c3 : Nat) (l : List S55) (l3 : l.length ≤ c3) (g3 : Kd.C k55 w A3 l.length l) {P3 : Prop} (w3 : P3) :
    Calls Try.prog 6 #[.agg #[.int .i64 kind, .int .i64 n, .slice A2 b.length c2, .slice A3 l.length c3]] w fun e w' => e = .returned (.bool true) ∧ Below w.heap.size w w' := gets_walk w kind h0 n h1 A2 c2 b l2 g2 w2 A3 c3 l l3 g3
open Go.ChangeShapes Go.WideShapes Go.ChangeAt
open Go.ChangeMaps (open_string shut_string)
theorem own : ownKnob Try.prog.godebug = none := by kernel_rfl
theorem laidOut : laidOutB Try.prog = true := by kernel_rfl
def IsRow (k : IntKind) (w : World) (a : Option Addr) (len cap : Nat) (zs : List Int) : Prop :=
  (a = none ∧ len = 0 ∧ cap = 0 ∧ zs = []) ∨
  ∃ x, a = some x ∧ len ≤ cap ∧ cap ≤ maxLen ∧ zs.length = cap ∧ (∀ i, i < zs.length → w.cell? (x.add i) = some (.int k (zs.getD i 0))) ∧ ∀ n ∈ zs, (Lit.int k n).wf = true
set_option maxRecDepth 100000 in
theorem lifted (os : Os) (started : os.Started) (H : Type) (enc : TypeId × Value → H) :
    ReturnsInHanded {} Try.checked os 6 .any (Rows.numberGetsSpec.pre6 enc Try.prog Try.f6 Rows.numberGetsRow.domain false) (Rows.numberGetsSpec.post enc Try.prog Try.f6 false true false false) := by
  refine returnsInHanded_of_change_sized (C := Try.checked) own started (by kernel_rfl) Try.func6
    (ChangeSpec.witness6 (enc := enc) (C := Try.checked) false ⟨#[], #[.agg #[.int .i64 0, .int .i64 0, .slice none 0 0, .slice none 0 0]], []⟩ 8 (by kernel_rfl) (by kernel_rfl) (by kernel_rfl) (by kernel_rfl)) ?_
  intro W base args ds gs before hval0 hW hcnd hsz0 _
  have hsz : (DataW.weightsEach Try.prog (Try.f6.params.toList ++ Rows.numberGetsSpec.plain.varTypes Try.prog) (ds ++ gs)).all (· ≤ reachBytes) = true := hsz0
  have hval : ∀ (j : Nat) t v, Try.f6.params[j]? = some t → args[j]? = some v → Value.okWide Try.prog W .any base t v := hval0
  have hW' := hW
  obtain ⟨p, q, hA0, hV, rfl, hfz, hnd⟩ := hW
  have hA : DataW.TrodAll enc Try.prog W 0 (fun _ => true) true Try.f6.params.toList args.toList ds p := hA0
  rw [Try.params6] at hA hval hsz
  obtain ⟨v0, vs0, d0, ds0, p0, q0, hargs, rfl, rfl, h0, r0⟩ := trodAll_cons hA
  obtain ⟨rfl, rfl, rfl⟩ := trodAll_nil r0
  obtain rfl : args = #[v0] := by cases args; simp_all
  obtain ⟨rfl, rfl⟩ := trodVars_none hV
  have k0 := h0
  have lt0 : ∀ x ∈ p0, x.block < W.heap.size := by obtain ⟨m, hm⟩ := k0; exact DataW.trod_lt m _ _ _ hm
  obtain ⟨cs0, rfl, csz0⟩ := okWide_struct Try.underlying42 (hval 0 42 v0 rfl rfl)
  obtain ⟨⟨x0_0, ⟨x0_1, ⟨x0_2, x0_3⟩⟩⟩, ⟨_, _, hcs0, rfl, ⟨_, _, rfl, rfl, ⟨_, _, rfl, ⟨A0_2, c0_2, rfl, l0_2, g0_2⟩, ⟨A0_3, c0_3, rfl, l0_3, g0_3⟩⟩⟩⟩, ⟨w0_0, ⟨w0_1, ⟨w0_2, w0_3⟩⟩⟩⟩ := Opn.open_arg (N := 8) (fun n => ((o_struct (d := (Kd.pair (Kd.int .i64) (Kd.pair (Kd.int .i64) (Kd.pair (Kd.slice 5 (Kd.int .u8)) (Kd.slice 55 k55))))) Try.underlying42 (by kernel_rfl) (f_cons rfl (o_int Try.underlying3 (by kernel_rfl)) (f_cons rfl (o_int Try.underlying3 (by kernel_rfl)) (f_cons rfl (o_slice (B := 1) Try.underlying34 (by kernel_rfl) (o_int Try.underlying5 (by kernel_rfl)) (by kernel_rfl)) (f_one rfl (o_slice (B := 48) Try.underlying40 (by kernel_rfl) (show OpensTo _ _ _ k55 _ from o_iso (f := (fun x : S55 => (x.f0, x.f1, x.f2, x.f3, x.f4))) (fun a => ⟨a.1, a.2.1, a.2.2.1, a.2.2.2.1, a.2.2.2.2⟩) (fun _ => rfl) (o_struct (d := (Kd.pair (Kd.int .i64) (Kd.pair (Kd.int .i64) (Kd.pair (Kd.int .i64) (Kd.pair Kd.bool k23))))) Try.underlying55 (by kernel_rfl) (f_cons rfl (o_int Try.underlying3 (by kernel_rfl)) (f_cons rfl (o_int Try.underlying3 (by kernel_rfl)) (f_cons rfl (o_int Try.underlying3 (by kernel_rfl)) (f_cons rfl (o_bool Try.underlying4 (by kernel_rfl)) (f_one rfl (show OpensTo _ _ _ k23 _ from o_iso (f := (fun x : S23 => (x.f0, x.f1))) (fun a => ⟨a.1, a.2⟩) (fun _ => rfl) (o_struct (d := (Kd.pair Kd.bool (Kd.int .i64))) Try.underlying23 (by kernel_rfl) (f_cons rfl (o_bool Try.underlying4 (by kernel_rfl)) (f_one rfl (o_int Try.underlying3 (by kernel_rfl))))))))))))) (by kernel_rfl))))))) : Opn.OpensTo Try.prog (n + 8) 42 _ _)) h0 hsz (j := 0) (t := 42) rfl rfl
  obtain rfl : cs0 = #[.int .i64 x0_0, .int .i64 x0_1, .slice A0_2 x0_2.length c0_2, .slice A0_3 x0_3.length c0_3] := by rw [← Array.toList_inj]; exact hcs0
  clear hA0 hval0 hsz0 hsz
  refine (walk W x0_0 w0_0 x0_1 w0_1 A0_2 c0_2 x0_2 l0_2 g0_2 w0_2 A0_3 c0_3 x0_3 l0_3 g0_3 w0_3).mono fun e W' ⟨he, bel⟩ => ?_
  subst he
  exact ⟨_, rfl, _, _, _, [], _, [], hW', trodAll_mk1 (shut_bool Try.underlying4 _), (trodAll_cons_mk (Below.trod laidOut (by kernel_rfl) (of_decide_eq_true (by kernel_rfl)) k0 bel lt0) trodAll_mk0), rfl, bel.frame _, fun h => by cases h⟩
theorem over : Rows.numberGetsRow.holds Try.pinned (OpenSpec.ofChange Rows.numberGetsSpec) :=
  OpenClaim.holds_of_wide 6 Try.f6 rfl rfl rfl rfl rfl rfl rfl ⟨rfl, rfl, rfl, rfl, rfl⟩ rfl rfl rfl rfl rfl (by kernel_rfl) Try.func6 (by kernel_rfl)
    (of_decide_eq_true (by kernel_rfl)) (by unfold Func.isWrapper; first | (rw [if_pos (by decide +kernel)]; kernel_rfl) | (rw [if_neg (by decide +kernel)]; exact ⟨rfl, rfl⟩))
    (fun os started H enc _ => lifted os started H enc)
theorem proved : Rows.NumberGetsSaid := over
#print axioms proved
end Go.Proofs.Ytlnhahnnjbfjdaa.HandNumberGets
namespace Go.Proofs.Ytlnhahnnjbfjdaa
/-- The row, under a short name, for the claim. -/
theorem numberGets_holds : Rows.NumberGetsSaid := HandNumberGets.proved
end Go.Proofs.Ytlnhahnnjbfjdaa
