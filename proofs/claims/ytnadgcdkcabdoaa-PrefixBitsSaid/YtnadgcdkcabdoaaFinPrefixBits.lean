/- A number's bits: for every list of lines and number. -/
import Derived.Test.YtnadgcdkcabdoaaMPrefixBits4
import Derived.Test.YtnadgcdkcabdoaaMPrefixBits1
import Derived.Test.YtnadgcdkcabdoaaMPrefixBits5
import Derived.Test.YtnadgcdkcabdoaaRows
import Derived.WalkKit
import Derived.ProofKit
import Derived.OpenShut
import Derived.ShutString
import Derived.ChangeOld
import Derived.Lib.SmallJoins
import Derived.Below
import Derived.SizedLaws
import Derived.Test.YtnadgcdkcabdoaaMPrefixBits0
namespace Go.Proofs.Ytnadgcdkcabdoaa.HandPrefixBits
open Go Go.RowKit Go.Proofs.Ytnadgcdkcabdoaa.U Go.Proofs.YtnadgcdkcabdoaaW.PrintWords Go.Proofs.YtnadgcdkcabdoaaW.PrintLast Go.Proofs.YtnadgcdkcabdoaaW.PrintMore Go.Proofs.Ytnadgcdkcabdoaa.Aid Go.Proofs.Ytnadgcdkcabdoaa.HandAid Go.Proofs.Ytnadgcdkcabdoaa.Opn Go.Proofs.Ytnadgcdkcabdoaa.Tab Go.Proofs.Ytnadgcdkcabdoaa.Cdx Go.Proofs.Ytnadgcdkcabdoaa.Cdy Go.Proofs.Ytnadgcdkcabdoaa.Cdz Go.Proofs.Ytnadgcdkcabdoaa.Cdb
set_option linter.unusedVariables false
set_option linter.unusedSimpArgs false
open Go.Proofs.Ytnadgcdkcabdoaa
theorem pure_ev (t : List Ln) (nn : Bool) (n : Int) (hn : wf64 n) : Ev (fun k => incunablelaw04_PrefixBits.f k t nn n) true := by
  unfold incunablelaw04_PrefixBits.f
  refine ev_bind (pbits_ev t nn n hn) ?_
  by_cases c : vldP t
  · rw [if_pos c]
    refine ev_bind (ev_eq (rvalid_ev t) (decide_eq_true c)) (ev_pos rfl (ev_bind (rbits_ev t c nn n hn) ?_))
    cases hb : bitsR t nn n with
    | none => exact ev_neg (by decide) (ev_pos rfl (ev_pos rfl (ev_bind awake_ev (Ev.now _))))
    | some b => exact ev_pos rfl (ev_pos rfl (ev_bind (sb_true b (by have := bitsR_len c hb; omega)) (ev_pos rfl (ev_bind awake_ev (Ev.now _)))))
  · rw [if_neg c]
    exact ev_bind (ev_eq (rvalid_ev t) (decide_eq_false c)) (ev_neg (by decide) (ev_pos rfl (ev_pos rfl (ev_bind awake_ev (Ev.now _)))))
theorem walk (w : World) (A : Option Addr) (c : Nat) (t : List Ln) (hle : t.length ≤ c) (hC : Kd.C k32 w A t.length t) (hW : t.length * 32 ≤ 140737488351232 ∧ ∀ x ∈ t, (Lit.int .i64 x.f0).wf = true ∧ (Lit.int .i64 x.f1).wf = true ∧ (Lit.int .i64 x.f2).wf = true ∧ (Lit.int .i64 x.f3).wf = true) (nn : Bool) (n : Int) (hn : (Lit.int .i64 n).wf = true) :
    Calls Try.prog 8 #[.slice A t.length c, .agg #[.bool nn, .int .i64 n]] w fun e w' => e = .returned (.bool true) ∧ Below w.heap.size w w' := by
  obtain ⟨k, h⟩ := Ev.rounds (pure_ev t nn n (wf_i64 hn))
  exact incunablelaw04_PrefixBits.calls k A c t nn n true w hC hle h
open Go.ChangeShapes Go.WideShapes Go.ChangeAt
open Go.ChangeMaps (open_string shut_string)
theorem own : ownKnob Try.prog.godebug = none := by kernel_rfl
theorem laidOut : laidOutB Try.prog = true := by kernel_rfl
def IsRow (k : IntKind) (w : World) (a : Option Addr) (len cap : Nat) (zs : List Int) : Prop :=
  (a = none ∧ len = 0 ∧ cap = 0 ∧ zs = []) ∨
  ∃ x, a = some x ∧ len ≤ cap ∧ cap ≤ maxLen ∧ zs.length = cap ∧ (∀ i, i < zs.length → w.cell? (x.add i) = some (.int k (zs.getD i 0))) ∧ ∀ n ∈ zs, (Lit.int k n).wf = true
set_option maxRecDepth 100000 in
theorem lifted (os : Os) (started : os.Started) (H : Type) (enc : TypeId × Value → H) :
    ReturnsInHanded {} Try.checked os 8 .any (Rows.prefixBitsSpec.pre6 enc Try.prog Try.f8 Rows.prefixBitsRow.domain false) (Rows.prefixBitsSpec.post enc Try.prog Try.f8 false true false false) := by
  refine returnsInHanded_of_change_sized (C := Try.checked) own started (by kernel_rfl) Try.func8
    (ChangeSpec.witness6 (enc := enc) (C := Try.checked) false ⟨#[], #[.slice none 0 0, .agg #[.bool false, .int .i64 0]], []⟩ 8 (by kernel_rfl) (by kernel_rfl) (by kernel_rfl) (by kernel_rfl)) ?_
  intro W base args ds gs before hval0 hW hcnd hsz0 _
  have hsz : (DataW.weightsEach Try.prog (Try.f8.params.toList ++ Rows.prefixBitsSpec.plain.varTypes Try.prog) (ds ++ gs)).all (· ≤ reachBytes) = true := hsz0
  have hval : ∀ (j : Nat) t v, Try.f8.params[j]? = some t → args[j]? = some v → Value.okWide Try.prog W .any base t v := hval0
  have hW' := hW
  obtain ⟨p, q, hA0, hV, rfl, hfz, hnd⟩ := hW
  have hA : DataW.TrodAll enc Try.prog W 0 (fun _ => true) true Try.f8.params.toList args.toList ds p := hA0
  rw [Try.params8] at hA hval hsz
  obtain ⟨v0, vs0, d0, ds0, p0, q0, hargs, rfl, rfl, h0, r0⟩ := trodAll_cons hA
  obtain ⟨v1, vs1, d1, ds1, p1, q1, rfl, rfl, rfl, h1, r1⟩ := trodAll_cons r0
  obtain ⟨rfl, rfl, rfl⟩ := trodAll_nil r1
  obtain rfl : args = #[v0, v1] := by cases args; simp_all
  obtain ⟨rfl, rfl⟩ := trodVars_none hV
  have k0 := h0
  have lt0 : ∀ x ∈ p0, x.block < W.heap.size := by obtain ⟨m, hm⟩ := k0; exact DataW.trod_lt m _ _ _ hm
  obtain ⟨a0, len0, cap0, rfl⟩ := okWide_slice Try.underlying30 (hval 0 30 v0 rfl rfl)
  obtain ⟨x0, ⟨A0, c0, hcs0, l0, g0⟩, w0⟩ := Opn.open_arg (N := 8) (fun n => ((o_slice (B := 32) Try.underlying30 (by kernel_rfl) (show OpensTo _ _ _ k32 _ from o_iso (f := (fun x : S32 => (x.f0, x.f1, x.f2, x.f3))) (fun a => ⟨a.1, a.2.1, a.2.2.1, a.2.2.2⟩) (fun _ => rfl) (o_struct (d := (Kd.pair (Kd.int .i64) (Kd.pair (Kd.int .i64) (Kd.pair (Kd.int .i64) (Kd.int .i64))))) Try.underlying32 (by kernel_rfl) (f_cons rfl (o_int Try.underlying3 (by kernel_rfl)) (f_cons rfl (o_int Try.underlying3 (by kernel_rfl)) (f_cons rfl (o_int Try.underlying3 (by kernel_rfl)) (f_one rfl (o_int Try.underlying3 (by kernel_rfl)))))))) (by kernel_rfl)) : Opn.OpensTo Try.prog (n + 8) 30 _ _)) h0 hsz (j := 0) (t := 30) rfl rfl
  simp only [Value.cells, List.cons.injEq, Value.slice.injEq, and_true] at hcs0
  obtain ⟨rfl, rfl, rfl⟩ := hcs0
  have k1 := h1
  have lt1 : ∀ x ∈ p1, x.block < W.heap.size := by obtain ⟨m, hm⟩ := k1; exact DataW.trod_lt m _ _ _ hm
  obtain ⟨v1_0, v1_1, y1_0, y1_1, n1, rfl, rfl, rfl, t1_0, t1_1⟩ := Go.Joins.open_agg2 Try.underlying48 (by kernel_rfl) (by kernel_rfl) (hval 1 48 v1 rfl rfl) h1
  obtain ⟨a1_0, e1_0, z1_0⟩ := DataW.trod_bool Try.underlying4 t1_0
  obtain rfl : v1_0 = .bool a1_0 := by simpa using e1_0
  obtain ⟨a1_1, e1_1, z1_1, w1_1⟩ := DataW.trod_int Try.underlying3 t1_1
  obtain rfl : v1_1 = .int .i64 a1_1 := by simpa using e1_1
  clear hA0 hval0 hsz0 hsz
  refine (walk W _ _ x0 l0 g0 w0 a1_0 a1_1 w1_1).mono fun e W' ⟨he, bel⟩ => ?_
  subst he
  exact ⟨_, rfl, _, _, _, [], _, [], hW', trodAll_mk1 (shut_bool Try.underlying4 _), (trodAll_cons_mk (Below.trod laidOut (by kernel_rfl) (of_decide_eq_true (by kernel_rfl)) k0 bel lt0) (trodAll_cons_mk (Below.trod laidOut (by kernel_rfl) (of_decide_eq_true (by kernel_rfl)) k1 bel lt1) trodAll_mk0)), rfl, bel.frame _, fun h => by cases h⟩
theorem over : Rows.prefixBitsRow.holds Try.pinned (OpenSpec.ofChange Rows.prefixBitsSpec) :=
  OpenClaim.holds_of_wide 8 Try.f8 rfl rfl rfl rfl rfl rfl rfl ⟨rfl, rfl, rfl, rfl, rfl⟩ rfl rfl rfl rfl rfl (by kernel_rfl) Try.func8 (by kernel_rfl)
    (of_decide_eq_true (by kernel_rfl)) (by unfold Func.isWrapper; first | (rw [if_pos (by decide +kernel)]; kernel_rfl) | (rw [if_neg (by decide +kernel)]; exact ⟨rfl, rfl⟩))
    (fun os started H enc _ => lifted os started H enc)
theorem proved : Rows.PrefixBitsSaid := over
#print axioms proved
end Go.Proofs.Ytnadgcdkcabdoaa.HandPrefixBits
namespace Go.Proofs.Ytnadgcdkcabdoaa
/-- The row, under a short name, for the claim. -/
theorem prefixBits_holds : Rows.PrefixBitsSaid := HandPrefixBits.proved
end Go.Proofs.Ytnadgcdkcabdoaa
