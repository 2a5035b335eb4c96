/- The numbers that any bytes have: for every list of lines, list of bytes and number. -/
import Derived.Test.YtnadgcdkcabdoaaMPrefixDecodes4
import Derived.Test.YtnadgcdkcabdoaaMPrefixDecodes1
import Derived.Test.YtnadgcdkcabdoaaMPrefixDecodes2
import Derived.Test.YtnadgcdkcabdoaaMPrefixDecodes3
import Derived.Test.YtnadgcdkcabdoaaRows
import Derived.WalkKit
import Derived.ProofKit
import Derived.OpenShut
import Derived.ShutString
import Derived.ChangeOld
import Derived.Lib.SmallJoins
import Derived.Below
import Derived.SizedLaws
import Derived.Test.YtnadgcdkcabdoaaMPrefixDecodes0
namespace Go.Proofs.Ytnadgcdkcabdoaa.HandPrefixDecodes
open Go Go.RowKit Go.Proofs.Ytnadgcdkcabdoaa.U Go.Proofs.YtnadgcdkcabdoaaW.PrintWords Go.Proofs.YtnadgcdkcabdoaaW.PrintLast Go.Proofs.YtnadgcdkcabdoaaW.PrintMore Go.Proofs.Ytnadgcdkcabdoaa.Aid Go.Proofs.Ytnadgcdkcabdoaa.HandAid Go.Proofs.Ytnadgcdkcabdoaa.Opn Go.Proofs.Ytnadgcdkcabdoaa.Tab Go.Proofs.Ytnadgcdkcabdoaa.Cdx Go.Proofs.Ytnadgcdkcabdoaa.Cdy Go.Proofs.Ytnadgcdkcabdoaa.Cdz Go.Proofs.Ytnadgcdkcabdoaa.Cdb Go.Proofs.Ytnadgcdkcabdoaa.Cpl Go.Proofs.Ytnadgcdkcabdoaa.Rdp Go.Proofs.Ytnadgcdkcabdoaa.Mpp Go.Proofs.Ytnadgcdkcabdoaa.Dcm Go.Proofs.Ytnadgcdkcabdoaa.Nrd Go.Proofs.Ytnadgcdkcabdoaa.Nbr Go.Proofs.Ytnadgcdkcabdoaa.Nbw Go.Proofs.Ytnadgcdkcabdoaa.Dwk Go.Proofs.Ytnadgcdkcabdoaa.Gdc Go.Proofs.Ytnadgcdkcabdoaa.Tke Go.Proofs.Ytnadgcdkcabdoaa.Tkw Go.Proofs.Ytnadgcdkcabdoaa.Dcq Go.Proofs.Ytnadgcdkcabdoaa.Dcw
set_option linter.unusedVariables false
set_option linter.unusedSimpArgs false
open Go.Proofs.Ytnadgcdkcabdoaa Go.Proofs.Ytnadgcdkcabdoaa.Dwk Go.Proofs.Ytnadgcdkcabdoaa.Dcq Go.Proofs.Ytnadgcdkcabdoaa.Dcw
theorem skip_ev (t : List Ln) (b : List Int) (n : Int) : Ev (fun k => incunablelaw04_PrefixDecodes.j0 k t b n true) true := by
  refine ev_succ ?_
  unfold incunablelaw04_PrefixDecodes.j0
  exact ev_pos rfl (ev_bind awake_ev (Ev.now _))
theorem do_ev (t : List Ln) (b : List Int) (n : Int) (hb : Bytes b) (hl : b.length ≤ 140737488351232) : Ev (fun k => incunablelaw04_PrefixDecodes.j0 k t b n false) true := by
  have hall : (b.all fun x => decide (0 ≤ x ∧ x ≤ 255)) = true := List.all_eq_true.2 fun x hx => decide_eq_true (hb x hx)
  have hdec : prefix_Decode.f t b n = some (decP t b n) := by
    unfold prefix_Decode.f
    exact if_pos ⟨hall, by omega⟩
  have hlen : (decP t b n).1.length ≤ 9223372036854775807 := by
    unfold decP
    split
    · split
      · exact Nat.zero_le _
      · have := decL_len t b n.toNat 0 []
        simp only [List.length_nil] at this
        omega
    · exact Nat.zero_le _
  refine ev_succ ?_
  unfold incunablelaw04_PrefixDecodes.j0
  exact ev_neg (by decide) (ev_pure hdec (ev_bind (rdec_ev t b hall (by omega) n) (ev_pos rfl (ev_pos rfl (ev_bind (sn_true _ hlen) (ev_pos rfl (ev_bind awake_ev (Ev.now _))))))))
theorem pure_ev (t : List Ln) (b : List Int) (n : Int) (hb : Bytes b) (hl : b.length ≤ 140737488351232) : Ev (fun k => incunablelaw04_PrefixDecodes.f k t b n) true := by
  unfold incunablelaw04_PrefixDecodes.f
  by_cases c : (b.length : Int) > 100000
  · exact ev_pos c (skip_ev t b n)
  · refine ev_neg c ?_
    by_cases n1 : n > 3000
    · refine ev_pos n1 ?_
      by_cases n2 : n ≤ 20000
      · rw [decide_eq_true n2]; exact skip_ev t b n
      · rw [decide_eq_false n2]; exact do_ev t b n hb hl
    · exact ev_neg n1 (do_ev t b n hb hl)
theorem walk (w : World) (A : Option Addr) (c : Nat) (t : List Ln) (hle : t.length ≤ c) (hC : Kd.C k32 w A t.length t) (hW : t.length * 32 ≤ 140737488351232 ∧ ∀ x ∈ t, (Lit.int .i64 x.f0).wf = true ∧ (Lit.int .i64 x.f1).wf = true ∧ (Lit.int .i64 x.f2).wf = true ∧ (Lit.int .i64 x.f3).wf = true)
    (A2 : Option Addr) (c2 : Nat) (b : List Int) (hC2 : Kd.C (Kd.int .u8) w A2 b.length b) (hc2 : b.length ≤ c2) (y2 : b.length * 1 ≤ 140737488351232) (hw2 : ∀ x ∈ b, (Lit.int .u8 x).wf = true) (n : Int) (hn : (Lit.int .i64 n).wf = true) :
    Calls Try.prog 10 #[.slice A t.length c, .slice A2 b.length c2, .int .i64 n] w fun e w' => e = .returned (.bool true) ∧ Below w.heap.size w w' := by
  have hn2 := wf_i64 hn
  obtain ⟨k, h⟩ := Ev.rounds (pure_ev t b n (bytes_of hw2) (by omega))
  exact incunablelaw04_PrefixDecodes.calls k A c t A2 c2 b n true w hC hle hC2 hc2 h
open Go.ChangeShapes Go.WideShapes Go.ChangeAt
open Go.ChangeMaps (open_string shut_string)
theorem own : ownKnob Try.prog.godebug = none := by kernel_rfl
theorem laidOut : laidOutB Try.prog = true := by kernel_rfl
def IsRow (k : IntKind) (w : World) (a : Option Addr) (len cap : Nat) (zs : List Int) : Prop :=
  (a = none ∧ len = 0 ∧ cap = 0 ∧ zs = []) ∨
  ∃ x, a = some x ∧ len ≤ cap ∧ cap ≤ maxLen ∧ zs.length = cap ∧ (∀ i, i < zs.length → w.cell? (x.add i) = some (.int k (zs.getD i 0))) ∧ ∀ n ∈ zs, (Lit.int k n).wf = true
set_option maxRecDepth 100000 in
theorem lifted (os : Os) (started : os.Started) (H : Type) (enc : TypeId × Value → H) :
    ReturnsInHanded {} Try.checked os 10 .any (Rows.prefixDecodesSpec.pre6 enc Try.prog Try.f10 Rows.prefixDecodesRow.domain false) (Rows.prefixDecodesSpec.post enc Try.prog Try.f10 false true false false) := by
  refine returnsInHanded_of_change_sized (C := Try.checked) own started (by kernel_rfl) Try.func10
    (ChangeSpec.witness6 (enc := enc) (C := Try.checked) false ⟨#[], #[.slice none 0 0, .slice none 0 0, .int .i64 0], []⟩ 8 (by kernel_rfl) (by kernel_rfl) (by kernel_rfl) (by kernel_rfl)) ?_
  intro W base args ds gs before hval0 hW hcnd hsz0 _
  have hsz : (DataW.weightsEach Try.prog (Try.f10.params.toList ++ Rows.prefixDecodesSpec.plain.varTypes Try.prog) (ds ++ gs)).all (· ≤ reachBytes) = true := hsz0
  have hval : ∀ (j : Nat) t v, Try.f10.params[j]? = some t → args[j]? = some v → Value.okWide Try.prog W .any base t v := hval0
  have hW' := hW
  obtain ⟨p, q, hA0, hV, rfl, hfz, hnd⟩ := hW
  have hA : DataW.TrodAll enc Try.prog W 0 (fun _ => true) true Try.f10.params.toList args.toList ds p := hA0
  rw [Try.params10] at hA hval hsz
  obtain ⟨v0, vs0, d0, ds0, p0, q0, hargs, rfl, rfl, h0, r0⟩ := trodAll_cons hA
  obtain ⟨v1, vs1, d1, ds1, p1, q1, rfl, rfl, rfl, h1, r1⟩ := trodAll_cons r0
  obtain ⟨v2, vs2, d2, ds2, p2, q2, rfl, rfl, rfl, h2, r2⟩ := trodAll_cons r1
  obtain ⟨rfl, rfl, rfl⟩ := trodAll_nil r2
  obtain rfl : args = #[v0, v1, v2] := by cases args; simp_all
  obtain ⟨rfl, rfl⟩ := trodVars_none hV
  have k0 := h0
  have lt0 : ∀ x ∈ p0, x.block < W.heap.size := by obtain ⟨m, hm⟩ := k0; exact DataW.trod_lt m _ _ _ hm
  obtain ⟨a0, len0, cap0, rfl⟩ := okWide_slice Try.underlying30 (hval 0 30 v0 rfl rfl)
  obtain ⟨x0, ⟨A0, c0, hcs0, l0, g0⟩, w0⟩ := Opn.open_arg (N := 8) (fun n => ((o_slice (B := 32) Try.underlying30 (by kernel_rfl) (show OpensTo _ _ _ k32 _ from o_iso (f := (fun x : S32 => (x.f0, x.f1, x.f2, x.f3))) (fun a => ⟨a.1, a.2.1, a.2.2.1, a.2.2.2⟩) (fun _ => rfl) (o_struct (d := (Kd.pair (Kd.int .i64) (Kd.pair (Kd.int .i64) (Kd.pair (Kd.int .i64) (Kd.int .i64))))) Try.underlying32 (by kernel_rfl) (f_cons rfl (o_int Try.underlying3 (by kernel_rfl)) (f_cons rfl (o_int Try.underlying3 (by kernel_rfl)) (f_cons rfl (o_int Try.underlying3 (by kernel_rfl)) (f_one rfl (o_int Try.underlying3 (by kernel_rfl)))))))) (by kernel_rfl)) : Opn.OpensTo Try.prog (n + 8) 30 _ _)) h0 hsz (j := 0) (t := 30) rfl rfl
  simp only [Value.cells, List.cons.injEq, Value.slice.injEq, and_true] at hcs0
  obtain ⟨rfl, rfl, rfl⟩ := hcs0
  obtain ⟨a1, len1, cap1, rfl⟩ := okWide_slice Try.underlying46 (hval 1 46 v1 rfl rfl)
  have k1 := h1
  have lt1 : ∀ x ∈ p1, x.block < W.heap.size := by obtain ⟨m, hm⟩ := k1; exact DataW.trod_lt m _ _ _ hm
  obtain ⟨z1, w1⟩ : ∃ zs, IsRow .u8 W a1 len1 cap1 zs := by
    obtain ⟨fuel, hf⟩ := h1
    rcases open_ints Try.underlying46 Try.underlying5 (by kernel_rfl) hf with ⟨hcs, _⟩ | ⟨x, l, c, zs, hcs, _, hl, hm, hz, _, hcell, hwz⟩
    · simp [Value.cells] at hcs
      obtain ⟨rfl, rfl, rfl⟩ := hcs
      exact ⟨[], .inl ⟨rfl, rfl, rfl, rfl⟩⟩
    · simp [Value.cells] at hcs
      obtain ⟨rfl, rfl, rfl⟩ := hcs
      exact ⟨zs, .inr ⟨_, rfl, hl, hm, by simpa using hz, hcell, hwz⟩⟩
  have y1 : len1 * 1 ≤ 140737488351232 := sized_ints hsz (j := 1) (t := 46) rfl rfl Try.underlying46 Try.underlying5 (by kernel_rfl) (by kernel_rfl) h1
  obtain ⟨l1, rfl, hr1, hm1, hw1, hc1⟩ := ReadsInt.ofRowC w1
  obtain ⟨a2, rfl, rfl, rfl, w2⟩ := open_int Try.underlying3 (hval 2 3 v2 rfl rfl) h2
  clear hA0 hval0 hsz0 hsz
  refine (walk W _ _ x0 l0 g0 w0 _ _ l1 (Kd.C_of_reads (d := (0 : Int)) (h1 := fun _ => rfl) hr1) hc1 y1 hw1 a2 w2).mono fun e W' ⟨he, bel⟩ => ?_
  subst he
  exact ⟨_, rfl, _, _, _, [], _, [], hW', trodAll_mk1 (shut_bool Try.underlying4 _), (trodAll_cons_mk (Below.trod laidOut (by kernel_rfl) (of_decide_eq_true (by kernel_rfl)) k0 bel lt0) (trodAll_cons_mk (Below.trod laidOut (by kernel_rfl) (of_decide_eq_true (by kernel_rfl)) k1 bel lt1) (trodAll_cons_mk (shut_int Try.underlying3 w2) trodAll_mk0))), rfl, bel.frame _, fun h => by cases h⟩
theorem over : Rows.prefixDecodesRow.holds Try.pinned (OpenSpec.ofChange Rows.prefixDecodesSpec) :=
  OpenClaim.holds_of_wide 10 Try.f10 rfl rfl rfl rfl rfl rfl rfl ⟨rfl, rfl, rfl, rfl, rfl⟩ rfl rfl rfl rfl rfl (by kernel_rfl) Try.func10 (by kernel_rfl)
    (of_decide_eq_true (by kernel_rfl)) (by unfold Func.isWrapper; first | (rw [if_pos (by decide +kernel)]; kernel_rfl) | (rw [if_neg (by decide +kernel)]; exact ⟨rfl, rfl⟩))
    (fun os started H enc _ => lifted os started H enc)
theorem proved : Rows.PrefixDecodesSaid := over
#print axioms proved
end Go.Proofs.Ytnadgcdkcabdoaa.HandPrefixDecodes
namespace Go.Proofs.Ytnadgcdkcabdoaa
/-- The row, under a short name, for the claim. -/
theorem prefixDecodes_holds : Rows.PrefixDecodesSaid := HandPrefixDecodes.proved
end Go.Proofs.Ytnadgcdkcabdoaa
