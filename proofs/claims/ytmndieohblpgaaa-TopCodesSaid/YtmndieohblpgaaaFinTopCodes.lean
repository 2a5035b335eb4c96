/- Lists of numbers, coded each by itself and written behind their lengths, are read again one by one, with the sum of all bytes at the end: for all lists and kinds. -/
import Derived.Test.YtmndieohblpgaaaMTopCodes3
import Derived.Test.YtmndieohblpgaaaMTopCodes1
import Derived.Test.YtmndieohblpgaaaMTopCodes2
import Derived.Test.YtmndieohblpgaaaRows
import Derived.WalkKit
import Derived.ProofKit
import Derived.OpenShut
import Derived.ShutString
import Derived.ChangeOld
import Derived.Lib.SmallJoins
import Derived.Below
import Derived.SizedLaws
import Derived.Test.YtmndieohblpgaaaMTopCodes0
namespace Go.Proofs.Ytmndieohblpgaaa.HandTopCodes
open Go Go.RowKit Go.Proofs.Ytmndieohblpgaaa.U Go.Proofs.YtmndieohblpgaaaW.PrintWords Go.Proofs.YtmndieohblpgaaaW.PrintLast Go.Proofs.YtmndieohblpgaaaW.PrintMore Go.Proofs.Ytmndieohblpgaaa.Aid Go.Proofs.Ytmndieohblpgaaa.HandAid Go.Proofs.Ytmndieohblpgaaa.Opn Go.Proofs.Ytmndieohblpgaaa.Bsz Go.Proofs.Ytmndieohblpgaaa.Cod1 Go.Proofs.Ytmndieohblpgaaa.Cod2 Go.Proofs.Ytmndieohblpgaaa.Cod3 Go.Proofs.Ytmndieohblpgaaa.Mod Go.Proofs.Ytmndieohblpgaaa.NewRef Go.Proofs.Ytmndieohblpgaaa.Enc Go.Proofs.Ytmndieohblpgaaa.Mods Go.Proofs.Ytmndieohblpgaaa.EncAt Go.Proofs.Ytmndieohblpgaaa.Put Go.Proofs.Ytmndieohblpgaaa.End Go.Proofs.Ytmndieohblpgaaa.Snc Go.Proofs.Ytmndieohblpgaaa.Num Go.Proofs.Ytmndieohblpgaaa.Evs Go.Proofs.Ytmndieohblpgaaa.RefEvs Go.Proofs.Ytmndieohblpgaaa.Sane Go.Proofs.Ytmndieohblpgaaa.Pse Go.Proofs.Ytmndieohblpgaaa.Npu Go.Proofs.Ytmndieohblpgaaa.Nen Go.Proofs.Ytmndieohblpgaaa.Dec Go.Proofs.Ytmndieohblpgaaa.Get Go.Proofs.Ytmndieohblpgaaa.DecNew Go.Proofs.Ytmndieohblpgaaa.Bkp Go.Proofs.Ytmndieohblpgaaa.Ngt Go.Proofs.Ytmndieohblpgaaa.Nwk Go.Proofs.Ytmndieohblpgaaa.Nfo Go.Proofs.Ytmndieohblpgaaa.Ndc Go.Proofs.Ytmndieohblpgaaa.Ned Go.Proofs.Ytmndieohblpgaaa.Tcd
set_option linter.unusedVariables false
set_option linter.unusedSimpArgs false
open Go.Proofs.Ytmndieohblpgaaa Go.Proofs.Ytmndieohblpgaaa.U Go.Proofs.Ytmndieohblpgaaa.Tcd
theorem walk (w : World) (A : Option Addr) (c : Nat) (L : List (List S28)) (hle : L.length ≤ c) (hC : Kd.C (Kd.slice 28 k28) w A L.length L) {P3 : S28 → Prop} (hW : L.length * 24 ≤ 140737488351232 ∧ ∀ x ∈ L, x.length * 16 ≤ 140737488351232 ∧ ∀ y ∈ x, P3 y)
    (A1 : Option Addr) (c1 : Nat) (K : List Int) (hC1 : Kd.C (Kd.int .i64) w A1 K.length K) (hc1 : K.length ≤ c1) {P4 : Prop} (y1 : P4) {P5 : Prop} (hw1 : P5) :
    Calls Try.prog 3 #[.slice A L.length c, .slice A1 K.length c1] w fun e w' => e = .returned (.bool true) ∧ Below w.heap.size w w' := by
  have hlen : ∀ i : Nat, (rd_L4 L (i : Int)).length ≤ 140737488351232 := fun i => by
    unfold rd_L4
    rw [Int.toNat_natCast, List.getD_eq_getElem?_getD]
    rcases Nat.lt_or_ge i L.length with h | h
    · rw [List.getElem?_eq_getElem h]
      have := (hW.2 L[i] (List.getElem_mem h)).1
      show L[i].length ≤ _
      omega
    · rw [List.getElem?_eq_none h]
      exact Nat.zero_le _
  obtain ⟨k, hk⟩ := codes_ev L K hlen (by have := hW.1; omega)
  exact incunabletop_TopCodes.calls k A c L A1 c1 K true w hC hle hC1 hc1 (hk k (Nat.le_refl _))
open Go.ChangeShapes Go.WideShapes Go.ChangeAt
open Go.ChangeMaps (open_string shut_string)
theorem own : ownKnob Try.prog.godebug = none := by kernel_rfl
theorem laidOut : laidOutB Try.prog = true := by kernel_rfl
def IsRow (k : IntKind) (w : World) (a : Option Addr) (len cap : Nat) (zs : List Int) : Prop :=
  (a = none ∧ len = 0 ∧ cap = 0 ∧ zs = []) ∨
  ∃ x, a = some x ∧ len ≤ cap ∧ cap ≤ maxLen ∧ zs.length = cap ∧ (∀ i, i < zs.length → w.cell? (x.add i) = some (.int k (zs.getD i 0))) ∧ ∀ n ∈ zs, (Lit.int k n).wf = true
set_option maxRecDepth 100000 in
theorem lifted (os : Os) (started : os.Started) (H : Type) (enc : TypeId × Value → H) :
    ReturnsInHanded {} Try.checked os 3 .any (Rows.topCodesSpec.pre6 enc Try.prog Try.f3 Rows.topCodesRow.domain false) (Rows.topCodesSpec.post enc Try.prog Try.f3 false true false false) := by
  refine returnsInHanded_of_change_sized (C := Try.checked) own started (by kernel_rfl) Try.func3
    (ChangeSpec.witness6 (enc := enc) (C := Try.checked) false ⟨#[], #[.slice none 0 0, .slice none 0 0], []⟩ 8 (by kernel_rfl) (by kernel_rfl) (by kernel_rfl) (by kernel_rfl)) ?_
  intro W base args ds gs before hval0 hW hcnd hsz0 _
  have hsz : (DataW.weightsEach Try.prog (Try.f3.params.toList ++ Rows.topCodesSpec.plain.varTypes Try.prog) (ds ++ gs)).all (· ≤ reachBytes) = true := hsz0
  have hval : ∀ (j : Nat) t v, Try.f3.params[j]? = some t → args[j]? = some v → Value.okWide Try.prog W .any base t v := hval0
  have hW' := hW
  obtain ⟨p, q, hA0, hV, rfl, hfz, hnd⟩ := hW
  have hA : DataW.TrodAll enc Try.prog W 0 (fun _ => true) true Try.f3.params.toList args.toList ds p := hA0
  rw [Try.params3] at hA hval hsz
  obtain ⟨v0, vs0, d0, ds0, p0, q0, hargs, rfl, rfl, h0, r0⟩ := trodAll_cons hA
  obtain ⟨v1, vs1, d1, ds1, p1, q1, rfl, rfl, rfl, h1, r1⟩ := trodAll_cons r0
  obtain ⟨rfl, rfl, rfl⟩ := trodAll_nil r1
  obtain rfl : args = #[v0, v1] := by cases args; simp_all
  obtain ⟨rfl, rfl⟩ := trodVars_none hV
  have k0 := h0
  have lt0 : ∀ x ∈ p0, x.block < W.heap.size := by obtain ⟨m, hm⟩ := k0; exact DataW.trod_lt m _ _ _ hm
  obtain ⟨a0, len0, cap0, rfl⟩ := okWide_slice Try.underlying22 (hval 0 22 v0 rfl rfl)
  obtain ⟨x0, ⟨A0, c0, hcs0, l0, g0⟩, w0⟩ := Opn.open_arg (N := 8) (fun n => ((o_slice (B := 24) Try.underlying22 (by kernel_rfl) (o_slice (B := 16) Try.underlying25 (by kernel_rfl) (show OpensTo _ _ _ k28 _ from o_iso (f := (fun x : S28 => (x.f0, x.f1))) (fun a => ⟨a.1, a.2⟩) (fun _ => rfl) (o_struct (d := (Kd.pair Kd.bool (Kd.int .i64))) Try.underlying28 (by kernel_rfl) (f_cons rfl (o_bool Try.underlying4 (by kernel_rfl)) (f_one rfl (o_int Try.underlying3 (by kernel_rfl)))))) (by kernel_rfl)) (by kernel_rfl)) : Opn.OpensTo Try.prog (n + 8) 22 _ _)) h0 hsz (j := 0) (t := 22) rfl rfl
  simp only [Value.cells, List.cons.injEq, Value.slice.injEq, and_true] at hcs0
  obtain ⟨rfl, rfl, rfl⟩ := hcs0
  obtain ⟨a1, len1, cap1, rfl⟩ := okWide_slice Try.underlying23 (hval 1 23 v1 rfl rfl)
  have k1 := h1
  have lt1 : ∀ x ∈ p1, x.block < W.heap.size := by obtain ⟨m, hm⟩ := k1; exact DataW.trod_lt m _ _ _ hm
  obtain ⟨z1, w1⟩ : ∃ zs, IsRow .i64 W a1 len1 cap1 zs := by
    obtain ⟨fuel, hf⟩ := h1
    rcases open_ints Try.underlying23 Try.underlying3 (by kernel_rfl) hf with ⟨hcs, _⟩ | ⟨x, l, c, zs, hcs, _, hl, hm, hz, _, hcell, hwz⟩
    · simp [Value.cells] at hcs
      obtain ⟨rfl, rfl, rfl⟩ := hcs
      exact ⟨[], .inl ⟨rfl, rfl, rfl, rfl⟩⟩
    · simp [Value.cells] at hcs
      obtain ⟨rfl, rfl, rfl⟩ := hcs
      exact ⟨zs, .inr ⟨_, rfl, hl, hm, by simpa using hz, hcell, hwz⟩⟩
  have y1 : len1 * 8 ≤ 140737488351232 := sized_ints hsz (j := 1) (t := 23) rfl rfl Try.underlying23 Try.underlying3 (by kernel_rfl) (by kernel_rfl) h1
  obtain ⟨l1, rfl, hr1, hm1, hw1, hc1⟩ := ReadsInt.ofRowC w1
  clear hA0 hval0 hsz0 hsz
  refine (walk W _ _ x0 l0 g0 w0 _ _ l1 (Kd.C_of_reads (d := (0 : Int)) (h1 := fun _ => rfl) hr1) hc1 y1 hw1).mono fun e W' ⟨he, bel⟩ => ?_
  subst he
  exact ⟨_, rfl, _, _, _, [], _, [], hW', trodAll_mk1 (shut_bool Try.underlying4 _), (trodAll_cons_mk (Below.trod laidOut (by kernel_rfl) (of_decide_eq_true (by kernel_rfl)) k0 bel lt0) (trodAll_cons_mk (Below.trod laidOut (by kernel_rfl) (of_decide_eq_true (by kernel_rfl)) k1 bel lt1) trodAll_mk0)), rfl, bel.frame _, fun h => by cases h⟩
theorem over : Rows.topCodesRow.holds Try.pinned (OpenSpec.ofChange Rows.topCodesSpec) :=
  OpenClaim.holds_of_wide 3 Try.f3 rfl rfl rfl rfl rfl rfl rfl ⟨rfl, rfl, rfl, rfl, rfl⟩ rfl rfl rfl rfl rfl (by kernel_rfl) Try.func3 (by kernel_rfl)
    (of_decide_eq_true (by kernel_rfl)) (by unfold Func.isWrapper; first | (rw [if_pos (by decide +kernel)]; kernel_rfl) | (rw [if_neg (by decide +kernel)]; exact ⟨rfl, rfl⟩))
    (fun os started H enc _ => lifted os started H enc)
theorem proved : Rows.TopCodesSaid := over
#print axioms proved
end Go.Proofs.Ytmndieohblpgaaa.HandTopCodes
namespace Go.Proofs.Ytmndieohblpgaaa
/-- The row, under a short name, for the claim. -/
theorem topCodes_holds : Rows.TopCodesSaid := HandTopCodes.proved
end Go.Proofs.Ytmndieohblpgaaa
