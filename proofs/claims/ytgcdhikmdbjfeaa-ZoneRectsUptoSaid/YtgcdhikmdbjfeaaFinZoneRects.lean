/- The rectangles of a part of the text, and the words: for all hidden texts of bulk at most 1048576 and all parts. -/
import Derived.Test.YtgcdhikmdbjfeaaMZoneRects5
import Derived.Test.YtgcdhikmdbjfeaaMZoneRects1
import Derived.Test.YtgcdhikmdbjfeaaMZoneRects2
import Derived.Test.YtgcdhikmdbjfeaaMZoneRects3
import Derived.Test.YtgcdhikmdbjfeaaMZoneRects4
import Derived.Test.YtgcdhikmdbjfeaaRows
import Derived.WalkKit
import Derived.ProofKit
import Derived.OpenShut
import Derived.ShutString
import Derived.ChangeOld
import Derived.Lib.SmallJoins
import Derived.Below
import Derived.SizedLaws
import Derived.Deep.CondSized
import Derived.Test.YtgcdhikmdbjfeaaMZoneRects0
namespace Go.Proofs.Ytgcdhikmdbjfeaa.HandZoneRects
open Go Go.RowKit Go.Proofs.Ytgcdhikmdbjfeaa.U Go.Proofs.YtgcdhikmdbjfeaaW.PrintWords Go.Proofs.YtgcdhikmdbjfeaaW.PrintLast Go.Proofs.YtgcdhikmdbjfeaaW.PrintMore Go.Proofs.Ytgcdhikmdbjfeaa.Aid Go.Proofs.Ytgcdhikmdbjfeaa.HandAid Go.Proofs.Ytgcdhikmdbjfeaa.Mods Go.Proofs.Ytgcdhikmdbjfeaa.Opn Go.Proofs.Ytgcdhikmdbjfeaa.Zpl Go.Proofs.Ytgcdhikmdbjfeaa.Zrt Go.Proofs.Ytgcdhikmdbjfeaa.Zvd Go.Proofs.Ytgcdhikmdbjfeaa.Zix Go.Proofs.Ytgcdhikmdbjfeaa.Zev Go.Proofs.Ytgcdhikmdbjfeaa.Zfi Go.Proofs.Ytgcdhikmdbjfeaa.Zaw Go.Proofs.Ytgcdhikmdbjfeaa.Zat Go.Proofs.Ytgcdhikmdbjfeaa.Zea Go.Proofs.Ytgcdhikmdbjfeaa.Zwd Go.Proofs.Ytgcdhikmdbjfeaa.Zre Go.Proofs.Ytgcdhikmdbjfeaa.Zle Go.Proofs.Ytgcdhikmdbjfeaa.Opz Go.Proofs.Ytgcdhikmdbjfeaa.Csh
set_option linter.unusedVariables false
set_option linter.unusedSimpArgs false
open Go.Proofs.Ytgcdhikmdbjfeaa Go.Proofs.Ytgcdhikmdbjfeaa.U Go.Proofs.Ytgcdhikmdbjfeaa.Zpl Go.Proofs.Ytgcdhikmdbjfeaa.Zix Go.Proofs.Ytgcdhikmdbjfeaa.Zev Go.Proofs.Ytgcdhikmdbjfeaa.Zfi Go.Proofs.Ytgcdhikmdbjfeaa.Zwd Go.Proofs.Ytgcdhikmdbjfeaa.Zre Go.Proofs.Ytgcdhikmdbjfeaa.Zle
theorem pure_law (t : List Int) (z : List Zn) (x y : Int) (hz : cnt z ≤ 1048576) : Ev (fun k => incunablelaw24_ZoneRects.f k t z x y) true := by
  unfold incunablelaw24_ZoneRects.f
  obtain ⟨b, hb, _⟩ := large_ev t z
  refine ev_bind hb ?_
  have aw : Ev (fun _ : Nat => incunablelaw24_Awake.f) true := ev_const rfl
  cases b
  · refine ev_neg (by simp) (ev_pure (show zone_Rects.f t z x y = some (rcsP t z x y) from rfl) (ev_bind (rrects_ev t z x y (by omega)) (ev_pure (show zone_Words.f t z = some (wdsP t z) from rfl) (ev_bind (rwords_ev t z (by omega)) (ev_pos rfl ?_)))))
    have h1 := rcsP_len t z x y
    have h2 := wdsP_len t z
    exact ev_bind (rects_self _ (by omega)) (ev_pos rfl (ev_pos rfl (ev_bind (pairs_self _ (by omega)) (ev_pos rfl (ev_bind aw (ev_const rfl))))))
  · exact ev_pos rfl (ev_bind aw (ev_const rfl))
theorem walk (w : World) (hGG : GG w) (A0 : Option Addr) (c0 : Nat) (t : List Int) (hc0 : t.length ≤ c0) (hr0 : Kd.C (Kd.int .u8) w A0 t.length t) (hw0 : t.length * 1 ≤ 140737488351232 ∧ ∀ y ∈ t, (Lit.int .u8 y).wf = true) (A1 : Option Addr) (c1 : Nat) (z : List Zn) (hc1 : z.length ≤ c1) (hr1 : Kd.C k62 w A1 z.length z) (hz : z.length * 80 ≤ 140737488351232) (hu : cnt z ≤ 1048576) (x : Int) (hx : (Lit.int .i64 x).wf = true) (y : Int) (hy : (Lit.int .i64 y).wf = true) :
    Calls Try.prog 7 #[.agg #[.slice A0 t.length c0, .slice A1 z.length c1], .int .i64 x, .int .i64 y] w fun e w' => e = .returned (.bool true) ∧ Below w.heap.size w w' := by
  obtain ⟨k, hk⟩ := pure_law t z x y hu
  exact incunablelaw24_ZoneRects.calls k A0 c0 t A1 c1 z x y true w hGG hr0 hc0 hr1 hc1 (hk k (Nat.le_refl _))
open Go.ChangeShapes Go.WideShapes Go.ChangeAt
open Go.ChangeMaps (open_string shut_string)
theorem own : ownKnob Try.prog.godebug = none := by kernel_rfl
theorem laidOut : laidOutB Try.prog = true := by kernel_rfl
def IsRow (k : IntKind) (w : World) (a : Option Addr) (len cap : Nat) (zs : List Int) : Prop :=
  (a = none ∧ len = 0 ∧ cap = 0 ∧ zs = []) ∨
  ∃ x, a = some x ∧ len ≤ cap ∧ cap ≤ maxLen ∧ zs.length = cap ∧ (∀ i, i < zs.length → w.cell? (x.add i) = some (.int k (zs.getD i 0))) ∧ ∀ n ∈ zs, (Lit.int k n).wf = true
theorem bulk_one {H : Type} (d : DataW H) : 1 ≤ Rows.uptoBulk d := by
  cases d with
  | lit x => cases x <;> simp [Rows.uptoBulk]
  | _ => simp [Rows.uptoBulk]
theorem bulk_all {H : Type} : ∀ l : List (DataW H), l.length ≤ Rows.uptoBulkAll l
  | [] => Nat.zero_le _
  | d :: l => by
    have h1 := bulk_one d
    have h2 := bulk_all l
    simp only [Rows.uptoBulkAll, List.length_cons]
    omega
theorem bulk_slice {H : Type} (elems spare : List (DataW H)) : elems.length ≤ Rows.uptoBulk (.slice elems spare) := by
  have h1 := bulk_all elems
  simp only [Rows.uptoBulk]
  omega
set_option maxRecDepth 100000 in
theorem lifted (os : Os) (started : os.Started) (H : Type) (enc : TypeId × Value → H) (F0 : Stop.Interp) :
    ReturnsInHanded {} Try.checked os 7 .any ((Rows.OpenSpec.upto Rows.zoneRectsSpec).pre6 enc Try.prog Try.f7 Rows.zoneRectsUptoRow.domain false) (((Rows.OpenSpec.upto Rows.zoneRectsSpec).at F0).post enc Try.prog Try.f7 false true false false) := by
  refine Csh.handed_cond_shaped (C := Try.checked) (s := Rows.OpenSpec.upto Rows.zoneRectsSpec) (k := Rows.uptoSmall) rfl own started (by kernel_rfl) Try.func7
    (OpenSpec.witness (enc := enc) (C := Try.checked) (s := Rows.OpenSpec.upto Rows.zoneRectsSpec) (k := Rows.uptoSmall) rfl false ⟨#[], #[.agg #[.slice none 0 0, .slice none 0 0], .int .i64 0, .int .i64 0], []⟩ 8 (by kernel_rfl) (by kernel_rfl) (by kernel_rfl) (x := ([.agg [.nil, .nil], .lit (.int .i64 0), .lit (.int .i64 0)], [], [])) (by kernel_rfl) (by kernel_rfl) (by kernel_rfl)) ?_
  intro W base args ds gs before hval0 hW hcnd hk0 hsz0 hsh _
  have hsz : (DataW.weightsEach Try.prog (Try.f7.params.toList ++ Rows.zoneRectsSpec.plain.varTypes Try.prog) (ds ++ gs)).all (· ≤ reachBytes) = true := hsz0
  have hval : ∀ (j : Nat) t v, Try.f7.params[j]? = some t → args[j]? = some v → Value.okWide Try.prog W .any base t v := hval0
  have hW' := hW
  obtain ⟨p, q, hA0, hV, rfl, hfz, hnd⟩ := hW
  have hA : DataW.TrodAll enc Try.prog W 0 (fun _ => true) true Try.f7.params.toList args.toList ds p := hA0
  rw [Try.params7] at hA hval hsz
  obtain ⟨v0, vs0, d0, ds0, p0, q0, hargs, rfl, rfl, h0, r0⟩ := trodAll_cons hA
  obtain ⟨v1, vs1, d1, ds1, p1, q1, rfl, rfl, rfl, h1, r1⟩ := trodAll_cons r0
  obtain ⟨v2, vs2, d2, ds2, p2, q2, rfl, rfl, rfl, h2, r2⟩ := trodAll_cons r1
  obtain ⟨rfl, rfl, rfl⟩ := trodAll_nil r2
  obtain rfl : args = #[v0, v1, v2] := by cases args; simp_all
  obtain ⟨rfl, rfl⟩ := trodVars_none hV
  have hbulk := of_decide_eq_true hk0
  simp only [List.append_nil, Rows.uptoBulkAll] at hbulk
  have k0 := h0
  have lt0 : ∀ x ∈ p0, x.block < W.heap.size := by obtain ⟨m, hm⟩ := k0; exact DataW.trod_lt m _ _ _ hm
  obtain ⟨cs0, rfl, csz0⟩ := okWide_struct Try.underlying25 (hval 0 25 v0 rfl rfl)
  obtain ⟨⟨t0, z0⟩, ⟨_, _, hcs0, ⟨A0, c0, rfl, l0, g0⟩, ⟨B0, e0, rfl, n0, q0⟩⟩, w0, m0⟩ := Opz.open_argB (N := 8) (fun n => (Opz.hidden_opens (n + 5) : Opz.OpensB Try.prog (n + 8) 25 _ _ _)) h0 hsz (j := 0) (t := 25) rfl rfl
  obtain rfl : cs0 = #[.slice A0 t0.length c0, .slice B0 z0.length e0] := by rw [← Array.toList_inj]; exact hcs0
  have m0' : (t0.map fun _ => 1).sum + (z0.map fun z => (Zpl.cnt [z]).toNat).sum + 1 ≤ _ := m0
  have u0 : Zpl.cnt z0 ≤ 1048576 := by rw [Opz.cnt_sum]; omega
  obtain ⟨a1, rfl, rfl, rfl, w1⟩ := open_int Try.underlying3 (hval 1 3 v1 rfl rfl) h1
  obtain ⟨a2, rfl, rfl, rfl, w2⟩ := open_int Try.underlying3 (hval 2 3 v2 rfl rfl) h2
  have hGG : Zix.GG W := Try.laysM185.s1_3 W hsh
  clear hA0 hval0 hsz0 hsz
  refine (walk W hGG A0 c0 t0 l0 g0 w0.1 B0 e0 z0 n0 q0 w0.2 u0 a1 w1 a2 w2).mono fun e W' ⟨he, bel⟩ => ?_
  subst he
  exact ⟨_, rfl, _, _, _, [], _, [], hW', trodAll_mk1 (shut_bool Try.underlying4 _), (trodAll_cons_mk (Below.trod laidOut (by kernel_rfl) (of_decide_eq_true (by kernel_rfl)) k0 bel lt0) (trodAll_cons_mk (shut_int Try.underlying3 w1) (trodAll_cons_mk (shut_int Try.underlying3 w2) trodAll_mk0))), rfl, bel.frame _, fun h => by cases h⟩
theorem over : Rows.zoneRectsUptoRow.holds Try.pinned (Rows.OpenSpec.upto Rows.zoneRectsSpec) :=
  OpenClaim.holds_of_cond 7 Try.f7 rfl rfl rfl rfl rfl rfl rfl ⟨rfl, rfl, rfl, rfl, rfl⟩ rfl rfl rfl rfl rfl (by kernel_rfl) Try.func7 (by kernel_rfl)
    (of_decide_eq_true (by kernel_rfl)) (by unfold Func.isWrapper; first | (rw [if_pos (by decide +kernel)]; kernel_rfl) | (rw [if_neg (by decide +kernel)]; exact ⟨rfl, rfl⟩))
    (fun os started H enc _ F0 => lifted os started H enc F0)
theorem proved : Rows.ZoneRectsUptoSaid := over
#print axioms proved
end Go.Proofs.Ytgcdhikmdbjfeaa.HandZoneRects
namespace Go.Proofs.Ytgcdhikmdbjfeaa
/-- The row, under a short name, for the claim. -/
theorem zoneRects_holds : Rows.ZoneRectsUptoSaid := HandZoneRects.proved
end Go.Proofs.Ytgcdhikmdbjfeaa
