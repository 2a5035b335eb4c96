/- Which hidden texts are right, and which two are the same: for all hidden texts of bulk at most 1048576. -/
import Derived.Test.YtgcdhikmdbjfeaaMZoneRight4
import Derived.Test.YtgcdhikmdbjfeaaMZoneRight1
import Derived.Test.YtgcdhikmdbjfeaaMZoneRight2
import Derived.Test.YtgcdhikmdbjfeaaMZoneRight3
import Derived.Test.YtgcdhikmdbjfeaaRows
import Derived.WalkKit
import Derived.ProofKit
import Derived.OpenShut
import Derived.ShutString
import Derived.ChangeOld
import Derived.Lib.SmallJoins
import Derived.Below
import Derived.SizedLaws
import Derived.Deep.CondSized
import Derived.Test.YtgcdhikmdbjfeaaMZoneRight0
namespace Go.Proofs.Ytgcdhikmdbjfeaa.HandZoneRight
open Go Go.RowKit Go.Proofs.Ytgcdhikmdbjfeaa.U Go.Proofs.YtgcdhikmdbjfeaaW.PrintWords Go.Proofs.YtgcdhikmdbjfeaaW.PrintLast Go.Proofs.YtgcdhikmdbjfeaaW.PrintMore Go.Proofs.Ytgcdhikmdbjfeaa.Aid Go.Proofs.Ytgcdhikmdbjfeaa.HandAid Go.Proofs.Ytgcdhikmdbjfeaa.Mods Go.Proofs.Ytgcdhikmdbjfeaa.Opn Go.Proofs.Ytgcdhikmdbjfeaa.Zpl Go.Proofs.Ytgcdhikmdbjfeaa.Zrt Go.Proofs.Ytgcdhikmdbjfeaa.Zvd Go.Proofs.Ytgcdhikmdbjfeaa.Zix Go.Proofs.Ytgcdhikmdbjfeaa.Zev Go.Proofs.Ytgcdhikmdbjfeaa.Zfi Go.Proofs.Ytgcdhikmdbjfeaa.Zaw Go.Proofs.Ytgcdhikmdbjfeaa.Zsm Go.Proofs.Ytgcdhikmdbjfeaa.Opz Go.Proofs.Ytgcdhikmdbjfeaa.Csh
set_option linter.unusedVariables false
set_option linter.unusedSimpArgs false
open Go.Proofs.Ytgcdhikmdbjfeaa Go.Proofs.Ytgcdhikmdbjfeaa.U Go.Proofs.Ytgcdhikmdbjfeaa.Zpl Go.Proofs.Ytgcdhikmdbjfeaa.Zix Go.Proofs.Ytgcdhikmdbjfeaa.Zev Go.Proofs.Ytgcdhikmdbjfeaa.Zfi Go.Proofs.Ytgcdhikmdbjfeaa.Zsm
theorem pure_law (t t2 : List Int) (z z2 : List Zn) (hz : cnt z ≤ 1048576) : Ev (fun k => incunablelaw24_ZoneRight.f k t z t2 z2) true := by
  unfold incunablelaw24_ZoneRight.f
  have aw : Ev (fun _ : Nat => incunablelaw24_Awake.f) true := ev_const rfl
  obtain ⟨b, hb, _⟩ := large_ev t z
  obtain ⟨b2, hb2, _⟩ := large_ev t2 z2
  have sm : ∀ (a c : List Int) (x y : List Zn), zone_Same.f a x c y = some (((strOfNums a).toList == (strOfNums c).toList) && sameP x y) := by
    intro a c x y
    unfold zone_Same.f bytes_Equal.f zone_same.f
    cases h : ((strOfNums a).toList == (strOfNums c).toList) <;> simp
  have rm : ∀ (a c : List Int) (x y : List Zn), incunableref24_Same.f a x c y = some (((strOfNums a).toList == (strOfNums c).toList) && sameP x y) := by
    intro a c x y
    unfold incunableref24_Same.f incunableref24_sameZones.f
    by_cases h : (strOfNums a).toList = (strOfNums c).toList
    · rw [if_pos h, show ((strOfNums a).toList == (strOfNums c).toList) = true from beq_iff_eq.2 h]
      simp
    · rw [if_neg h, show ((strOfNums a).toList == (strOfNums c).toList) = false from beq_eq_false_iff_ne.2 h]
      simp
  have J : ∀ b : Bool, Ev (fun k => incunablelaw24_ZoneRight.j0 k b t z t2 z2) true := by
    intro b
    refine ev_succ ?_
    simp only [incunablelaw24_ZoneRight.j0]
    cases b
    · refine ev_neg (by simp) (ev_pure (show zone_Valid.f t z = some (vldZ t z) from rfl) (ev_bind (refvalid_ev t z (by omega)) (ev_pos (by simp) (ev_pure (sm _ _ _ _) (ev_pure (rm _ _ _ _) (ev_pos (by simp) (ev_pure (sm _ _ _ _) ?_)))))))
      rw [(same_iff z z).2 rfl, same_self]
      exact ev_pos rfl (ev_bind aw (ev_const rfl))
    · exact ev_pos (by first | trivial | rfl) (ev_bind aw (ev_const rfl))
  refine ev_bind hb ?_
  cases b
  · exact ev_neg (by simp) (ev_bind hb2 (J b2))
  · exact ev_pos rfl (J true)
theorem walk (w : World) (hGG : GG w) (A0 : Option Addr) (c0 : Nat) (t : List Int) (hc0 : t.length ≤ c0) (hr0 : Kd.C (Kd.int .u8) w A0 t.length t) (hw0 : t.length * 1 ≤ 140737488351232 ∧ ∀ y ∈ t, (Lit.int .u8 y).wf = true) (A1 : Option Addr) (c1 : Nat) (z : List Zn) (hc1 : z.length ≤ c1) (hr1 : Kd.C k62 w A1 z.length z) (hz : z.length * 80 ≤ 140737488351232) (hu : cnt z ≤ 1048576) (A2 : Option Addr) (c2 : Nat) (t2 : List Int) (hc2 : t2.length ≤ c2) (hr2 : Kd.C (Kd.int .u8) w A2 t2.length t2) (hw2 : t2.length * 1 ≤ 140737488351232 ∧ ∀ y ∈ t2, (Lit.int .u8 y).wf = true) (A3 : Option Addr) (c3 : Nat) (z2 : List Zn) (hc3 : z2.length ≤ c3) (hr3 : Kd.C k62 w A3 z2.length z2) (hz2 : z2.length * 80 ≤ 140737488351232) (hu2 : cnt z2 ≤ 1048576) :
    Calls Try.prog 5 #[.agg #[.slice A0 t.length c0, .slice A1 z.length c1], .agg #[.slice A2 t2.length c2, .slice A3 z2.length c3]] w fun e w' => e = .returned (.bool true) ∧ Below w.heap.size w w' := by
  obtain ⟨k, hk⟩ := pure_law t t2 z z2 hu
  exact incunablelaw24_ZoneRight.calls k A0 c0 t A1 c1 z A2 c2 t2 A3 c3 z2 true w hGG hr0 hc0 hr1 hc1 hr2 hc2 hr3 hc3 (hk k (Nat.le_refl _))
open Go.ChangeShapes Go.WideShapes Go.ChangeAt
open Go.ChangeMaps (open_string shut_string)
theorem own : ownKnob Try.prog.godebug = none := by kernel_rfl
theorem laidOut : laidOutB Try.prog = true := by kernel_rfl
def IsRow (k : IntKind) (w : World) (a : Option Addr) (len cap : Nat) (zs : List Int) : Prop :=
  (a = none ∧ len = 0 ∧ cap = 0 ∧ zs = []) ∨
  ∃ x, a = some x ∧ len ≤ cap ∧ cap ≤ maxLen ∧ zs.length = cap ∧ (∀ i, i < zs.length → w.cell? (x.add i) = some (.int k (zs.getD i 0))) ∧ ∀ n ∈ zs, (Lit.int k n).wf = true
theorem bulk_one {H : Type} (d : DataW H) : 1 ≤ Rows.uptoBulk d := by
  cases d with
  | lit x => cases x <;> simp [Rows.uptoBulk]
  | _ => simp [Rows.uptoBulk]
theorem bulk_all {H : Type} : ∀ l : List (DataW H), l.length ≤ Rows.uptoBulkAll l
  | [] => Nat.zero_le _
  | d :: l => by
    have h1 := bulk_one d
    have h2 := bulk_all l
    simp only [Rows.uptoBulkAll, List.length_cons]
    omega
theorem bulk_slice {H : Type} (elems spare : List (DataW H)) : elems.length ≤ Rows.uptoBulk (.slice elems spare) := by
  have h1 := bulk_all elems
  simp only [Rows.uptoBulk]
  omega
set_option maxRecDepth 100000 in
theorem lifted (os : Os) (started : os.Started) (H : Type) (enc : TypeId × Value → H) (F0 : Stop.Interp) :
    ReturnsInHanded {} Try.checked os 5 .any ((Rows.OpenSpec.upto Rows.zoneRightSpec).pre6 enc Try.prog Try.f5 Rows.zoneRightUptoRow.domain false) (((Rows.OpenSpec.upto Rows.zoneRightSpec).at F0).post enc Try.prog Try.f5 false true false false) := by
  refine Csh.handed_cond_shaped (C := Try.checked) (s := Rows.OpenSpec.upto Rows.zoneRightSpec) (k := Rows.uptoSmall) rfl own started (by kernel_rfl) Try.func5
    (OpenSpec.witness (enc := enc) (C := Try.checked) (s := Rows.OpenSpec.upto Rows.zoneRightSpec) (k := Rows.uptoSmall) rfl false ⟨#[], #[.agg #[.slice none 0 0, .slice none 0 0], .agg #[.slice none 0 0, .slice none 0 0]], []⟩ 8 (by kernel_rfl) (by kernel_rfl) (by kernel_rfl) (x := ([.agg [.nil, .nil], .agg [.nil, .nil]], [], [])) (by kernel_rfl) (by kernel_rfl) (by kernel_rfl)) ?_
  intro W base args ds gs before hval0 hW hcnd hk0 hsz0 hsh _
  have hsz : (DataW.weightsEach Try.prog (Try.f5.params.toList ++ Rows.zoneRightSpec.plain.varTypes Try.prog) (ds ++ gs)).all (· ≤ reachBytes) = true := hsz0
  have hval : ∀ (j : Nat) t v, Try.f5.params[j]? = some t → args[j]? = some v → Value.okWide Try.prog W .any base t v := hval0
  have hW' := hW
  obtain ⟨p, q, hA0, hV, rfl, hfz, hnd⟩ := hW
  have hA : DataW.TrodAll enc Try.prog W 0 (fun _ => true) true Try.f5.params.toList args.toList ds p := hA0
  rw [Try.params5] at hA hval hsz
  obtain ⟨v0, vs0, d0, ds0, p0, q0, hargs, rfl, rfl, h0, r0⟩ := trodAll_cons hA
  obtain ⟨v1, vs1, d1, ds1, p1, q1, rfl, rfl, rfl, h1, r1⟩ := trodAll_cons r0
  obtain ⟨rfl, rfl, rfl⟩ := trodAll_nil r1
  obtain rfl : args = #[v0, v1] := by cases args; simp_all
  obtain ⟨rfl, rfl⟩ := trodVars_none hV
  have hbulk := of_decide_eq_true hk0
  simp only [List.append_nil, Rows.uptoBulkAll] at hbulk
  have k0 := h0
  have lt0 : ∀ x ∈ p0, x.block < W.heap.size := by obtain ⟨m, hm⟩ := k0; exact DataW.trod_lt m _ _ _ hm
  obtain ⟨cs0, rfl, csz0⟩ := okWide_struct Try.underlying25 (hval 0 25 v0 rfl rfl)
  obtain ⟨⟨t0, z0⟩, ⟨_, _, hcs0, ⟨A0, c0, rfl, l0, g0⟩, ⟨B0, e0, rfl, n0, q0⟩⟩, w0, m0⟩ := Opz.open_argB (N := 8) (fun n => (Opz.hidden_opens (n + 5) : Opz.OpensB Try.prog (n + 8) 25 _ _ _)) h0 hsz (j := 0) (t := 25) rfl rfl
  obtain rfl : cs0 = #[.slice A0 t0.length c0, .slice B0 z0.length e0] := by rw [← Array.toList_inj]; exact hcs0
  have m0' : (t0.map fun _ => 1).sum + (z0.map fun z => (Zpl.cnt [z]).toNat).sum + 1 ≤ _ := m0
  have u0 : Zpl.cnt z0 ≤ 1048576 := by rw [Opz.cnt_sum]; omega
  have k1 := h1
  have lt1 : ∀ x ∈ p1, x.block < W.heap.size := by obtain ⟨m, hm⟩ := k1; exact DataW.trod_lt m _ _ _ hm
  obtain ⟨cs1, rfl, csz1⟩ := okWide_struct Try.underlying25 (hval 1 25 v1 rfl rfl)
  obtain ⟨⟨t1, z1⟩, ⟨_, _, hcs1, ⟨A1, c1, rfl, l1, g1⟩, ⟨B1, e1, rfl, n1, q1⟩⟩, w1, m1⟩ := Opz.open_argB (N := 8) (fun n => (Opz.hidden_opens (n + 5) : Opz.OpensB Try.prog (n + 8) 25 _ _ _)) h1 hsz (j := 1) (t := 25) rfl rfl
  obtain rfl : cs1 = #[.slice A1 t1.length c1, .slice B1 z1.length e1] := by rw [← Array.toList_inj]; exact hcs1
  have m1' : (t1.map fun _ => 1).sum + (z1.map fun z => (Zpl.cnt [z]).toNat).sum + 1 ≤ _ := m1
  have u1 : Zpl.cnt z1 ≤ 1048576 := by rw [Opz.cnt_sum]; omega
  have hGG : Zix.GG W := Try.laysM185.s1_3 W hsh
  clear hA0 hval0 hsz0 hsz
  refine (walk W hGG A0 c0 t0 l0 g0 w0.1 B0 e0 z0 n0 q0 w0.2 u0 A1 c1 t1 l1 g1 w1.1 B1 e1 z1 n1 q1 w1.2 u1).mono fun e W' ⟨he, bel⟩ => ?_
  subst he
  exact ⟨_, rfl, _, _, _, [], _, [], hW', trodAll_mk1 (shut_bool Try.underlying4 _), (trodAll_cons_mk (Below.trod laidOut (by kernel_rfl) (of_decide_eq_true (by kernel_rfl)) k0 bel lt0) (trodAll_cons_mk (Below.trod laidOut (by kernel_rfl) (of_decide_eq_true (by kernel_rfl)) k1 bel lt1) trodAll_mk0)), rfl, bel.frame _, fun h => by cases h⟩
theorem over : Rows.zoneRightUptoRow.holds Try.pinned (Rows.OpenSpec.upto Rows.zoneRightSpec) :=
  OpenClaim.holds_of_cond 5 Try.f5 rfl rfl rfl rfl rfl rfl rfl ⟨rfl, rfl, rfl, rfl, rfl⟩ rfl rfl rfl rfl rfl (by kernel_rfl) Try.func5 (by kernel_rfl)
    (of_decide_eq_true (by kernel_rfl)) (by unfold Func.isWrapper; first | (rw [if_pos (by decide +kernel)]; kernel_rfl) | (rw [if_neg (by decide +kernel)]; exact ⟨rfl, rfl⟩))
    (fun os started H enc _ F0 => lifted os started H enc F0)
theorem proved : Rows.ZoneRightUptoSaid := over
#print axioms proved
end Go.Proofs.Ytgcdhikmdbjfeaa.HandZoneRight
namespace Go.Proofs.Ytgcdhikmdbjfeaa
/-- The row, under a short name, for the claim. -/
theorem zoneRight_holds : Rows.ZoneRightUptoSaid := HandZoneRight.proved
end Go.Proofs.Ytgcdhikmdbjfeaa
