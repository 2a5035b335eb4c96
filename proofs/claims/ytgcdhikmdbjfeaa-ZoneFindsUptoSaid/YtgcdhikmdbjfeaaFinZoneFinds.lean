/- Where a word is found in a hidden text: for all hidden texts of bulk at most 1048576 and all words. -/
import Derived.Test.YtgcdhikmdbjfeaaMZoneFinds4
import Derived.Test.YtgcdhikmdbjfeaaMZoneFinds1
import Derived.Test.YtgcdhikmdbjfeaaMZoneFinds2
import Derived.Test.YtgcdhikmdbjfeaaMZoneFinds3
import Derived.Test.YtgcdhikmdbjfeaaRows
import Derived.WalkKit
import Derived.ProofKit
import Derived.OpenShut
import Derived.ShutString
import Derived.ChangeOld
import Derived.Lib.SmallJoins
import Derived.Below
import Derived.SizedLaws
import Derived.Deep.CondSized
import Derived.Test.YtgcdhikmdbjfeaaMZoneFinds0
namespace Go.Proofs.Ytgcdhikmdbjfeaa.HandZoneFinds
open Go Go.RowKit Go.Proofs.Ytgcdhikmdbjfeaa.U Go.Proofs.YtgcdhikmdbjfeaaW.PrintWords Go.Proofs.YtgcdhikmdbjfeaaW.PrintLast Go.Proofs.YtgcdhikmdbjfeaaW.PrintMore Go.Proofs.Ytgcdhikmdbjfeaa.Aid Go.Proofs.Ytgcdhikmdbjfeaa.HandAid Go.Proofs.Ytgcdhikmdbjfeaa.Mods Go.Proofs.Ytgcdhikmdbjfeaa.Opn Go.Proofs.Ytgcdhikmdbjfeaa.Zpl Go.Proofs.Ytgcdhikmdbjfeaa.Zrt Go.Proofs.Ytgcdhikmdbjfeaa.Zvd Go.Proofs.Ytgcdhikmdbjfeaa.Zix Go.Proofs.Ytgcdhikmdbjfeaa.Zev Go.Proofs.Ytgcdhikmdbjfeaa.Zfi Go.Proofs.Ytgcdhikmdbjfeaa.Zaw Go.Proofs.Ytgcdhikmdbjfeaa.Opz Go.Proofs.Ytgcdhikmdbjfeaa.Csh
set_option linter.unusedVariables false
set_option linter.unusedSimpArgs false
open Go.Proofs.Ytgcdhikmdbjfeaa Go.Proofs.Ytgcdhikmdbjfeaa.U Go.Proofs.Ytgcdhikmdbjfeaa.Zpl Go.Proofs.Ytgcdhikmdbjfeaa.Zix Go.Proofs.Ytgcdhikmdbjfeaa.Zev Go.Proofs.Ytgcdhikmdbjfeaa.Zfi
theorem pure_law (t l : List Int) (z : List Zn) (ht : Bytes t) (hl : Bytes l) (hll : l.length ≤ 140737488351232) (hz : cnt z ≤ 1048576) : Ev (fun k => incunablelaw24_ZoneFinds.f k t z l) true := by
  unfold incunablelaw24_ZoneFinds.f
  obtain ⟨b, hb, hb2⟩ := large_ev t z
  refine ev_bind hb ?_
  have aw : Ev (fun _ : Nat => incunablelaw24_Awake.f) true := ev_const rfl
  cases b
  · refine ev_neg (by simp) (ev_bind (find_ev ht hl hll z) (ev_bind (rfind_ev ht hl hll z (by omega)) (ev_pos rfl ?_)))
    have h8 := hb2 rfl
    refine ev_bind (pairs_self _ ?_) (ev_pos rfl (ev_bind aw (ev_const rfl)))
    split
    · split
      · simp
      · have := fnd_le (t := t) (w := l) _ 0 rfl
        simp only [prs, List.length_map]
        omega
    · simp
  · exact ev_pos rfl (ev_bind aw (ev_const rfl))
theorem walk (w : World) (hGG : GG w) (A0 : Option Addr) (c0 : Nat) (t : List Int) (hc0 : t.length ≤ c0) (hr0 : Kd.C (Kd.int .u8) w A0 t.length t) (hw0 : t.length * 1 ≤ 140737488351232 ∧ ∀ y ∈ t, (Lit.int .u8 y).wf = true) (A1 : Option Addr) (c1 : Nat) (z : List Zn) (hc1 : z.length ≤ c1) (hr1 : Kd.C k62 w A1 z.length z) (hz : z.length * 80 ≤ 140737488351232) (hu : cnt z ≤ 1048576) (A2 : Option Addr) (c2 : Nat) (l : List Int) (hr2 : Kd.C (Kd.int .u8) w A2 l.length l) (hc2 : l.length ≤ c2) (y2 : l.length * 1 ≤ 140737488351232) (hw2 : ∀ x ∈ l, (Lit.int .u8 x).wf = true) (u2 : l.length ≤ 1048576) :
    Calls Try.prog 3 #[.agg #[.slice A0 t.length c0, .slice A1 z.length c1], .slice A2 l.length c2] w fun e w' => e = .returned (.bool true) ∧ Below w.heap.size w w' := by
  obtain ⟨k, hk⟩ := pure_law t l z (bytes_of hw0.2) (bytes_of hw2) (by omega) hu
  exact incunablelaw24_ZoneFinds.calls k A0 c0 t A1 c1 z A2 c2 l true w hGG hr0 hc0 hr1 hc1 hr2 hc2 (hk k (Nat.le_refl _))
open Go.ChangeShapes Go.WideShapes Go.ChangeAt
open Go.ChangeMaps (open_string shut_string)
theorem own : ownKnob Try.prog.godebug = none := by kernel_rfl
theorem laidOut : laidOutB Try.prog = true := by kernel_rfl
def IsRow (k : IntKind) (w : World) (a : Option Addr) (len cap : Nat) (zs : List Int) : Prop :=
  (a = none ∧ len = 0 ∧ cap = 0 ∧ zs = []) ∨
  ∃ x, a = some x ∧ len ≤ cap ∧ cap ≤ maxLen ∧ zs.length = cap ∧ (∀ i, i < zs.length → w.cell? (x.add i) = some (.int k (zs.getD i 0))) ∧ ∀ n ∈ zs, (Lit.int k n).wf = true
theorem bulk_one {H : Type} (d : DataW H) : 1 ≤ Rows.uptoBulk d := by
  cases d with
  | lit x => cases x <;> simp [Rows.uptoBulk]
  | _ => simp [Rows.uptoBulk]
theorem bulk_all {H : Type} : ∀ l : List (DataW H), l.length ≤ Rows.uptoBulkAll l
  | [] => Nat.zero_le _
  | d :: l => by
    have h1 := bulk_one d
    have h2 := bulk_all l
    simp only [Rows.uptoBulkAll, List.length_cons]
    omega
theorem bulk_slice {H : Type} (elems spare : List (DataW H)) : elems.length ≤ Rows.uptoBulk (.slice elems spare) := by
  have h1 := bulk_all elems
  simp only [Rows.uptoBulk]
  omega
set_option maxRecDepth 100000 in
theorem lifted (os : Os) (started : os.Started) (H : Type) (enc : TypeId × Value → H) (F0 : Stop.Interp) :
    ReturnsInHanded {} Try.checked os 3 .any ((Rows.OpenSpec.upto Rows.zoneFindsSpec).pre6 enc Try.prog Try.f3 Rows.zoneFindsUptoRow.domain false) (((Rows.OpenSpec.upto Rows.zoneFindsSpec).at F0).post enc Try.prog Try.f3 false true false false) := by
  refine Csh.handed_cond_shaped (C := Try.checked) (s := Rows.OpenSpec.upto Rows.zoneFindsSpec) (k := Rows.uptoSmall) rfl own started (by kernel_rfl) Try.func3
    (OpenSpec.witness (enc := enc) (C := Try.checked) (s := Rows.OpenSpec.upto Rows.zoneFindsSpec) (k := Rows.uptoSmall) rfl false ⟨#[], #[.agg #[.slice none 0 0, .slice none 0 0], .slice none 0 0], []⟩ 8 (by kernel_rfl) (by kernel_rfl) (by kernel_rfl) (x := ([.agg [.nil, .nil], .nil], [], [])) (by kernel_rfl) (by kernel_rfl) (by kernel_rfl)) ?_
  intro W base args ds gs before hval0 hW hcnd hk0 hsz0 hsh _
  have hsz : (DataW.weightsEach Try.prog (Try.f3.params.toList ++ Rows.zoneFindsSpec.plain.varTypes Try.prog) (ds ++ gs)).all (· ≤ reachBytes) = true := hsz0
  have hval : ∀ (j : Nat) t v, Try.f3.params[j]? = some t → args[j]? = some v → Value.okWide Try.prog W .any base t v := hval0
  have hW' := hW
  obtain ⟨p, q, hA0, hV, rfl, hfz, hnd⟩ := hW
  have hA : DataW.TrodAll enc Try.prog W 0 (fun _ => true) true Try.f3.params.toList args.toList ds p := hA0
  rw [Try.params3] at hA hval hsz
  obtain ⟨v0, vs0, d0, ds0, p0, q0, hargs, rfl, rfl, h0, r0⟩ := trodAll_cons hA
  obtain ⟨v1, vs1, d1, ds1, p1, q1, rfl, rfl, rfl, h1, r1⟩ := trodAll_cons r0
  obtain ⟨rfl, rfl, rfl⟩ := trodAll_nil r1
  obtain rfl : args = #[v0, v1] := by cases args; simp_all
  obtain ⟨rfl, rfl⟩ := trodVars_none hV
  have hbulk := of_decide_eq_true hk0
  simp only [List.append_nil, Rows.uptoBulkAll] at hbulk
  have k0 := h0
  have lt0 : ∀ x ∈ p0, x.block < W.heap.size := by obtain ⟨m, hm⟩ := k0; exact DataW.trod_lt m _ _ _ hm
  obtain ⟨cs0, rfl, csz0⟩ := okWide_struct Try.underlying25 (hval 0 25 v0 rfl rfl)
  obtain ⟨⟨t0, z0⟩, ⟨_, _, hcs0, ⟨A0, c0, rfl, l0, g0⟩, ⟨B0, e0, rfl, n0, q0⟩⟩, w0, m0⟩ := Opz.open_argB (N := 8) (fun n => (Opz.hidden_opens (n + 5) : Opz.OpensB Try.prog (n + 8) 25 _ _ _)) h0 hsz (j := 0) (t := 25) rfl rfl
  obtain rfl : cs0 = #[.slice A0 t0.length c0, .slice B0 z0.length e0] := by rw [← Array.toList_inj]; exact hcs0
  have m0' : (t0.map fun _ => 1).sum + (z0.map fun z => (Zpl.cnt [z]).toNat).sum + 1 ≤ _ := m0
  have u0 : Zpl.cnt z0 ≤ 1048576 := by rw [Opz.cnt_sum]; omega
  obtain ⟨a1, len1, cap1, rfl⟩ := okWide_slice Try.underlying22 (hval 1 22 v1 rfl rfl)
  have k1 := h1
  have lt1 : ∀ x ∈ p1, x.block < W.heap.size := by obtain ⟨m, hm⟩ := k1; exact DataW.trod_lt m _ _ _ hm
  obtain ⟨z1, w1⟩ : ∃ zs, IsRow .u8 W a1 len1 cap1 zs := by
    obtain ⟨fuel, hf⟩ := h1
    rcases open_ints Try.underlying22 Try.underlying5 (by kernel_rfl) hf with ⟨hcs, _⟩ | ⟨x, l, c, zs, hcs, _, hl, hm, hz, _, hcell, hwz⟩
    · simp [Value.cells] at hcs
      obtain ⟨rfl, rfl, rfl⟩ := hcs
      exact ⟨[], .inl ⟨rfl, rfl, rfl, rfl⟩⟩
    · simp [Value.cells] at hcs
      obtain ⟨rfl, rfl, rfl⟩ := hcs
      exact ⟨zs, .inr ⟨_, rfl, hl, hm, by simpa using hz, hcell, hwz⟩⟩
  have u1 : len1 ≤ 1048576 := by
    obtain ⟨fuel, hf⟩ := k1
    rcases open_ints Try.underlying22 Try.underlying5 (by kernel_rfl) hf with ⟨hcs, _⟩ | ⟨x, l, c, zs, hcs, _, hl, hm, hz, hx, _, _⟩
    · simp [Value.cells] at hcs
      have := hcs.2.1
      omega
    · simp [Value.cells] at hcs
      have hln := hcs.2.1
      have hd := congrArg Prod.fst hx
      simp only at hd
      have hb := bulk_slice (H := H) (lits .u8 (zs.take l)) (lits .u8 (zs.drop l))
      rw [← hd] at hb
      have hlen : (lits (H := H) .u8 (zs.take l)).length = l := by
        simp only [lits, List.length_map, List.length_take]
        split at hz <;> omega
      omega
  have y1 : len1 * 1 ≤ 140737488351232 := sized_ints hsz (j := 1) (t := 22) rfl rfl Try.underlying22 Try.underlying5 (by kernel_rfl) (by kernel_rfl) h1
  obtain ⟨l1, rfl, hr1, hm1, hw1, hc1⟩ := ReadsInt.ofRowC w1
  have hGG : Zix.GG W := Try.laysM185.s1_3 W hsh
  clear hA0 hval0 hsz0 hsz
  refine (walk W hGG A0 c0 t0 l0 g0 w0.1 B0 e0 z0 n0 q0 w0.2 u0 _ _ l1 (Kd.C_of_reads (d := (0 : Int)) (h1 := fun _ => rfl) hr1) hc1 y1 hw1 u1).mono fun e W' ⟨he, bel⟩ => ?_
  subst he
  exact ⟨_, rfl, _, _, _, [], _, [], hW', trodAll_mk1 (shut_bool Try.underlying4 _), (trodAll_cons_mk (Below.trod laidOut (by kernel_rfl) (of_decide_eq_true (by kernel_rfl)) k0 bel lt0) (trodAll_cons_mk (Below.trod laidOut (by kernel_rfl) (of_decide_eq_true (by kernel_rfl)) k1 bel lt1) trodAll_mk0)), rfl, bel.frame _, fun h => by cases h⟩
theorem over : Rows.zoneFindsUptoRow.holds Try.pinned (Rows.OpenSpec.upto Rows.zoneFindsSpec) :=
  OpenClaim.holds_of_cond 3 Try.f3 rfl rfl rfl rfl rfl rfl rfl ⟨rfl, rfl, rfl, rfl, rfl⟩ rfl rfl rfl rfl rfl (by kernel_rfl) Try.func3 (by kernel_rfl)
    (of_decide_eq_true (by kernel_rfl)) (by unfold Func.isWrapper; first | (rw [if_pos (by decide +kernel)]; kernel_rfl) | (rw [if_neg (by decide +kernel)]; exact ⟨rfl, rfl⟩))
    (fun os started H enc _ F0 => lifted os started H enc F0)
theorem proved : Rows.ZoneFindsUptoSaid := over
#print axioms proved
end Go.Proofs.Ytgcdhikmdbjfeaa.HandZoneFinds
namespace Go.Proofs.Ytgcdhikmdbjfeaa
/-- The row, under a short name, for the claim. -/
theorem zoneFinds_holds : Rows.ZoneFindsUptoSaid := HandZoneFinds.proved
end Go.Proofs.Ytgcdhikmdbjfeaa
