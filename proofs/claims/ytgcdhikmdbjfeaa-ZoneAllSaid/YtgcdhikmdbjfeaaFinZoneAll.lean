/- Finds are the word, do not overlap, and the word stands nowhere between them: for all hidden texts and words. -/
import Derived.Test.YtgcdhikmdbjfeaaMZoneAll3
import Derived.Test.YtgcdhikmdbjfeaaMZoneAll1
import Derived.Test.YtgcdhikmdbjfeaaMZoneAll2
import Derived.Test.YtgcdhikmdbjfeaaRows
import Derived.WalkKit
import Derived.ProofKit
import Derived.OpenShut
import Derived.ShutString
import Derived.ChangeOld
import Derived.Lib.SmallJoins
import Derived.Below
import Derived.SizedLaws
import Derived.Test.YtgcdhikmdbjfeaaMZoneAll0
namespace Go.Proofs.Ytgcdhikmdbjfeaa.HandZoneAll
open Go Go.RowKit Go.Proofs.Ytgcdhikmdbjfeaa.U Go.Proofs.YtgcdhikmdbjfeaaW.PrintWords Go.Proofs.YtgcdhikmdbjfeaaW.PrintLast Go.Proofs.YtgcdhikmdbjfeaaW.PrintMore Go.Proofs.Ytgcdhikmdbjfeaa.Aid Go.Proofs.Ytgcdhikmdbjfeaa.HandAid Go.Proofs.Ytgcdhikmdbjfeaa.Mods Go.Proofs.Ytgcdhikmdbjfeaa.Opn Go.Proofs.Ytgcdhikmdbjfeaa.Zpl Go.Proofs.Ytgcdhikmdbjfeaa.Zrt Go.Proofs.Ytgcdhikmdbjfeaa.Zvd Go.Proofs.Ytgcdhikmdbjfeaa.Zix Go.Proofs.Ytgcdhikmdbjfeaa.Zev Go.Proofs.Ytgcdhikmdbjfeaa.Zfi Go.Proofs.Ytgcdhikmdbjfeaa.Zaw Go.Proofs.Ytgcdhikmdbjfeaa.Opz Go.Proofs.Ytgcdhikmdbjfeaa.Csh
set_option linter.unusedVariables false
set_option linter.unusedSimpArgs false
open Go.Proofs.Ytgcdhikmdbjfeaa Go.Proofs.Ytgcdhikmdbjfeaa.U Go.Proofs.Ytgcdhikmdbjfeaa.Zpl Go.Proofs.Ytgcdhikmdbjfeaa.Zix Go.Proofs.Ytgcdhikmdbjfeaa.Zev Go.Proofs.Ytgcdhikmdbjfeaa.Zfi
abbrev Pr := S34
theorem rd_drop {Y : List Pr} {i : Nat} {x : Pr} {l : List Pr} (h : Y.drop i = x :: l) : rd_T34 Y (i : Int) = x ∧ i < Y.length ∧ Y.drop (i + 1) = l := by
  have hl : i < Y.length := by
    have := congrArg List.length h
    simp at this
    omega
  rw [List.drop_eq_getElem_cons hl] at h
  injection h with h1 h2
  refine ⟨?_, hl, h2⟩
  simp [rd_T34, List.getD_eq_getElem?_getD, List.getElem?_eq_getElem hl, h1]
section
variable {t w : List Int} (ht : Bytes t) (hb : Bytes w) (hw : 0 < w.length) (hwl : w.length ≤ 140737488351232) (z : List Zn)
include ht hb hw hwl
theorem all_l2 : ∀ (m i : Nat) (L : List Pr), L.length - i = m → i ≤ L.length → L.length ≤ 8000 → (∀ x ∈ L, ∃ j : Nat, x = ⟨(j : Int), ((j + w.length : Nat) : Int)⟩ ∧ occ t w j = true) → Ev (fun k => incunablelaw24_ZoneAll.l2 k w L (L.length : Int) (i : Int) t z) true := by
  intro m
  induction m with
  | zero =>
    intro i L hm hi hL hx
    obtain rfl : i = L.length := by omega
    refine ev_succ ?_
    simp only [incunablelaw24_ZoneAll.l2]
    exact ev_neg (by omega) (ev_const rfl)
  | succ m ih =>
    intro i L hm hi hL hx
    have hlt : i < L.length := by omega
    have hd := List.drop_eq_getElem_cons hlt
    obtain ⟨hr, _, _⟩ := rd_drop hd
    obtain ⟨j, hj, ho⟩ := hx _ (List.getElem_mem hlt)
    have hf := occ_fit ho
    refine ev_succ ?_
    simp only [incunablelaw24_ZoneAll.l2]
    rw [hr, hj, wrap_id (n := (i : Int) + 1) (by omega) (by omega), show (i : Int) + 1 = ((i + 1 : Nat) : Int) from rfl]
    refine ev_pos (by omega) (ev_pos (by omega) (ev_pos (by omega) (ev_pos (by simp) (ev_pos (by simp only; omega) (ev_pos (by simp only; omega) (ev_pos ?_ (ih (i + 1) L (by omega) (by omega) hL hx)))))))
    simp only [Int.toNat_natCast]
    rw [str_same (bytes_cut ht _ _) hb]
    unfold occ at ho
    rw [Bool.and_eq_true, beq_iff_eq] at ho
    exact ho.2
theorem all_l1 (htl : t.length ≤ 4000) (L Y : List Pr) (i : Nat) (e f : Nat) (he : e ≤ t.length) (hn : Ev (fun k => incunablelaw24_ZoneAll.l0 k w L (f : Int) Y (Y.length : Int) ((i + 1 : Nat) : Int) t z) true) (hi : i < 9000) : ∀ (m a : Nat), e - a = m → a ≤ e → (∀ j, a ≤ j → j + w.length ≤ e → occ t w j = false) → Ev (fun k => incunablelaw24_ZoneAll.l1 k w L (a : Int) Y (Y.length : Int) (i : Int) t z (e : Int) (f : Int)) true := by
  intro m
  induction m with
  | zero =>
    intro a hm ha hno
    refine ev_succ ?_
    simp only [incunablelaw24_ZoneAll.l1]
    rw [wrap_id (n := (a : Int) + (w.length : Int)) (by omega) (by omega), wrap_id (n := (i : Int) + 1) (by omega) (by omega)]
    exact ev_neg (by omega) hn
  | succ m ih =>
    intro a hm ha hno
    refine ev_succ ?_
    simp only [incunablelaw24_ZoneAll.l1]
    rw [wrap_id (n := (a : Int) + (w.length : Int)) (by omega) (by omega), wrap_id (n := (i : Int) + 1) (by omega) (by omega), wrap_id (n := (a : Int) + 1) (by omega) (by omega)]
    by_cases hle : a + w.length ≤ e
    · refine ev_pos (by omega) (ev_pos (by omega) (ev_pos (by omega) (ev_pos (by omega) (ev_neg ?_ (ih (a + 1) (by omega) (by omega) (fun j h1 h2 => hno j (by omega) h2))))))
      rw [show ((a : Int) + (w.length : Int)).toNat = a + w.length by omega, Int.toNat_natCast, str_same (bytes_cut ht _ _) hb]
      intro h
      have ho := hno a (Nat.le_refl _) hle
      unfold occ at ho
      rw [h, show decide (a + w.length ≤ t.length) = true from decide_eq_true (by omega)] at ho
      simp at ho
    · exact ev_neg (by omega) hn
theorem all_l0 (htl : t.length ≤ 4000) (L Y : List Pr) (hL : L.length ≤ 8000) (hY : Y.length ≤ 8001) (hx : ∀ x ∈ L, ∃ j : Nat, x = ⟨(j : Int), ((j + w.length : Nat) : Int)⟩ ∧ occ t w j = true) : ∀ (m a i : Nat), t.length - a = m → a ≤ t.length → Y.drop i = prs (fnd t w a) ++ [⟨(t.length : Int), (t.length : Int)⟩] → Ev (fun k => incunablelaw24_ZoneAll.l0 k w L (a : Int) Y (Y.length : Int) (i : Int) t z) true := by
  intro m
  induction m using Nat.strongRecOn with
  | ind m ih =>
    intro a i hm ha hd
    rcases fnd_next (t := t) hw _ a rfl with ⟨h1, h2⟩ | ⟨j, h1, h2, h3, h4, h5⟩
    · rw [h2] at hd
      obtain ⟨hr, hlt, hd2⟩ := rd_drop (show Y.drop i = _ :: [] from hd)
      have hend : Y.length = i + 1 := by
        have := congrArg List.length hd
        simp [prs] at this
        omega
      refine ev_succ ?_
      simp only [incunablelaw24_ZoneAll.l0]
      rw [hr]
      refine ev_pos (by omega) (ev_pos (by omega) (ev_pos (by omega) (ev_neg (by simp only; omega) (ev_neg (by simp) ?_))))
      rw [show decide ((t.length : Int) > (t.length : Int)) = false from decide_eq_false (by omega)]
      refine ev_succ ?_
      simp only [incunablelaw24_ZoneAll.j1]
      refine ev_neg (by simp) (all_l1 ht hb hw hwl z htl L Y i t.length t.length (Nat.le_refl _) ?_ (by omega) _ a rfl ha (fun j h h' => h1 j h (by omega)))
      refine ev_succ ?_
      simp only [incunablelaw24_ZoneAll.l0]
      exact ev_neg (by omega) (all_l2 ht hb hw hwl z _ 0 L rfl (Nat.zero_le _) hL hx)
    · rw [h5, prs_cons] at hd
      obtain ⟨hr, hlt, hd2⟩ := rd_drop (show Y.drop i = _ :: (prs (fnd t w (j + w.length)) ++ [⟨(t.length : Int), (t.length : Int)⟩]) from hd)
      have hf := occ_fit h3
      refine ev_succ ?_
      simp only [incunablelaw24_ZoneAll.l0]
      rw [hr]
      refine ev_pos (by omega) (ev_pos (by omega) (ev_pos (by omega) (ev_neg (by simp only; omega) (ev_neg (by simp only; omega) ?_))))
      rw [show decide (((j + w.length : Nat) : Int) > (t.length : Int)) = false from decide_eq_false (by omega)]
      refine ev_succ ?_
      simp only [incunablelaw24_ZoneAll.j1]
      exact ev_neg (by simp) (all_l1 ht hb hw hwl z htl L Y i j (j + w.length) (by omega) (ih _ (by omega) (j + w.length) (i + 1) rfl hf hd2) (by omega) _ a rfl h1 (fun q h h' => h4 q h (by omega)))
end
theorem fnd_all {t w : List Int} (hw : 0 < w.length) : ∀ m a : Nat, t.length - a = m → ∀ x ∈ prs (fnd t w a), ∃ j : Nat, x = ⟨(j : Int), ((j + w.length : Nat) : Int)⟩ ∧ occ t w j = true := by
  intro m
  induction m using Nat.strongRecOn with
  | ind m ih =>
    intro a hm x hx
    rcases fnd_next (t := t) hw _ a rfl with ⟨h1, h2⟩ | ⟨j, h1, h2, h3, h4, h5⟩
    · rw [h2] at hx
      simp [prs] at hx
    · rw [h5, prs_cons] at hx
      rcases List.mem_cons.1 hx with rfl | hx
      · exact ⟨j, rfl, h3⟩
      · exact ih _ (by omega) (j + w.length) rfl x hx
theorem pure_law (t l : List Int) (z : List Zn) (ht : Bytes t) (hl : Bytes l) (hll : l.length ≤ 140737488351232) : Ev (fun k => incunablelaw24_ZoneAll.f k t z l) true := by
  unfold incunablelaw24_ZoneAll.f
  obtain ⟨b, hb, hb2⟩ := large_ev t z
  refine ev_bind hb ?_
  have aw : Ev (fun _ : Nat => incunablelaw24_Awake.f) true := ev_const rfl
  cases b
  · refine ev_neg (by simp) (ev_bind (find_ev ht hl hll z) ?_)
    cases hv : vldZ t z
    · rw [if_neg (by simp)]
      exact ev_neg (by decide) (ev_pos (by simp) (ev_bind aw (ev_const rfl)))
    · rw [if_pos rfl]
      by_cases hw : l.length = 0
      · rw [if_pos hw]
        exact ev_neg (by decide) (ev_pos (by simp) (ev_bind aw (ev_const rfl)))
      · rw [if_neg hw]
        have htl := (vldZ_iff.1 hv).1
        have hlen := fnd_le (t := t) (w := l) _ 0 rfl
        have hp : (prs (fnd t l 0)).length ≤ 4000 := by
          simp only [prs, List.length_map]
          omega
        refine ev_pos rfl (ev_pure rfl (ev_pos (by simp only [List.length_nil]; omega) (ev_pure rfl (ev_pure rfl (ev_pos (by simp only [List.length_nil, List.nil_append, List.length_cons]; omega) (ev_pure rfl ?_))))))
        exact all_l0 ht hl (by omega) hll z htl _ _ (by omega) (by simp; omega) (fnd_all (by omega) _ 0 rfl) _ 0 0 rfl (Nat.zero_le _) (by simp)
  · exact ev_pos rfl (ev_bind aw (ev_const rfl))
theorem walk (w : World) (hGG : GG w) (A0 : Option Addr) (c0 : Nat) (t : List Int) (hc0 : t.length ≤ c0) (hr0 : Kd.C (Kd.int .u8) w A0 t.length t) (hw0 : t.length * 1 ≤ 140737488351232 ∧ ∀ y ∈ t, (Lit.int .u8 y).wf = true) (A1 : Option Addr) (c1 : Nat) (z : List Zn) (hc1 : z.length ≤ c1) (hr1 : Kd.C k62 w A1 z.length z) (hz : z.length * 80 ≤ 140737488351232) (A2 : Option Addr) (c2 : Nat) (l : List Int) (hr2 : Kd.C (Kd.int .u8) w A2 l.length l) (hc2 : l.length ≤ c2) (y2 : l.length * 1 ≤ 140737488351232) (hw2 : ∀ x ∈ l, (Lit.int .u8 x).wf = true) :
    Calls Try.prog 4 #[.agg #[.slice A0 t.length c0, .slice A1 z.length c1], .slice A2 l.length c2] w fun e w' => e = .returned (.bool true) ∧ Below w.heap.size w w' := by
  obtain ⟨k, hk⟩ := pure_law t l z (bytes_of hw0.2) (bytes_of hw2) (by omega)
  exact incunablelaw24_ZoneAll.calls k A0 c0 t A1 c1 z A2 c2 l true w hGG hr0 hc0 hr1 hc1 hr2 hc2 (hk k (Nat.le_refl _))
open Go.ChangeShapes Go.WideShapes Go.ChangeAt
open Go.ChangeMaps (open_string shut_string)
theorem own : ownKnob Try.prog.godebug = none := by kernel_rfl
theorem laidOut : laidOutB Try.prog = true := by kernel_rfl
def IsRow (k : IntKind) (w : World) (a : Option Addr) (len cap : Nat) (zs : List Int) : Prop :=
  (a = none ∧ len = 0 ∧ cap = 0 ∧ zs = []) ∨
  ∃ x, a = some x ∧ len ≤ cap ∧ cap ≤ maxLen ∧ zs.length = cap ∧ (∀ i, i < zs.length → w.cell? (x.add i) = some (.int k (zs.getD i 0))) ∧ ∀ n ∈ zs, (Lit.int k n).wf = true
set_option maxRecDepth 100000 in
theorem lifted (os : Os) (started : os.Started) (H : Type) (enc : TypeId × Value → H) :
    ReturnsInHanded {} Try.checked os 4 .any (Rows.zoneAllSpec.pre6 enc Try.prog Try.f4 Rows.zoneAllRow.domain false) (Rows.zoneAllSpec.post enc Try.prog Try.f4 false true false false) := by
  refine returnsInHanded_of_change_shaped (C := Try.checked) own started (by kernel_rfl) Try.func4
    (ChangeSpec.witness6 (enc := enc) (C := Try.checked) false ⟨#[], #[.agg #[.slice none 0 0, .slice none 0 0], .slice none 0 0], []⟩ 8 (by kernel_rfl) (by kernel_rfl) (by kernel_rfl) (by kernel_rfl)) ?_
  intro W base args ds gs before hval0 hW hcnd hsz0 hsh _
  have hsz : (DataW.weightsEach Try.prog (Try.f4.params.toList ++ Rows.zoneAllSpec.plain.varTypes Try.prog) (ds ++ gs)).all (· ≤ reachBytes) = true := hsz0
  have hval : ∀ (j : Nat) t v, Try.f4.params[j]? = some t → args[j]? = some v → Value.okWide Try.prog W .any base t v := hval0
  have hW' := hW
  obtain ⟨p, q, hA0, hV, rfl, hfz, hnd⟩ := hW
  have hA : DataW.TrodAll enc Try.prog W 0 (fun _ => true) true Try.f4.params.toList args.toList ds p := hA0
  rw [Try.params4] at hA hval hsz
  obtain ⟨v0, vs0, d0, ds0, p0, q0, hargs, rfl, rfl, h0, r0⟩ := trodAll_cons hA
  obtain ⟨v1, vs1, d1, ds1, p1, q1, rfl, rfl, rfl, h1, r1⟩ := trodAll_cons r0
  obtain ⟨rfl, rfl, rfl⟩ := trodAll_nil r1
  obtain rfl : args = #[v0, v1] := by cases args; simp_all
  obtain ⟨rfl, rfl⟩ := trodVars_none hV
  have k0 := h0
  have lt0 : ∀ x ∈ p0, x.block < W.heap.size := by obtain ⟨m, hm⟩ := k0; exact DataW.trod_lt m _ _ _ hm
  obtain ⟨cs0, rfl, csz0⟩ := okWide_struct Try.underlying25 (hval 0 25 v0 rfl rfl)
  obtain ⟨⟨t0, z0⟩, ⟨_, _, hcs0, ⟨A0, c0, rfl, l0, g0⟩, ⟨B0, e0, rfl, n0, q0⟩⟩, w0, m0⟩ := Opz.open_argB (N := 8) (fun n => (Opz.hidden_opens (n + 5) : Opz.OpensB Try.prog (n + 8) 25 _ _ _)) h0 hsz (j := 0) (t := 25) rfl rfl
  obtain rfl : cs0 = #[.slice A0 t0.length c0, .slice B0 z0.length e0] := by rw [← Array.toList_inj]; exact hcs0
  have m0' : (t0.map fun _ => 1).sum + (z0.map fun z => (Zpl.cnt [z]).toNat).sum + 1 ≤ _ := m0
  obtain ⟨a1, len1, cap1, rfl⟩ := okWide_slice Try.underlying22 (hval 1 22 v1 rfl rfl)
  have k1 := h1
  have lt1 : ∀ x ∈ p1, x.block < W.heap.size := by obtain ⟨m, hm⟩ := k1; exact DataW.trod_lt m _ _ _ hm
  obtain ⟨z1, w1⟩ : ∃ zs, IsRow .u8 W a1 len1 cap1 zs := by
    obtain ⟨fuel, hf⟩ := h1
    rcases open_ints Try.underlying22 Try.underlying5 (by kernel_rfl) hf with ⟨hcs, _⟩ | ⟨x, l, c, zs, hcs, _, hl, hm, hz, _, hcell, hwz⟩
    · simp [Value.cells] at hcs
      obtain ⟨rfl, rfl, rfl⟩ := hcs
      exact ⟨[], .inl ⟨rfl, rfl, rfl, rfl⟩⟩
    · simp [Value.cells] at hcs
      obtain ⟨rfl, rfl, rfl⟩ := hcs
      exact ⟨zs, .inr ⟨_, rfl, hl, hm, by simpa using hz, hcell, hwz⟩⟩
  have y1 : len1 * 1 ≤ 140737488351232 := sized_ints hsz (j := 1) (t := 22) rfl rfl Try.underlying22 Try.underlying5 (by kernel_rfl) (by kernel_rfl) h1
  obtain ⟨l1, rfl, hr1, hm1, hw1, hc1⟩ := ReadsInt.ofRowC w1
  have hGG : Zix.GG W := Try.laysM185.s1_3 W hsh
  clear hA0 hval0 hsz0 hsz
  refine (walk W hGG A0 c0 t0 l0 g0 w0.1 B0 e0 z0 n0 q0 w0.2 _ _ l1 (Kd.C_of_reads (d := (0 : Int)) (h1 := fun _ => rfl) hr1) hc1 y1 hw1).mono fun e W' ⟨he, bel⟩ => ?_
  subst he
  exact ⟨_, rfl, _, _, _, [], _, [], hW', trodAll_mk1 (shut_bool Try.underlying4 _), (trodAll_cons_mk (Below.trod laidOut (by kernel_rfl) (of_decide_eq_true (by kernel_rfl)) k0 bel lt0) (trodAll_cons_mk (Below.trod laidOut (by kernel_rfl) (of_decide_eq_true (by kernel_rfl)) k1 bel lt1) trodAll_mk0)), rfl, bel.frame _, fun h => by cases h⟩
theorem over : Rows.zoneAllRow.holds Try.pinned (OpenSpec.ofChange Rows.zoneAllSpec) :=
  OpenClaim.holds_of_wide 4 Try.f4 rfl rfl rfl rfl rfl rfl rfl ⟨rfl, rfl, rfl, rfl, rfl⟩ rfl rfl rfl rfl rfl (by kernel_rfl) Try.func4 (by kernel_rfl)
    (of_decide_eq_true (by kernel_rfl)) (by unfold Func.isWrapper; first | (rw [if_pos (by decide +kernel)]; kernel_rfl) | (rw [if_neg (by decide +kernel)]; exact ⟨rfl, rfl⟩))
    (fun os started H enc _ => lifted os started H enc)
theorem proved : Rows.ZoneAllSaid := over
#print axioms proved
end Go.Proofs.Ytgcdhikmdbjfeaa.HandZoneAll
namespace Go.Proofs.Ytgcdhikmdbjfeaa
/-- The row, under a short name, for the claim. -/
theorem zoneAll_holds : Rows.ZoneAllSaid := HandZoneAll.proved
end Go.Proofs.Ytgcdhikmdbjfeaa
