import Derived.Test.YtlnhahnnjbfjdaaMNumberEncodes1
import Derived.Test.YtlnhahnnjbfjdaaMNumberEncodes2
import Derived.Test.YtlnhahnnjbfjdaaMNumberEncodes3
set_option linter.unusedVariables false
set_option linter.unusedSimpArgs false
namespace Go.Proofs.Ytlnhahnnjbfjdaa.Ndc
open Go Go.RowKit Go.Proofs.YtlnhahnnjbfjdaaW.PrintWords Go.Proofs.YtlnhahnnjbfjdaaW.PrintLast Go.Proofs.YtlnhahnnjbfjdaaW.PrintMore Go.Proofs.Ytlnhahnnjbfjdaa.U Go.Proofs.Ytlnhahnnjbfjdaa.Aid Go.Proofs.Ytlnhahnnjbfjdaa.HandAid Go.Proofs.Ytlnhahnnjbfjdaa.Cod1 Go.Proofs.Ytlnhahnnjbfjdaa.Cod2 Go.Proofs.Ytlnhahnnjbfjdaa.Cod3 Go.Proofs.Ytlnhahnnjbfjdaa.Mod Go.Proofs.Ytlnhahnnjbfjdaa.NewRef Go.Proofs.Ytlnhahnnjbfjdaa.Enc Go.Proofs.Ytlnhahnnjbfjdaa.Mods Go.Proofs.Ytlnhahnnjbfjdaa.EncAt Go.Proofs.Ytlnhahnnjbfjdaa.Put Go.Proofs.Ytlnhahnnjbfjdaa.End Go.Proofs.Ytlnhahnnjbfjdaa.Snc Go.Proofs.Ytlnhahnnjbfjdaa.Dec Go.Proofs.Ytlnhahnnjbfjdaa.Get Go.Proofs.Ytlnhahnnjbfjdaa.DecNew Go.Proofs.Ytlnhahnnjbfjdaa.RefAt Go.Proofs.Ytlnhahnnjbfjdaa.RDec Go.Proofs.Ytlnhahnnjbfjdaa.RDecNew Go.Proofs.Ytlnhahnnjbfjdaa.Ngt Go.Proofs.Ytlnhahnnjbfjdaa.Nwk Go.Proofs.Ytlnhahnnjbfjdaa.Nrw
/-- The numbers that a decoder tells. -/
def decN : Nat → DS → List S23 → List S23 × Int
  | 0, _, l => (l, 0)
  | k + 1, s, l => if (numD 0 s).2.2 = 0 then decN k (numD 0 s).1 (l ++ [⟨(numD 0 s).2.1.1, (numD 0 s).2.1.2⟩]) else ([], (numD 0 s).2.2)
def decNs (kind : Int) (b : List Int) (n : Int) : List S23 × Int := if (kind = 0 ∨ kind = 1) ∧ 0 ≤ n ∧ n ≤ 20000 then decN n.toNat (newDS kind (List.replicate 48 0) b) [] else ([], 2)
/-- What stands in Decode's loop. -/
structure NMem (At : World → (Nat → Prop) → Nat → DS → Prop) (w : World) (B E g : Nat) (s : DS) (v : Value) (acc : List S23) (W : World) : Prop where
  e : At W (fun j => B ≤ j ∧ j < E) g s
  ok : s.ok
  r : Kd.R k23 23 W w.heap.size (fun j => E ≤ j) v acc
  b : Below w.heap.size w W
  wB : w.heap.size ≤ B
  BE : B ≤ E
  EW : E ≤ W.heap.size
section
variable {At : World → (Nat → Prop) → Nat → DS → Prop} [AtL At] {w : World} {B E g : Nat} {s s' : DS} {v v' : Value} {acc acc' : List S23} {W W' : World}
omit [AtL At] in
theorem NMem.get (H : NMem At w B E g s v acc W) (hE : At W' (fun j => B ≤ j ∧ j < E) g s') (hok : s'.ok) (hM : Mods W W' (fun j => B ≤ j ∧ j < E)) : NMem At w B E g s' v acc W' :=
  ⟨hE, hok, Kd.R_kept H.r hM.kept (fun k hk hk2 => by omega), below_mods H.b hM (fun k hk => Nat.le_trans H.wB hk.1) H.b.size, H.wB, H.BE, Nat.le_trans H.EW hM.size⟩
theorem NMem.below (H : NMem At w B E g s v acc W) (hb : Below W.heap.size W W') : NMem At w B E g s v acc W' :=
  ⟨AtL.below H.e hb, H.ok, Kd.R_below H.r hb, below_then H.b H.b.size hb, H.wB, H.BE, Nat.le_trans H.EW hb.size⟩
theorem NMem.app (H : NMem At w B E g s v acc W) (hg : W.grownBy W' v.ownBlock) (hR : Kd.R k23 23 W' w.heap.size (fun j => E ≤ j) v' acc') (hB : Below w.heap.size w W') : NMem At w B E g s v' acc' W' := by
  have hM : Mods W W' (fun j => E ≤ j) := Mods.of_grown hg (Mods.refl _ _) (fun k hk => .inl (H.r.1 k hk))
  exact ⟨AtL.kept H.e hM (fun k hk hk2 => by omega), H.ok, hR, hB, H.wB, H.BE, Nat.le_trans H.EW hM.size⟩
end
/-- Decode's answer. -/
def NDec (w : World) (R : List S23 × Int) (e : Ending) (w' : World) : Prop := ∃ v0, e = .returned (.tuple #[v0, .int .i64 R.2]) ∧ Kd.R k23 23 w' w.heap.size (fun _ => True) v0 R.1 ∧ Below w.heap.size w w'
theorem newM_ok {kind : Int} (h : kind = 0 ∨ kind = 1) : newModel kind 48 = (kind, List.replicate 48 0, 0) := if_pos ⟨h, by decide, by decide⟩
theorem newM_bad {kind : Int} (h : ¬ (kind = 0 ∨ kind = 1)) : newModel kind 48 = (0, [], 2) := if_neg (fun h2 => h h2.1)
set_option maxHeartbeats 2000000 in
set_option maxRecDepth 100000 in
theorem ndecode_calls (kind : Int) (A2 : Option Addr) (c2 : Nat) (b : List Int) (n : Int) (w : World) (hC2 : Kd.C (Kd.int .u8) w A2 b.length b) (hc2 : b.length ≤ c2) (hb : Bytes b) (hl : b.length ≤ 1099511627776) :
    Calls Try.prog 18 #[.int .i64 kind, .slice A2 b.length c2, .int .i64 n] w (NDec w (decNs kind b n)) := by
  have HC2 := Aside0.mk hC2
  have HBY := Aside0.mk hb
  have hu := Try.underlying45
  have hu48 := Try.underlying23
  clear hC2 hb
  obtain ⟨R, hR⟩ : ∃ r, decNs kind b n = r := ⟨_, rfl⟩
  rw [hR]
  unfold decNs at hR
  go_enter Try.func18, Try.ntmps18
  go_wp2_with (fail)
  refine (new_calls kind 48 w).mono ?_
  rintro e w1 ⟨A, c, rfl, hRM, hb1⟩
  by_cases hk : kind = 0 ∨ kind = 1
  · by_cases hn : 0 ≤ n ∧ n ≤ 20000
    · rw [if_pos ⟨hk, hn.1, hn.2⟩] at hR
      rw [newM_ok hk] at hRM ⊢
      have hmok : okModel kind (List.replicate 48 0) := by have := new_ok kind 48 (by rw [newM_ok hk]); rw [newM_ok hk] at this; exact this
      generalize hst : List.replicate 48 (0 : Int) = st at hR hRM hmok ⊢
      have hst48 : st.length = 48 := by rw [← hst]; exact List.length_replicate
      clear hst
      simp only [hst48] at hRM ⊢
      have HCM := Aside0.mk hRM
      have HB1 := Aside0.mk hb1
      clear hRM hb1
      go_wp2_with (fail)
      obtain ⟨W2, hW2⟩ : ∃ x, w1.alloc (.cells #[.int .i64 kind, .slice A 48 c] 45) = x := ⟨_, rfl⟩
      have HB12 := Aside0.mk (show Below w1.heap.size w1 W2 from hW2 ▸ below_alloc (Below.refl _ _) _)
      have HB2 := Aside0.mk (below_then HB1.out HB1.out.size HB12.out)
      obtain ⟨hc48, hc48b, hCM⟩ := Kd.R_reads' HCM.out
      have HCM := Aside0.mk (Kd.C_below hCM HB12.out)
      rw [hW2]
      clear hW2 hCM HB1 HB12
      have hnd := new_dec A c kind st A2 c2 b W2 HCM.out (by rw [hst48]; exact hc48b) hmok (Kd.C_below HC2.out HB2.out) hc2 HBY.out hl
      rw [hst48] at hnd
      refine hnd.mono ?_
      rintro e w3 ⟨g, rfl, hE1, hB3⟩
      obtain ⟨E, hE⟩ : ∃ E, w3.heap.size = E := ⟨_, rfl⟩
      have HM := Aside0.mk (show NMem DecAt w W2.heap.size E g (newDS kind st b) (.slice none 0 0) [] w3 from ⟨AtL.mono hE1 (fun j hj => ⟨hj.1, hE ▸ hj.2⟩), newDS_ok hmok HBY.out hl, Kd.R_nil _ _ _ _ _, below_then HB2.out HB2.out.size hB3, HB2.out.size, hE ▸ hB3.size, Nat.le_of_eq hE.symm⟩)
      have hn0 := hn.1
      have hn1 := hn.2
      clear hE1 hB3 hnd hE hn HB2 HCM HC2 HBY hk hmok hst48 hc48 hc48b
      go_wp2_with (fail)
      go_loopw [12, 37] (fun x i wr => ∃ k : Nat, ∃ s : DS, ∃ acc : List S23, (k : Int) ≤ n ∧ i = .int .i64 k ∧ decN (n.toNat - k) s acc = R ∧ acc.length = k ∧ Aside0 (NMem DecAt w W2.heap.size E g s x acc wr)) (fun _ i _ => (n - intOf i).toNat)
      case atStart => exact ⟨0, _, [], by omega, rfl, hR, rfl, HM⟩
      case round =>
        obtain ⟨k, s, acc, hk, rfl, hdec, hlen, HS⟩ := hrel
        clear HM
        by_cases hlt : (k : Int) < n
        · obtain ⟨⟨s', ⟨nn, N⟩, er⟩, hR1⟩ : ∃ R1, numD 0 s = R1 := ⟨_, rfl⟩
          rw [show n.toNat - k = (n.toNat - (k + 1)) + 1 by omega] at hdec
          unfold decN at hdec
          rw [hR1] at hdec
          simp only at hdec
          have hacc : acc.length ≤ 20000 := by omega
          go_wp2_with (fail)
          have hg := number_get wr (fun j => W2.heap.size ≤ j ∧ j < E) g s 0 HS.out.e (fun j hj => Nat.lt_of_lt_of_le hj.2 HS.out.EW) HS.out.ok (by omega) (by omega) _ hR1
          refine hg.mono ?_
          rintro e W4 ⟨rfl, hE4, hM4, hok4⟩
          have HS4 := Aside0.mk (HS.out.get hE4 hok4 hM4)
          clear hg hE4 hM4 hok4 HS
          by_cases he : er = 0
          · subst he
            rw [if_pos rfl] at hdec
            go_wp2_with ((with_reducible refine gate_builtin (b := .append) (xs := #[.tmp 47, .tmp 49]) rfl ?_); at_builtin; refine Kd.R_append k23 (w0 := w) w.heap.size rfl (.tmp 47) (.tmp 49) 35 23 (.agg #[(.bool false), (.int .i64 0)]) 16 rfl Try.underlying35 info23 rfl (by decide) (by omega) u12 acc (⟨nn, N⟩ : S23) [.bool nn, .int .i64 N] (fun j => E ≤ j) (fun _ => False) rfl ?aX (k23_mkM _ _ _ (⟨nn, N⟩ : S23)) (fun _ hk => hk.elim) (fun _ h => Nat.le_trans (HS4.out.below (below_alloc (Below.refl _ _) _)).EW h) (HS4.out.below (below_alloc (Below.refl _ _) _)).r (HS4.out.below (below_alloc (Below.refl _ _) _)).b ?aS (by omega) ?_; (case aX => first | (go_simp; done) | rfl); (case aS => exact (HS4.out.below (below_alloc (Below.refl _ _) _)).b.size); intro v2 w3 ho hb2 hgr hat; have HS5 := Aside0.mk ((HS4.out.below (below_alloc (Below.refl _ _) _)).app hgr ho hb2); clear ho hb2 hgr hat)
            exact ⟨⟨k + 1, s', acc ++ [⟨nn, N⟩], by omega, rfl, hdec, by rw [List.length_append, hlen]; rfl, HS5⟩, by simp [intOf]; omega⟩
          · rw [if_neg he] at hdec
            subst hdec
            have e0 : (er == 0) = false := beq_eq_false_iff_ne.mpr he
            have e1 : (er != 0) = true := bne_iff_ne.mpr he
            go_wp2_with (fail)
            go_ret2
            exact ⟨_, rfl, Kd.R_nil _ _ _ _ _, below_alloc HS4.out.b _⟩
        · have hkn : n.toNat - k = 0 := by omega
          rw [hkn] at hdec
          unfold decN at hdec
          subst hdec
          go_wp2_with (fail)
          go_ret2
          exact ⟨_, rfl, Kd.R_mono HS.out.r (fun _ _ => trivial), HS.out.b⟩
    · rw [if_neg (fun h => hn h.2)] at hR
      subst hR
      rw [newM_ok hk] at hRM ⊢
      simp only [List.length_replicate] at hRM ⊢
      have HB1 := Aside0.mk hb1
      clear hRM hb1
      rcases (show n < 0 ∨ (¬ n < 0 ∧ 20000 < n) by omega) with h | ⟨h, h2⟩
      · clear hn
        go_wp2_with (fail)
        go_ret2
        exact ⟨_, rfl, Kd.R_nil _ _ _ _ _, below_alloc HB1.out _⟩
      · clear hn
        go_wp2_with (fail)
        go_ret2
        exact ⟨_, rfl, Kd.R_nil _ _ _ _ _, below_alloc HB1.out _⟩
  · rw [if_neg (fun h => hk h.1)] at hR
    subst hR
    rw [newM_bad hk] at hRM ⊢
    have HB1 := Aside0.mk hb1
    clear hRM hb1 hk
    go_wp2_with (fail)
    go_ret2
    exact ⟨_, rfl, Kd.R_nil _ _ _ _ _, below_alloc HB1.out _⟩
set_option maxHeartbeats 2000000 in
set_option maxRecDepth 100000 in
theorem rdecode_calls (kind : Int) (A2 : Option Addr) (c2 : Nat) (b : List Int) (n : Int) (w : World) (hC2 : Kd.C (Kd.int .u8) w A2 b.length b) (hc2 : b.length ≤ c2) (hb : Bytes b) (hl : b.length ≤ 1099511627776) :
    Calls Try.prog 19 #[.int .i64 kind, .slice A2 b.length c2, .int .i64 n] w (NDec w (decNs kind b n)) := by
  have HC2 := Aside0.mk hC2
  have HBY := Aside0.mk hb
  have hu := Try.underlying45
  have hu48 := Try.underlying23
  clear hC2 hb
  obtain ⟨R, hR⟩ : ∃ r, decNs kind b n = r := ⟨_, rfl⟩
  rw [hR]
  unfold decNs at hR
  go_enter Try.func19, Try.ntmps19
  go_wp2_with (fail)
  refine (ref_new_calls kind 48 w).mono ?_
  rintro e w1 ⟨A, c, rfl, hRM, hb1⟩
  by_cases hk : kind = 0 ∨ kind = 1
  · by_cases hn : 0 ≤ n ∧ n ≤ 20000
    · rw [if_pos ⟨hk, hn.1, hn.2⟩] at hR
      rw [newM_ok hk] at hRM ⊢
      have hmok : okModel kind (List.replicate 48 0) := by have := new_ok kind 48 (by rw [newM_ok hk]); rw [newM_ok hk] at this; exact this
      generalize hst : List.replicate 48 (0 : Int) = st at hR hRM hmok ⊢
      have hst48 : st.length = 48 := by rw [← hst]; exact List.length_replicate
      clear hst
      simp only [hst48] at hRM ⊢
      have HCM := Aside0.mk hRM
      have HB1 := Aside0.mk hb1
      clear hRM hb1
      go_wp2_with (fail)
      obtain ⟨W2, hW2⟩ : ∃ x, w1.alloc (.cells #[.int .i64 kind, .slice A 48 c] 45) = x := ⟨_, rfl⟩
      have HB12 := Aside0.mk (show Below w1.heap.size w1 W2 from hW2 ▸ below_alloc (Below.refl _ _) _)
      have HB2 := Aside0.mk (below_then HB1.out HB1.out.size HB12.out)
      obtain ⟨hc48, hc48b, hCM⟩ := Kd.R_reads' HCM.out
      have HCM := Aside0.mk (Kd.C_below hCM HB12.out)
      rw [hW2]
      clear hW2 hCM HB1 HB12
      have hnd := rnew_dec A c kind st A2 c2 b W2 HCM.out (by rw [hst48]; exact hc48b) hmok (Kd.C_below HC2.out HB2.out) hc2 HBY.out hl
      rw [hst48] at hnd
      refine hnd.mono ?_
      rintro e w3 ⟨g, rfl, hE1, hB3⟩
      obtain ⟨E, hE⟩ : ∃ E, w3.heap.size = E := ⟨_, rfl⟩
      have HM := Aside0.mk (show NMem RDecAt w W2.heap.size E g (newDS kind st b) (.slice none 0 0) [] w3 from ⟨AtL.mono hE1 (fun j hj => ⟨hj.1, hE ▸ hj.2⟩), newDS_ok hmok HBY.out hl, Kd.R_nil _ _ _ _ _, below_then HB2.out HB2.out.size hB3, HB2.out.size, hE ▸ hB3.size, Nat.le_of_eq hE.symm⟩)
      have hn0 := hn.1
      have hn1 := hn.2
      clear hE1 hB3 hnd hE hn HB2 HCM HC2 HBY hk hmok hc48 hc48b
      go_wp2_with (fail)
      go_loopw [12, 13] (fun x i wr => ∃ k : Nat, ∃ s : DS, ∃ acc : List S23, (k : Int) ≤ n ∧ i = .int .i64 k ∧ decN (n.toNat - k) s acc = R ∧ acc.length = k ∧ s.st.length = 48 ∧ Aside0 (NMem RDecAt w W2.heap.size E g s x acc wr)) (fun _ i _ => (n - intOf i).toNat)
      case atStart => exact ⟨0, _, [], by omega, rfl, hR, rfl, hst48, HM⟩
      case round =>
        obtain ⟨k, s, acc, hk, rfl, hdec, hlen, hs48, HS⟩ := hrel
        clear HM
        by_cases hlt : (k : Int) < n
        · obtain ⟨⟨s', ⟨nn, N⟩, er⟩, hR1⟩ : ∃ R1, numD 0 s = R1 := ⟨_, rfl⟩
          rw [show n.toNat - k = (n.toNat - (k + 1)) + 1 by omega] at hdec
          unfold decN at hdec
          have hl2 := numD_len 0 s
          rw [hR1] at hdec hl2
          simp only at hdec
          have hacc : acc.length ≤ 20000 := by omega
          go_wp2_with (fail)
          have hg := rnum_get wr (fun j => W2.heap.size ≤ j ∧ j < E) g s 0 HS.out.e (fun j hj => Nat.lt_of_lt_of_le hj.2 HS.out.EW) HS.out.ok  _ (show numR 0 s = _ from (if_pos (by unfold hasRoom; omega)).trans hR1)
          refine hg.mono ?_
          rintro e W4 ⟨rfl, hE4, hM4, hok4⟩
          have HS4 := Aside0.mk (HS.out.get hE4 hok4 hM4)
          clear hg hE4 hM4 hok4 HS
          by_cases he : er = 0
          · subst he
            rw [if_pos rfl] at hdec
            go_wp2_with ((with_reducible refine gate_builtin (b := .append) (xs := #[.tmp 50, .tmp 52]) rfl ?_); at_builtin; refine Kd.R_append k23 (w0 := w) w.heap.size rfl (.tmp 50) (.tmp 52) 35 23 (.agg #[(.bool false), (.int .i64 0)]) 16 rfl Try.underlying35 info23 rfl (by decide) (by omega) u12 acc (⟨nn, N⟩ : S23) [.bool nn, .int .i64 N] (fun j => E ≤ j) (fun _ => False) rfl ?aX (k23_mkM _ _ _ (⟨nn, N⟩ : S23)) (fun _ hk => hk.elim) (fun _ h => Nat.le_trans (HS4.out.below (below_alloc (Below.refl _ _) _)).EW h) (HS4.out.below (below_alloc (Below.refl _ _) _)).r (HS4.out.below (below_alloc (Below.refl _ _) _)).b ?aS (by omega) ?_; (case aX => first | (go_simp; done) | rfl); (case aS => exact (HS4.out.below (below_alloc (Below.refl _ _) _)).b.size); intro v2 w3 ho hb2 hgr hat; have HS5 := Aside0.mk ((HS4.out.below (below_alloc (Below.refl _ _) _)).app hgr ho hb2); clear ho hb2 hgr hat)
            exact ⟨⟨k + 1, s', acc ++ [⟨nn, N⟩], by omega, rfl, hdec, by rw [List.length_append, hlen]; rfl, hl2.trans hs48, HS5⟩, by simp [intOf]; omega⟩
          · rw [if_neg he] at hdec
            subst hdec
            have e0 : (er == 0) = false := beq_eq_false_iff_ne.mpr he
            have e1 : (er != 0) = true := bne_iff_ne.mpr he
            go_wp2_with (fail)
            go_ret2
            exact ⟨_, rfl, Kd.R_nil _ _ _ _ _, below_alloc HS4.out.b _⟩
        · have hkn : n.toNat - k = 0 := by omega
          rw [hkn] at hdec
          unfold decN at hdec
          subst hdec
          go_wp2_with (fail)
          go_ret2
          exact ⟨_, rfl, Kd.R_mono HS.out.r (fun _ _ => trivial), HS.out.b⟩
    · rw [if_neg (fun h => hn h.2)] at hR
      subst hR
      rw [newM_ok hk] at hRM ⊢
      simp only [List.length_replicate] at hRM ⊢
      have HB1 := Aside0.mk hb1
      clear hRM hb1
      rcases (show n < 0 ∨ (¬ n < 0 ∧ 20000 < n) by omega) with h | ⟨h, h2⟩
      · clear hn
        go_wp2_with (fail)
        go_ret2
        exact ⟨_, rfl, Kd.R_nil _ _ _ _ _, below_alloc HB1.out _⟩
      · clear hn
        go_wp2_with (fail)
        go_ret2
        exact ⟨_, rfl, Kd.R_nil _ _ _ _ _, below_alloc HB1.out _⟩
  · rw [if_neg (fun h => hk h.1)] at hR
    subst hR
    rw [newM_bad hk] at hRM ⊢
    have HB1 := Aside0.mk hb1
    clear hRM hb1 hk
    go_wp2_with (fail)
    go_ret2
    exact ⟨_, rfl, Kd.R_nil _ _ _ _ _, below_alloc HB1.out _⟩
end Go.Proofs.Ytlnhahnnjbfjdaa.Ndc
namespace Go.Proofs.Ytlnhahnnjbfjdaa.RefPut
open Go Go.RowKit Go.Proofs.YtlnhahnnjbfjdaaW.PrintWords Go.Proofs.YtlnhahnnjbfjdaaW.PrintLast Go.Proofs.YtlnhahnnjbfjdaaW.PrintMore Go.Proofs.Ytlnhahnnjbfjdaa.Aid Go.Proofs.Ytlnhahnnjbfjdaa.HandAid Go.Proofs.Ytlnhahnnjbfjdaa.Cod1 Go.Proofs.Ytlnhahnnjbfjdaa.Cod2 Go.Proofs.Ytlnhahnnjbfjdaa.Cod3 Go.Proofs.Ytlnhahnnjbfjdaa.Mod Go.Proofs.Ytlnhahnnjbfjdaa.Enc Go.Proofs.Ytlnhahnnjbfjdaa.Mods Go.Proofs.Ytlnhahnnjbfjdaa.EncAt Go.Proofs.Ytlnhahnnjbfjdaa.Put Go.Proofs.Ytlnhahnnjbfjdaa.U Go.Proofs.Ytlnhahnnjbfjdaa.RefAt
/-- What a good Put of the reference leaves. -/
def RefPost (w : World) (S : Nat → Prop) (g : Nat) (kind : Int) (st : List Int) (low high mid : Int) (out : List Int) (i : Nat) (bit : Int) (e : Ending) (w' : World) : Prop :=
  e = .returned (.int .i64 0) ∧ (∃ l h out1, (∃ A c vo, RefRow w' (fun k => S k ∨ w.heap.size ≤ k) g kind A c (st.set i (after kind (rd st i) bit)) l h vo out1) ∧ out1 = out ++ (normE 4 (cutL low mid bit) (cutH high mid bit)).1 ∧ (normE 4 (cutL low mid bit) (cutH high mid bit)).2 = (l, h)) ∧ Mods w w' S
theorem ref_put_arg (w : World) (g : Nat) (A : Option Addr) (n c : Nat) (i b : Int) (h1 : w.cell? ⟨g, 1, none⟩ = some (.slice A n c)) (hbad : i < 0 ∨ n ≤ i ∨ (b ≠ 0 ∧ b ≠ 1)) :
    Calls Try.prog 65 #[.pointer (some ⟨g, 0, none⟩), .int .i64 i, .int .i64 b] w fun e w' => e = .returned (.int .i64 2) ∧ w = w' := by
  by_cases c1 : i < 0
  · go_enter Try.func65, Try.ntmps65
    go_wp2
    go_ret
    exact ⟨rfl, rfl⟩
  by_cases c2 : (n : Int) ≤ i
  · go_enter Try.func65, Try.ntmps65
    go_wp2
    go_ret
    exact ⟨rfl, rfl⟩
  have hb0 : b ≠ 0 := by rcases hbad with h | h | h <;> omega
  have hb1 : b ≠ 1 := by rcases hbad with h | h | h <;> omega
  have e0 : (b != 0) = true := by simpa using hb0
  have e1 : (b != 1) = true := by simpa using hb1
  go_enter Try.func65, Try.ntmps65
  go_wp2
  go_ret
  exact ⟨rfl, rfl⟩
set_option maxHeartbeats 4000000 in
set_option maxRecDepth 100000 in
theorem ref_row0 (w : World) (S : Nat → Prop) (g : Nat) (kind : Int) (b c : Nat) (st : List Int) (low high mid : Int) (vo : Value) (out : List Int) (i : Nat) (hE : RefRow w S g kind (some ⟨b, 0, none⟩) c st low high vo out) (hi : i < st.length) (hn : st.length ≤ 8192) (hs : okState kind (rd st i)) (hl0 : 0 ≤ low) (hlh : low ≤ high) (hh : high ≤ 4294967295) (hmid : midOf low high (likely kind (rd st i)) = mid) (hI0 : PutInv out (cutL low mid 0) (cutH high mid 0) 4 (cutL low mid 0) (cutH high mid 0) out) (hlen : out.length ≤ 1099511627776) :
    Calls Try.prog 65 #[.pointer (some ⟨g, 0, none⟩), .int .i64 i, .int .i64 0] w (RefPost w S g kind st low high mid out i 0) := by
  have HE := Aside0.mk hE
  have hSg : S g := hE.g
  have hSb : S b := hE.s.1 b (by simp [Value.ownBlock])
  have k0 := hE.c0
  have k1 := hE.c1
  have ks : w.cell? ⟨b, i, none⟩ = some (.int .i64 (rd st i)) := by obtain ⟨b', hA, hc, _⟩ := hE.cell hi; cases hA; exact hc
  have hlk := likely_range kind (rd st i) hs
  have HP := fun W => Aside0.mk (hmid ▸ part_calls low high (likely kind (rd st i)) 0 W hl0 hlh hh hlk.1 hlk.2)
  have HI := Aside0.mk hI0
  have hu := Try.underlying101
  clear hE hmid hI0
  have hi1 : (0 : Int) ≤ (i : Int) := by omega
  have hi2 : (i : Int) < (st.length : Int) := by omega
  go_enter Try.func65, Try.ntmps65
  go_wp2
  refine start_ (n := 15) (S := fun w' => w'.cell? ⟨g, 0, none⟩ = some (.int .i64 kind) ∧ w'.cell? ⟨g, 1, none⟩ = some (.slice (some ⟨b, 0, none⟩) st.length c) ∧ w'.cell? ⟨b, i, none⟩ = some (.int .i64 (rd st i))) (ds := []) #[false, false, false, false, false, false, false, false, false, false, false, false, false, false, false] (by kernel_rfl) rfl rfl ⟨k0, k1, ks⟩ (fun hHeld => ?_)
  refine pure_ (i := 0) (N := some 30) (v := ?_) (a' := ?_) #[true, false, false, false, false, false, false, false, false, false, false, false, false, false, false] rfl rfl (by kernel_rfl) (fun _ _ _ h => h) (Or.inl ⟨by rfl, ?_⟩) ?_ ?_
  rotate_left
  · intro w'
    go_simp
    with_reducible rfl
  rotate_left
  · simp only [Act.put, List.setIfInBounds_toArray, List.set_cons_zero, List.set_cons_succ, i64_w, i32_w]
    rfl
  refine pure_ (i := 1) (N := some 31) (v := ?_) (a' := ?_) #[true, true, false, false, false, false, false, false, false, false, false, false, false, false, false] rfl rfl (by kernel_rfl) (fun _ _ _ h => h) (Or.inl ⟨by rfl, ?_⟩) ?_ ?_
  rotate_left
  · intro w'
    go_simp
    with_reducible rfl
  rotate_left
  · simp only [Act.put, List.setIfInBounds_toArray, List.set_cons_zero, List.set_cons_succ, i64_w, i32_w]
    rfl
  refine pure_ (i := 2) (N := some 32) (v := ?_) (a' := ?_) #[true, true, true, false, false, false, false, false, false, false, false, false, false, false, false] rfl rfl (by kernel_rfl) (fun _ _ _ h => h) (Or.inl ⟨by rfl, ?_⟩) ?_ ?_
  rotate_left
  · intro w'
    go_simp
    with_reducible rfl
  rotate_left
  · simp only [Act.put, List.setIfInBounds_toArray, List.set_cons_zero, List.set_cons_succ, i64_w, i32_w]
    rfl
  refine pure_ (i := 3) (N := some 33) (v := ?_) (a' := ?_) #[true, true, true, true, false, false, false, false, false, false, false, false, false, false, false] rfl rfl (by kernel_rfl) (fun _ _ _ h => h) (Or.inl ⟨by rfl, ?_⟩) ?_ ?_
  rotate_left
  · intro w'
    go_simp
    with_reducible rfl
  rotate_left
  · simp only [Act.put, List.setIfInBounds_toArray, List.set_cons_zero, List.set_cons_succ, i64_w, i32_w]
    rfl
  refine pure_ (i := 5) (N := some 35) (v := ?_) (a' := ?_) #[true, true, true, true, false, true, false, false, false, false, false, false, false, false, false] rfl rfl (by kernel_rfl) (fun _ _ _ h => h) (Or.inl ⟨by rfl, ?_⟩) ?_ ?_
  rotate_left
  · intro w'
    go_simp
    with_reducible rfl
  rotate_left
  · simp only [Act.put, List.setIfInBounds_toArray, List.set_cons_zero, List.set_cons_succ, i64_w, i32_w]
    rfl
  refine pure_ (i := 6) (N := some 36) (v := ?_) (a' := ?_) #[true, true, true, true, false, true, true, false, false, false, false, false, false, false, false] rfl rfl (by kernel_rfl) (fun _ _ _ h => h) (Or.inl ⟨by rfl, ?_⟩) ?_ ?_
  rotate_left
  · intro w'
    go_simp
    with_reducible rfl
  rotate_left
  · simp only [Act.put, List.setIfInBounds_toArray, List.set_cons_zero, List.set_cons_succ, i64_w, i32_w]
    rfl
  refine pure_ (i := 7) (N := some 37) (v := ?_) (a' := ?_) #[true, true, true, true, false, true, true, true, false, false, false, false, false, false, false] rfl rfl (by kernel_rfl) (fun _ _ _ h => h) (Or.inl ⟨by rfl, ?_⟩) ?_ ?_
  rotate_left
  · intro w'
    go_simp
    with_reducible rfl
  rotate_left
  · simp only [Act.put, List.setIfInBounds_toArray, List.set_cons_zero, List.set_cons_succ, i64_w, i32_w]
    rfl
  refine pure_ (i := 8) (N := some 38) (v := ?_) (a' := ?_) #[true, true, true, true, false, true, true, true, true, false, false, false, false, false, false] rfl rfl (by kernel_rfl) (fun _ _ _ h => h) (Or.inl ⟨by rfl, ?_⟩) ?_ ?_
  rotate_left
  · intro w'
    go_simp
    with_reducible rfl
  rotate_left
  · simp only [Act.put, List.setIfInBounds_toArray, List.set_cons_zero, List.set_cons_succ, i64_w, i32_w]
    rfl
  refine pure_ (i := 10) (N := some 40) (v := ?_) (a' := ?_) #[true, true, true, true, false, true, true, true, true, false, true, false, false, false, false] rfl rfl (by kernel_rfl) (fun _ _ _ h => h) (Or.inl ⟨by rfl, ?_⟩) ?_ ?_
  rotate_left
  · intro w'
    go_simp
    with_reducible rfl
  rotate_left
  · simp only [Act.put, List.setIfInBounds_toArray, List.set_cons_zero, List.set_cons_succ, i64_w, i32_w]
    rfl
  refine take_ (i := 4) (N := some 34) (v := ?_) (a' := ?_) #[true, true, true, true, true, true, true, true, true, false, true, false, false, false, false] rfl rfl (by kernel_rfl) (fun _ _ _ h => h) (Or.inl ⟨by rfl, ?_⟩) hHeld ?_ ?_
  rotate_left
  · rintro w' ⟨s0, s1, s2⟩
    go_simp
    with_reducible rfl
  rotate_left
  · simp only [Act.put, List.setIfInBounds_toArray, List.set_cons_zero, List.set_cons_succ, i64_w, i32_w]
    rfl
  refine take_ (i := 9) (N := some 39) (v := ?_) (a' := ?_) #[true, true, true, true, true, true, true, true, true, true, true, false, false, false, false] rfl rfl (by kernel_rfl) (fun _ _ _ h => h) (Or.inl ⟨by rfl, ?_⟩) hHeld ?_ ?_
  rotate_left
  · rintro w' ⟨s0, s1, s2⟩
    go_simp
    with_reducible rfl
  rotate_left
  · simp only [Act.put, List.setIfInBounds_toArray, List.set_cons_zero, List.set_cons_succ, i64_w, i32_w]
    rfl
  refine pure_ (i := 11) (N := some 41) (v := ?_) (a' := ?_) #[true, true, true, true, true, true, true, true, true, true, true, true, false, false, false] rfl rfl (by kernel_rfl) (fun _ _ _ h => h) (Or.inl ⟨by rfl, ?_⟩) ?_ ?_
  rotate_left
  · intro w'
    go_simp
    with_reducible rfl
  rotate_left
  · simp only [Act.put, List.setIfInBounds_toArray, List.set_cons_zero, List.set_cons_succ, i64_w, i32_w]
    rfl
  refine take_ (i := 12) (N := some 42) (v := ?_) (a' := ?_) #[true, true, true, true, true, true, true, true, true, true, true, true, true, false, false] rfl rfl (by kernel_rfl) (fun _ _ _ h => h) (Or.inl ⟨by rfl, ?_⟩) hHeld ?_ ?_
  rotate_left
  · rintro w' ⟨s0, s1, s2⟩
    go_simp
    with_reducible rfl
  rotate_left
  · simp only [Act.put, List.setIfInBounds_toArray, List.set_cons_zero, List.set_cons_succ, i64_w, i32_w]
    rfl
  refine one_ (i := 13) (N := some 43) #[true, true, true, true, true, true, true, true, true, true, true, true, true, true, false] rfl rfl (by kernel_rfl) (by decide) (fun K hK => ?_)
  refine goes_ Try.func77 (by kernel_rfl) rfl #[.int .i64 kind, .int .i64 (rd st i)] (by rfl) rfl rfl (by simp only [List.map_toArray, List.map_cons, List.map_nil]; rfl) ?_
  with_reducible refine (likelyB kind (rd st i) _ hs).mono ?_
  rintro e w3 ⟨rfl, hb3⟩
  refine ⟨_, rfl, ?_⟩
  have hb3' := below_undrew1 hb3
  have HE3 := Aside0.mk (HE.out.below hb3')
  have HM3 := Aside0.mk ((Mods.refl w S).below hb3')
  clear hb3 hb3'
  refine hK.out _ _ ⟨HE3.out.c0, HE3.out.c1, by obtain ⟨b', hA, hc, _⟩ := HE3.out.cell hi; cases hA; exact hc⟩ (fun hHeld => ?_)
  clear hK K
  refine norm_ (a' := ?_) ?_ ?_
  rotate_left
  · show Act.put _ (some 43) _ = _
    simp only [Act.put, List.setIfInBounds_toArray, List.set_cons_zero, List.set_cons_succ, i64_w, i32_w]
    rfl
  refine pure_ (i := 14) (N := some 7) (v := ?_) (a' := ?_) #[true, true, true, true, true, true, true, true, true, true, true, true, true, true, true] rfl rfl (by kernel_rfl) (fun _ _ _ h => h) (Or.inl ⟨by rfl, ?_⟩) ?_ ?_
  rotate_left
  · intro w'
    go_simp
    with_reducible rfl
  rotate_left
  · simp only [Act.put, List.setIfInBounds_toArray, List.set_cons_zero, List.set_cons_succ, i64_w, i32_w]
    rfl
  refine done_ (by kernel_rfl) ?_
  clear k0 k1 ks HE
  have k2 := HE3.out.c2
  have k3 := HE3.out.c3
  have f2 := HE3.out.fz 2
  have f3 := HE3.out.fz 3
  go_wp2_with (go_at_call 79; refine (HP _).out.mono ?_; rintro e w4 ⟨rfl, hb4⟩; have HE4 := Aside0.mk (HE3.out.below hb4); have HM4 := Aside0.mk (HM3.out.below hb4); have k2 := HE4.out.c2; have k3 := HE4.out.c3; have f2 := HE4.out.fz 2; have f3 := HE4.out.fz 3; clear hb4)
  clear k2 k3 f2 f3
  obtain ⟨w5, hw5⟩ : ∃ w5, w5 = (w4.setCell ⟨g, 2, none⟩ (.int .u64 (cutL low mid 0))).setCell ⟨g, 3, none⟩ (.int .u64 (cutH high mid 0)) := ⟨_, rfl⟩
  rw [← hw5]
  have HE5 := Aside0.mk (show RefRow w5 S g kind (some ⟨b, 0, none⟩) c st (cutL low mid 0) (cutH high mid 0) vo out from hw5 ▸ HE4.out.cut _ _)
  have HM5 := Aside0.mk (show Mods w w5 S from hw5 ▸ ((HM4.out.setCell (.inl hSg) _).setCell (.inl hSg) _))
  have k0 := HE5.out.c0
  have k1 := HE5.out.c1
  have ks : w5.cell? ⟨b, i, none⟩ = some (.int .i64 (rd st i)) := by obtain ⟨b', hA, hc, _⟩ := HE5.out.cell hi; cases hA; exact hc
  clear hw5 HE3 HE4 HM3 HM4
  refine start_ (n := 23) (S := fun w' => w'.cell? ⟨g, 0, none⟩ = some (.int .i64 kind) ∧ w'.cell? ⟨g, 1, none⟩ = some (.slice (some ⟨b, 0, none⟩) st.length c) ∧ w'.cell? ⟨b, i, none⟩ = some (.int .i64 (rd st i))) (ds := [22]) #[false, false, false, false, false, false, false, false, false, false, false, false, false, false, false, false, false, false, false, false, false, false, false] (by kernel_rfl) rfl rfl ⟨k0, k1, ks⟩ (fun hHeld => ?_)
  refine pure_ (i := 0) (N := some 54) (v := ?_) (a' := ?_) #[true, false, false, false, false, false, false, false, false, false, false, false, false, false, false, false, false, false, false, false, false, false, false] rfl rfl (by kernel_rfl) (fun _ _ _ h => h) (Or.inl ⟨by rfl, ?_⟩) ?_ ?_
  rotate_left
  · intro w'
    go_simp
    with_reducible rfl
  rotate_left
  · simp only [Act.put, List.setIfInBounds_toArray, List.set_cons_zero, List.set_cons_succ, i64_w, i32_w]
    rfl
  refine pure_ (i := 1) (N := some 55) (v := ?_) (a' := ?_) #[true, true, false, false, false, false, false, false, false, false, false, false, false, false, false, false, false, false, false, false, false, false, false] rfl rfl (by kernel_rfl) (fun _ _ _ h => h) (Or.inl ⟨by rfl, ?_⟩) ?_ ?_
  rotate_left
  · intro w'
    go_simp
    with_reducible rfl
  rotate_left
  · simp only [Act.put, List.setIfInBounds_toArray, List.set_cons_zero, List.set_cons_succ, i64_w, i32_w]
    rfl
  refine pure_ (i := 2) (N := some 56) (v := ?_) (a' := ?_) #[true, true, true, false, false, false, false, false, false, false, false, false, false, false, false, false, false, false, false, false, false, false, false] rfl rfl (by kernel_rfl) (fun _ _ _ h => h) (Or.inl ⟨by rfl, ?_⟩) ?_ ?_
  rotate_left
  · intro w'
    go_simp
    with_reducible rfl
  rotate_left
  · simp only [Act.put, List.setIfInBounds_toArray, List.set_cons_zero, List.set_cons_succ, i64_w, i32_w]
    rfl
  refine pure_ (i := 3) (N := some 57) (v := ?_) (a' := ?_) #[true, true, true, true, false, false, false, false, false, false, false, false, false, false, false, false, false, false, false, false, false, false, false] rfl rfl (by kernel_rfl) (fun _ _ _ h => h) (Or.inl ⟨by rfl, ?_⟩) ?_ ?_
  rotate_left
  · intro w'
    go_simp
    with_reducible rfl
  rotate_left
  · simp only [Act.put, List.setIfInBounds_toArray, List.set_cons_zero, List.set_cons_succ, i64_w, i32_w]
    rfl
  refine pure_ (i := 5) (N := some 59) (v := ?_) (a' := ?_) #[true, true, true, true, false, true, false, false, false, false, false, false, false, false, false, false, false, false, false, false, false, false, false] rfl rfl (by kernel_rfl) (fun _ _ _ h => h) (Or.inl ⟨by rfl, ?_⟩) ?_ ?_
  rotate_left
  · intro w'
    go_simp
    with_reducible rfl
  rotate_left
  · simp only [Act.put, List.setIfInBounds_toArray, List.set_cons_zero, List.set_cons_succ, i64_w, i32_w]
    rfl
  refine pure_ (i := 6) (N := some 60) (v := ?_) (a' := ?_) #[true, true, true, true, false, true, true, false, false, false, false, false, false, false, false, false, false, false, false, false, false, false, false] rfl rfl (by kernel_rfl) (fun _ _ _ h => h) (Or.inl ⟨by rfl, ?_⟩) ?_ ?_
  rotate_left
  · intro w'
    go_simp
    with_reducible rfl
  rotate_left
  · simp only [Act.put, List.setIfInBounds_toArray, List.set_cons_zero, List.set_cons_succ, i64_w, i32_w]
    rfl
  refine pure_ (i := 7) (N := some 61) (v := ?_) (a' := ?_) #[true, true, true, true, false, true, true, true, false, false, false, false, false, false, false, false, false, false, false, false, false, false, false] rfl rfl (by kernel_rfl) (fun _ _ _ h => h) (Or.inl ⟨by rfl, ?_⟩) ?_ ?_
  rotate_left
  · intro w'
    go_simp
    with_reducible rfl
  rotate_left
  · simp only [Act.put, List.setIfInBounds_toArray, List.set_cons_zero, List.set_cons_succ, i64_w, i32_w]
    rfl
  refine pure_ (i := 8) (N := some 62) (v := ?_) (a' := ?_) #[true, true, true, true, false, true, true, true, true, false, false, false, false, false, false, false, false, false, false, false, false, false, false] rfl rfl (by kernel_rfl) (fun _ _ _ h => h) (Or.inl ⟨by rfl, ?_⟩) ?_ ?_
  rotate_left
  · intro w'
    go_simp
    with_reducible rfl
  rotate_left
  · simp only [Act.put, List.setIfInBounds_toArray, List.set_cons_zero, List.set_cons_succ, i64_w, i32_w]
    rfl
  refine pure_ (i := 9) (N := some 63) (v := ?_) (a' := ?_) #[true, true, true, true, false, true, true, true, true, true, false, false, false, false, false, false, false, false, false, false, false, false, false] rfl rfl (by kernel_rfl) (fun _ _ _ h => h) (Or.inl ⟨by rfl, ?_⟩) ?_ ?_
  rotate_left
  · intro w'
    go_simp
    with_reducible rfl
  rotate_left
  · simp only [Act.put, List.setIfInBounds_toArray, List.set_cons_zero, List.set_cons_succ, i64_w, i32_w]
    rfl
  refine pure_ (i := 11) (N := some 65) (v := ?_) (a' := ?_) #[true, true, true, true, false, true, true, true, true, true, false, true, false, false, false, false, false, false, false, false, false, false, false] rfl rfl (by kernel_rfl) (fun _ _ _ h => h) (Or.inl ⟨by rfl, ?_⟩) ?_ ?_
  rotate_left
  · intro w'
    go_simp
    with_reducible rfl
  rotate_left
  · simp only [Act.put, List.setIfInBounds_toArray, List.set_cons_zero, List.set_cons_succ, i64_w, i32_w]
    rfl
  refine pure_ (i := 12) (N := some 66) (v := ?_) (a' := ?_) #[true, true, true, true, false, true, true, true, true, true, false, true, true, false, false, false, false, false, false, false, false, false, false] rfl rfl (by kernel_rfl) (fun _ _ _ h => h) (Or.inl ⟨by rfl, ?_⟩) ?_ ?_
  rotate_left
  · intro w'
    go_simp
    with_reducible rfl
  rotate_left
  · simp only [Act.put, List.setIfInBounds_toArray, List.set_cons_zero, List.set_cons_succ, i64_w, i32_w]
    rfl
  refine pure_ (i := 13) (N := some 67) (v := ?_) (a' := ?_) #[true, true, true, true, false, true, true, true, true, true, false, true, true, true, false, false, false, false, false, false, false, false, false] rfl rfl (by kernel_rfl) (fun _ _ _ h => h) (Or.inl ⟨by rfl, ?_⟩) ?_ ?_
  rotate_left
  · intro w'
    go_simp
    with_reducible rfl
  rotate_left
  · simp only [Act.put, List.setIfInBounds_toArray, List.set_cons_zero, List.set_cons_succ, i64_w, i32_w]
    rfl
  refine pure_ (i := 14) (N := some 68) (v := ?_) (a' := ?_) #[true, true, true, true, false, true, true, true, true, true, false, true, true, true, true, false, false, false, false, false, false, false, false] rfl rfl (by kernel_rfl) (fun _ _ _ h => h) (Or.inl ⟨by rfl, ?_⟩) ?_ ?_
  rotate_left
  · intro w'
    go_simp
    with_reducible rfl
  rotate_left
  · simp only [Act.put, List.setIfInBounds_toArray, List.set_cons_zero, List.set_cons_succ, i64_w, i32_w]
    rfl
  refine pure_ (i := 16) (N := some 70) (v := ?_) (a' := ?_) #[true, true, true, true, false, true, true, true, true, true, false, true, true, true, true, false, true, false, false, false, false, false, false] rfl rfl (by kernel_rfl) (fun _ _ _ h => h) (Or.inl ⟨by rfl, ?_⟩) ?_ ?_
  rotate_left
  · intro w'
    go_simp
    with_reducible rfl
  rotate_left
  · simp only [Act.put, List.setIfInBounds_toArray, List.set_cons_zero, List.set_cons_succ, i64_w, i32_w]
    rfl
  refine pure_ (i := 19) (N := some 73) (v := ?_) (a' := ?_) #[true, true, true, true, false, true, true, true, true, true, false, true, true, true, true, false, true, false, false, true, false, false, false] rfl rfl (by kernel_rfl) (fun _ _ _ h => h) (Or.inl ⟨by rfl, ?_⟩) ?_ ?_
  rotate_left
  · intro w'
    go_simp
    with_reducible rfl
  rotate_left
  · simp only [Act.put, List.setIfInBounds_toArray, List.set_cons_zero, List.set_cons_succ, i64_w, i32_w]
    rfl
  refine take_ (i := 4) (N := some 58) (v := ?_) (a' := ?_) #[true, true, true, true, true, true, true, true, true, true, false, true, true, true, true, false, true, false, false, true, false, false, false] rfl rfl (by kernel_rfl) (fun _ _ _ h => h) (Or.inl ⟨by rfl, ?_⟩) hHeld ?_ ?_
  rotate_left
  · rintro w' ⟨s0, s1, s2⟩
    go_simp
    with_reducible rfl
  rotate_left
  · simp only [Act.put, List.setIfInBounds_toArray, List.set_cons_zero, List.set_cons_succ, i64_w, i32_w]
    rfl
  refine take_ (i := 10) (N := some 64) (v := ?_) (a' := ?_) #[true, true, true, true, true, true, true, true, true, true, true, true, true, true, true, false, true, false, false, true, false, false, false] rfl rfl (by kernel_rfl) (fun _ _ _ h => h) (Or.inl ⟨by rfl, ?_⟩) hHeld ?_ ?_
  rotate_left
  · rintro w' ⟨s0, s1, s2⟩
    go_simp
    with_reducible rfl
  rotate_left
  · simp only [Act.put, List.setIfInBounds_toArray, List.set_cons_zero, List.set_cons_succ, i64_w, i32_w]
    rfl
  refine take_ (i := 15) (N := some 69) (v := ?_) (a' := ?_) #[true, true, true, true, true, true, true, true, true, true, true, true, true, true, true, true, true, false, false, true, false, false, false] rfl rfl (by kernel_rfl) (fun _ _ _ h => h) (Or.inl ⟨by rfl, ?_⟩) hHeld ?_ ?_
  rotate_left
  · rintro w' ⟨s0, s1, s2⟩
    go_simp
    with_reducible rfl
  rotate_left
  · simp only [Act.put, List.setIfInBounds_toArray, List.set_cons_zero, List.set_cons_succ, i64_w, i32_w]
    rfl
  refine pure_ (i := 17) (N := some 71) (v := ?_) (a' := ?_) #[true, true, true, true, true, true, true, true, true, true, true, true, true, true, true, true, true, true, false, true, false, false, false] rfl rfl (by kernel_rfl) (fun _ _ _ h => h) (Or.inl ⟨by rfl, ?_⟩) ?_ ?_
  rotate_left
  · intro w'
    go_simp
    with_reducible rfl
  rotate_left
  · simp only [Act.put, List.setIfInBounds_toArray, List.set_cons_zero, List.set_cons_succ, i64_w, i32_w]
    rfl
  refine take_ (i := 18) (N := some 72) (v := ?_) (a' := ?_) #[true, true, true, true, true, true, true, true, true, true, true, true, true, true, true, true, true, true, true, true, false, false, false] rfl rfl (by kernel_rfl) (fun _ _ _ h => h) (Or.inl ⟨by rfl, ?_⟩) hHeld ?_ ?_
  rotate_left
  · rintro w' ⟨s0, s1, s2⟩
    go_simp
    with_reducible rfl
  rotate_left
  · simp only [Act.put, List.setIfInBounds_toArray, List.set_cons_zero, List.set_cons_succ, i64_w, i32_w]
    rfl
  refine one_ (i := 20) (N := some 74) #[true, true, true, true, true, true, true, true, true, true, true, true, true, true, true, true, true, true, true, true, true, false, false] rfl rfl (by kernel_rfl) (by decide) (fun K hK => ?_)
  refine goes_ Try.func82 (by kernel_rfl) rfl #[.int .i64 kind, .int .i64 (rd st i), .int .i64 0] (by rfl) rfl rfl (by simp only [List.map_toArray, List.map_cons, List.map_nil]; rfl) ?_
  with_reducible refine (ref_after kind (rd st i) 0 _ hs (by decide)).mono ?_
  rintro e w6 ⟨rfl, hb6⟩
  refine ⟨_, rfl, ?_⟩
  have hb6' := below_undrew1 hb6
  have HE6 := Aside0.mk (HE5.out.below hb6')
  have HM6 := Aside0.mk (HM5.out.below hb6')
  have c6 : w6.cell? ⟨b, i, none⟩ = some (.int .i64 (rd st i)) := by obtain ⟨b', hA, hc, _⟩ := HE6.out.cell hi; cases hA; exact hc
  have f6 : w6.frozen? ⟨b, i, none⟩ = false := by obtain ⟨b', hA, _, hf, _⟩ := HE6.out.cell hi; cases hA; exact hf
  clear hb6 hb6'
  refine hK.out _ _ ⟨HE6.out.c0, HE6.out.c1, c6⟩ (fun hHeld => ?_)
  clear hK K
  refine norm_ (a' := ?_) ?_ ?_
  rotate_left
  · show Act.put _ (some 74) _ = _
    simp only [Act.put, List.setIfInBounds_toArray, List.set_cons_zero, List.set_cons_succ, i64_w, i32_w]
    rfl
  refine pure_ (i := 21) (N := some 75) (v := ?_) (a' := ?_) #[true, true, true, true, true, true, true, true, true, true, true, true, true, true, true, true, true, true, true, true, true, true, false] rfl rfl (by kernel_rfl) (fun _ _ _ h => h) (Or.inl ⟨by rfl, ?_⟩) ?_ ?_
  rotate_left
  · intro w'
    go_simp
    with_reducible rfl
  rotate_left
  · simp only [Act.put, List.setIfInBounds_toArray, List.set_cons_zero, List.set_cons_succ, i64_w, i32_w]
    rfl
  refine last_ (i := 22) (N := none) #[true, true, true, true, true, true, true, true, true, true, true, true, true, true, true, true, true, true, true, true, true, true, true] rfl rfl (by kernel_rfl) (by decide) (fun K hK => ?_)
  refine skip_ (w1 := ?_) (by rfl) rfl ?_ ?_
  rotate_left
  · go_simp
    rfl
  refine hK.out _ _ ?_
  clear hK K
  refine done_ (by kernel_rfl) ?_
  go_wp2
  obtain ⟨w0, hw0⟩ : ∃ w0, w0 = w6.setCell ⟨b, i, none⟩ (.int .i64 (after kind (rd st i) 0)) := ⟨_, rfl⟩
  rw [← hw0]
  obtain ⟨S', hS'⟩ : ∃ S' : Nat → Prop, S' = fun k => S k ∨ w.heap.size ≤ k := ⟨_, rfl⟩
  have HS2 := Aside0.mk (show ∀ k, S' k → S k ∨ w.heap.size ≤ k from fun k hk => by rw [hS'] at hk; exact hk)
  have HS3 := Aside0.mk (show ∀ k, S k ∨ w.heap.size ≤ k → S' k from fun k hk => by rw [hS']; exact hk)
  have HSS := Aside0.mk hS'
  obtain ⟨st', hst'⟩ : ∃ st' : List Int, st' = st.set i (after kind (rd st i) 0) := ⟨_, rfl⟩
  have HST := Aside0.mk hst'
  have HE4 := Aside0.mk (show RefRow w0 S' g kind (some ⟨b, 0, none⟩) c st' (cutL low mid 0) (cutH high mid 0) vo out from hst' ▸ hw0 ▸ ((HE6.out.setst hi _).mono (fun k hk => HS3.out k (.inl hk))))
  have HM4 := Aside0.mk (show Mods w w0 S from hw0 ▸ (HM6.out.setCell (.inl hSb) _))
  clear hw0 hS' hst' k0 k1 ks HE5 HE6 HM5 HM6 c6 f6
  go_loopg [] 4 (fun d wr => ∃ (l h : Int) (out1 : List Int), Aside0 (∃ A c vo, RefRow wr S' g kind A c st' l h vo out1) ∧ Aside0 (Mods w wr S) ∧ Aside0 (PutInv out (cutL low mid 0) (cutH high mid 0) d l h out1))
  case atStart => exact ⟨_, _, out, ⟨_, _, _, HE4.out⟩, HM4, HI⟩
  clear HE4 HM4 HI
  case round =>
    obtain ⟨l, h, out1, ⟨A1, c1, vo1, hE5⟩, HM5, HPI⟩ := hrel
    have HE5 := Aside0.mk hE5
    clear hE5
    have hp0 := HPI.out.l0
    have hp1 := HPI.out.lh
    have hp2 := HPI.out.h0
    have hs := fixed_calls l h
    have k2 := HE5.out.c2
    have k3 := HE5.out.c3
    by_cases cc : l / 16777216 = h / 16777216
    · rw [decide_eq_true cc] at hs
      have HSA := Aside0.mk hs
      clear hs
      obtain ⟨d', hd', hP'⟩ := HPI.out.step cc
      rw [cc] at hP'
      have HP' := Aside0.mk hP'
      have hlen1 : out1.length ≤ 1099511627780 := by have := HPI.out.len; omega
      have HD := Aside0.mk hd'
      clear hd' hP' cc
      have hb1 : 0 ≤ h / 16777216 ∧ h / 16777216 ≤ 255 := by omega
      go_wp2_with (go_at_call 80; refine (HSA.out _).mono ?_; rintro e w7 ⟨rfl, hb7⟩; have HE7 := Aside0.mk (HE5.out.below hb7); have HM7 := Aside0.mk (HM5.out.below hb7); clear hb7)
      have HE7 := Aside0.mk HE7.out.drew
      have HM7 := Aside0.mk HM7.out.drew
      have p4 := HE7.out.c4
      have p3 := HE7.out.c3
      clear HE5 HM5 k2 k3 HSA
      refine start_ (n := 17) (S := fun w' => w'.cell? ⟨g, 4, none⟩ = some vo1 ∧ w'.cell? ⟨g, 3, none⟩ = some (.int .u64 h)) (ds := [16]) #[false, false, false, false, false, false, false, false, false, false, false, false, false, false, false, false, false] (by kernel_rfl) rfl rfl ⟨p4, p3⟩ (fun hHeld => ?_)
      generalize w7.drew = w11 at p4 p3 HE7 HM7 hHeld ⊢
      refine pure_ (i := 0) (N := some 81) (v := ?_) (a' := ?_) #[true, false, false, false, false, false, false, false, false, false, false, false, false, false, false, false, false] rfl rfl (by kernel_rfl) (fun _ _ _ h => h) (Or.inl ⟨by rfl, ?_⟩) ?_ ?_
      rotate_left
      · intro w'
        go_simp
        with_reducible rfl
      rotate_left
      · simp only [Act.put, List.setIfInBounds_toArray, List.set_cons_zero, List.set_cons_succ, i64_w, i32_w]
        rfl
      refine pure_ (i := 1) (N := some 82) (v := ?_) (a' := ?_) #[true, true, false, false, false, false, false, false, false, false, false, false, false, false, false, false, false] rfl rfl (by kernel_rfl) (fun _ _ _ h => h) (Or.inl ⟨by rfl, ?_⟩) ?_ ?_
      rotate_left
      · intro w'
        go_simp
        with_reducible rfl
      rotate_left
      · simp only [Act.put, List.setIfInBounds_toArray, List.set_cons_zero, List.set_cons_succ, i64_w, i32_w]
        rfl
      refine pure_ (i := 2) (N := some 83) (v := ?_) (a' := ?_) #[true, true, true, false, false, false, false, false, false, false, false, false, false, false, false, false, false] rfl rfl (by kernel_rfl) (fun _ _ _ h => h) (Or.inl ⟨by rfl, ?_⟩) ?_ ?_
      rotate_left
      · intro w'
        go_simp
        with_reducible rfl
      rotate_left
      · simp only [Act.put, List.setIfInBounds_toArray, List.set_cons_zero, List.set_cons_succ, i64_w, i32_w]
        rfl
      refine pure_ (i := 3) (N := some 84) (v := ?_) (a' := ?_) #[true, true, true, true, false, false, false, false, false, false, false, false, false, false, false, false, false] rfl rfl (by kernel_rfl) (fun _ _ _ h => h) (Or.inl ⟨by rfl, ?_⟩) ?_ ?_
      rotate_left
      · intro w'
        go_simp
        with_reducible rfl
      rotate_left
      · simp only [Act.put, List.setIfInBounds_toArray, List.set_cons_zero, List.set_cons_succ, i64_w, i32_w]
        rfl
      refine pure_ (i := 5) (N := some 86) (v := ?_) (a' := ?_) #[true, true, true, true, false, true, false, false, false, false, false, false, false, false, false, false, false] rfl rfl (by kernel_rfl) (fun _ _ _ h => h) (Or.inl ⟨by rfl, ?_⟩) ?_ ?_
      rotate_left
      · intro w'
        go_simp
        with_reducible rfl
      rotate_left
      · simp only [Act.put, List.setIfInBounds_toArray, List.set_cons_zero, List.set_cons_succ, i64_w, i32_w]
        rfl
      refine pure_ (i := 6) (N := some 87) (v := ?_) (a' := ?_) #[true, true, true, true, false, true, true, false, false, false, false, false, false, false, false, false, false] rfl rfl (by kernel_rfl) (fun _ _ _ h => h) (Or.inl ⟨by rfl, ?_⟩) ?_ ?_
      rotate_left
      · intro w'
        go_simp
        with_reducible rfl
      rotate_left
      · simp only [Act.put, List.setIfInBounds_toArray, List.set_cons_zero, List.set_cons_succ, i64_w, i32_w]
        rfl
      refine pure_ (i := 7) (N := some 88) (v := ?_) (a' := ?_) #[true, true, true, true, false, true, true, true, false, false, false, false, false, false, false, false, false] rfl rfl (by kernel_rfl) (fun _ _ _ h => h) (Or.inl ⟨by rfl, ?_⟩) ?_ ?_
      rotate_left
      · intro w'
        go_simp
        with_reducible rfl
      rotate_left
      · simp only [Act.put, List.setIfInBounds_toArray, List.set_cons_zero, List.set_cons_succ, i64_w, i32_w]
        rfl
      refine pure_ (i := 8) (N := some 89) (v := ?_) (a' := ?_) #[true, true, true, true, false, true, true, true, true, false, false, false, false, false, false, false, false] rfl rfl (by kernel_rfl) (fun _ _ _ h => h) (Or.inl ⟨by rfl, ?_⟩) ?_ ?_
      rotate_left
      · intro w'
        go_simp
        with_reducible rfl
      rotate_left
      · simp only [Act.put, List.setIfInBounds_toArray, List.set_cons_zero, List.set_cons_succ, i64_w, i32_w]
        rfl
      refine take_ (i := 4) (N := some 85) (v := ?_) (a' := ?_) #[true, true, true, true, true, true, true, true, true, false, false, false, false, false, false, false, false] rfl rfl (by kernel_rfl) (fun _ _ _ h => h) (Or.inl ⟨by rfl, ?_⟩) hHeld ?_ ?_
      rotate_left
      · rintro w' ⟨s0, s1⟩
        go_simp
        with_reducible rfl
      rotate_left
      · simp only [Act.put, List.setIfInBounds_toArray, List.set_cons_zero, List.set_cons_succ, i64_w, i32_w]
        rfl
      refine take_ (i := 9) (N := some 90) (v := ?_) (a' := ?_) #[true, true, true, true, true, true, true, true, true, true, false, false, false, false, false, false, false] rfl rfl (by kernel_rfl) (fun _ _ _ h => h) (Or.inl ⟨by rfl, ?_⟩) hHeld ?_ ?_
      rotate_left
      · rintro w' ⟨s0, s1⟩
        go_simp
        with_reducible rfl
      rotate_left
      · simp only [Act.put, List.setIfInBounds_toArray, List.set_cons_zero, List.set_cons_succ, i64_w, i32_w]
        rfl
      refine pure_ (i := 10) (N := some 91) (v := ?_) (a' := ?_) #[true, true, true, true, true, true, true, true, true, true, true, false, false, false, false, false, false] rfl rfl (by kernel_rfl) (fun _ _ _ h => h) (Or.inl ⟨by rfl, ?_⟩) ?_ ?_
      rotate_left
      · intro w'
        go_simp
        with_reducible rfl
      rotate_left
      · simp only [Act.put, List.setIfInBounds_toArray, List.set_cons_zero, List.set_cons_succ, i64_w, i32_w]
        rfl
      refine pure_ (i := 11) (N := some 92) (v := ?_) (a' := ?_) #[true, true, true, true, true, true, true, true, true, true, true, true, false, false, false, false, false] rfl rfl (by kernel_rfl) (fun _ _ _ h => h) (Or.inl ⟨by rfl, ?_⟩) ?_ ?_
      rotate_left
      · intro w'
        go_simp
        with_reducible rfl
      rotate_left
      · simp only [Act.put, List.setIfInBounds_toArray, List.set_cons_zero, List.set_cons_succ, i64_w, i32_w]
        rfl
      refine one_ (i := 12) (N := some 93) #[true, true, true, true, true, true, true, true, true, true, true, true, true, false, false, false, false] rfl rfl (by kernel_rfl) (by decide) (fun K hK => ?_)
      refine value_ (w1 := ?_) (v := ?_) (by rfl) rfl ?_ ?_
      rotate_left 2
      · go_simp
        constructor
        · rfl
        · rfl
      refine hK.out _ _ ⟨pw_cell_below (below_alloc (Below.refl _ _) _) p4, pw_cell_below (below_alloc (Below.refl _ _) _) p3⟩ (fun hHeld => ?_)
      clear hK K
      refine norm_ (a' := ?_) ?_ ?_
      rotate_left
      · show Act.put _ (some 93) _ = _
        simp only [Act.put, List.setIfInBounds_toArray, List.set_cons_zero, List.set_cons_succ, i64_w, i32_w]
        rfl
      refine one_ (i := 13) (N := some 94) #[true, true, true, true, true, true, true, true, true, true, true, true, true, true, false, false, false] rfl rfl (by kernel_rfl) (by decide) (fun K hK => ?_)
      refine Kd.R_append_step (Kd.int .u8) 0 (by rfl) (.tmp 85) (.tmp 93) 34 5 (.int .u8 0) 1 rfl Try.underlying34 infoU8 rfl (by decide) (by decide) vo1 out1 (IntKind.u8.wrap (h / 16777216)) [.int .u8 (IntKind.u8.wrap (h / 16777216))] S' (fun _ => False) rfl rfl rfl (fun _ h => h.elim) (fun k hk => HS3.out k (.inr (Nat.le_trans HM7.out.size hk))) HE7.out.o (Below.refl 0 _) (Nat.zero_le _) (by omega) ?_
      intro v8 w8 hR8 _ hg8 hat8
      obtain ⟨A8, c8, rfl⟩ := Kd.R_slice hR8
      rw [List.length_append, List.length_cons, List.length_nil, Nat.zero_add, wraps_u8 (h / 16777216) (by omega) (by omega)] at hR8
      have hne8 := Kd.R_ne HE7.out.o HE7.out.b (by decide)
      have t4 : w8.cell? ⟨g, 4, none⟩ = some vo1 := hg8.cell p4 hne8
      have t3 : w8.cell? ⟨g, 3, none⟩ = some (.int .u64 h) := hg8.cell p3 hne8
      have z8 : w8.frozen? ⟨g, 4, none⟩ = false := blk_frozen (blk_grown HE7.out.b hg8 hne8) 4
      have HE8 := Aside0.mk (HE7.out.grew hg8 hR8)
      have HM8 := Aside0.mk ((HM7.out.of_grown hg8 (fun k hk => HS2.out k (HE7.out.o.1 k hk))).setCell (p := ⟨g, 4, none⟩) (.inl hSg) (.slice A8 (out1.length + 1) c8))
      clear hR8 hg8 hat8 hne8 HM7
      refine hK.out _ _ ⟨t4, t3⟩ (fun hHeld => ?_)
      clear hK K
      refine norm_ (a' := ?_) ?_ ?_
      rotate_left
      · show Act.put _ (some 94) _ = _
        simp only [Act.put, List.setIfInBounds_toArray, List.set_cons_zero, List.set_cons_succ, i64_w, i32_w]
        rfl
      refine pure_ (i := 14) (N := some 95) (v := ?_) (a' := ?_) #[true, true, true, true, true, true, true, true, true, true, true, true, true, true, true, false, false] rfl rfl (by kernel_rfl) (fun _ _ _ h => h) (Or.inl ⟨by rfl, ?_⟩) ?_ ?_
      rotate_left
      · intro w'
        go_simp
        with_reducible rfl
      rotate_left
      · simp only [Act.put, List.setIfInBounds_toArray, List.set_cons_zero, List.set_cons_succ, i64_w, i32_w]
        rfl
      refine pure_ (i := 15) (N := some 96) (v := ?_) (a' := ?_) #[true, true, true, true, true, true, true, true, true, true, true, true, true, true, true, true, false] rfl rfl (by kernel_rfl) (fun _ _ _ h => h) (Or.inl ⟨by rfl, ?_⟩) ?_ ?_
      rotate_left
      · intro w'
        go_simp
        with_reducible rfl
      rotate_left
      · simp only [Act.put, List.setIfInBounds_toArray, List.set_cons_zero, List.set_cons_succ, i64_w, i32_w]
        rfl
      refine last_ (i := 16) (N := none) #[true, true, true, true, true, true, true, true, true, true, true, true, true, true, true, true, true] rfl rfl (by kernel_rfl) (by decide) (fun K hK => ?_)
      refine skip_ (w1 := ?_) (by rfl) rfl ?_ ?_
      rotate_left
      · go_simp
        rfl
      refine hK.out _ _ ?_
      clear hK K
      refine done_ (by kernel_rfl) ?_
      have k2 := HE8.out.c2
      have k3 := HE8.out.c3
      obtain ⟨w9, hw9⟩ : ∃ w9, w9 = w8.setCell ⟨g, 4, none⟩ (.slice A8 (out1.length + 1) c8) := ⟨_, rfl⟩
      rw [← hw9] at HE8 HM8 k2 k3 ⊢
      clear hw9 p4 p3 t4 t3 z8
      go_wp2_with (fail)
      refine (shift_calls l h _ hp0 (by omega) (by omega) hp2).mono ?_
      rintro e w10 ⟨rfl, hb10⟩
      have HE10 := Aside0.mk (HE8.out.below hb10)
      have HM10 := Aside0.mk (HM8.out.below hb10)
      have k2 := HE10.out.c2
      have k3 := HE10.out.c3
      have f2 := HE10.out.fz 2
      have f3 := HE10.out.fz 3
      clear hb10 HE8 HM8
      go_wp2
      go_roundg d'
      case measure => have := HD.out; omega
      case rel => exact ⟨_, _, _, ⟨_, _, _, HE10.out.cut _ _⟩, ⟨(HM10.out.setCell (.inl hSg) _).setCell (.inl hSg) _⟩, HP'⟩
    · rw [decide_eq_false cc] at hs
      have HSA := Aside0.mk hs
      clear hs
      have HCC := Aside0.mk cc
      clear cc
      go_wp2_with (go_at_call 80; refine (HSA.out _).mono ?_; rintro e w7 ⟨rfl, hb7⟩; have HE7 := Aside0.mk (HE5.out.below hb7); have HM7 := Aside0.mk (HM5.out.below hb7); clear hb7)
      go_ret
      have hd := HPI.out.done HCC.out
      have hE7 := HE7.out
      rw [HSS.out, HST.out] at hE7
      exact ⟨rfl, ⟨l, h, out1, ⟨_, _, _, hE7⟩, hd.1, hd.2⟩, HM7.out⟩
set_option maxHeartbeats 4000000 in
set_option maxRecDepth 100000 in
theorem ref_row1 (w : World) (S : Nat → Prop) (g : Nat) (kind : Int) (b c : Nat) (st : List Int) (low high mid : Int) (vo : Value) (out : List Int) (i : Nat) (hE : RefRow w S g kind (some ⟨b, 0, none⟩) c st low high vo out) (hi : i < st.length) (hn : st.length ≤ 8192) (hs : okState kind (rd st i)) (hl0 : 0 ≤ low) (hlh : low ≤ high) (hh : high ≤ 4294967295) (hmid : midOf low high (likely kind (rd st i)) = mid) (hI0 : PutInv out (cutL low mid 1) (cutH high mid 1) 4 (cutL low mid 1) (cutH high mid 1) out) (hlen : out.length ≤ 1099511627776) :
    Calls Try.prog 65 #[.pointer (some ⟨g, 0, none⟩), .int .i64 i, .int .i64 1] w (RefPost w S g kind st low high mid out i 1) := by
  have HE := Aside0.mk hE
  have hSg : S g := hE.g
  have hSb : S b := hE.s.1 b (by simp [Value.ownBlock])
  have k0 := hE.c0
  have k1 := hE.c1
  have ks : w.cell? ⟨b, i, none⟩ = some (.int .i64 (rd st i)) := by obtain ⟨b', hA, hc, _⟩ := hE.cell hi; cases hA; exact hc
  have hlk := likely_range kind (rd st i) hs
  have HP := fun W => Aside0.mk (hmid ▸ part_calls low high (likely kind (rd st i)) 1 W hl0 hlh hh hlk.1 hlk.2)
  have HI := Aside0.mk hI0
  have hu := Try.underlying101
  clear hE hmid hI0
  have hi1 : (0 : Int) ≤ (i : Int) := by omega
  have hi2 : (i : Int) < (st.length : Int) := by omega
  go_enter Try.func65, Try.ntmps65
  go_wp2
  refine start_ (n := 15) (S := fun w' => w'.cell? ⟨g, 0, none⟩ = some (.int .i64 kind) ∧ w'.cell? ⟨g, 1, none⟩ = some (.slice (some ⟨b, 0, none⟩) st.length c) ∧ w'.cell? ⟨b, i, none⟩ = some (.int .i64 (rd st i))) (ds := []) #[false, false, false, false, false, false, false, false, false, false, false, false, false, false, false] (by kernel_rfl) rfl rfl ⟨k0, k1, ks⟩ (fun hHeld => ?_)
  refine pure_ (i := 0) (N := some 30) (v := ?_) (a' := ?_) #[true, false, false, false, false, false, false, false, false, false, false, false, false, false, false] rfl rfl (by kernel_rfl) (fun _ _ _ h => h) (Or.inl ⟨by rfl, ?_⟩) ?_ ?_
  rotate_left
  · intro w'
    go_simp
    with_reducible rfl
  rotate_left
  · simp only [Act.put, List.setIfInBounds_toArray, List.set_cons_zero, List.set_cons_succ, i64_w, i32_w]
    rfl
  refine pure_ (i := 1) (N := some 31) (v := ?_) (a' := ?_) #[true, true, false, false, false, false, false, false, false, false, false, false, false, false, false] rfl rfl (by kernel_rfl) (fun _ _ _ h => h) (Or.inl ⟨by rfl, ?_⟩) ?_ ?_
  rotate_left
  · intro w'
    go_simp
    with_reducible rfl
  rotate_left
  · simp only [Act.put, List.setIfInBounds_toArray, List.set_cons_zero, List.set_cons_succ, i64_w, i32_w]
    rfl
  refine pure_ (i := 2) (N := some 32) (v := ?_) (a' := ?_) #[true, true, true, false, false, false, false, false, false, false, false, false, false, false, false] rfl rfl (by kernel_rfl) (fun _ _ _ h => h) (Or.inl ⟨by rfl, ?_⟩) ?_ ?_
  rotate_left
  · intro w'
    go_simp
    with_reducible rfl
  rotate_left
  · simp only [Act.put, List.setIfInBounds_toArray, List.set_cons_zero, List.set_cons_succ, i64_w, i32_w]
    rfl
  refine pure_ (i := 3) (N := some 33) (v := ?_) (a' := ?_) #[true, true, true, true, false, false, false, false, false, false, false, false, false, false, false] rfl rfl (by kernel_rfl) (fun _ _ _ h => h) (Or.inl ⟨by rfl, ?_⟩) ?_ ?_
  rotate_left
  · intro w'
    go_simp
    with_reducible rfl
  rotate_left
  · simp only [Act.put, List.setIfInBounds_toArray, List.set_cons_zero, List.set_cons_succ, i64_w, i32_w]
    rfl
  refine pure_ (i := 5) (N := some 35) (v := ?_) (a' := ?_) #[true, true, true, true, false, true, false, false, false, false, false, false, false, false, false] rfl rfl (by kernel_rfl) (fun _ _ _ h => h) (Or.inl ⟨by rfl, ?_⟩) ?_ ?_
  rotate_left
  · intro w'
    go_simp
    with_reducible rfl
  rotate_left
  · simp only [Act.put, List.setIfInBounds_toArray, List.set_cons_zero, List.set_cons_succ, i64_w, i32_w]
    rfl
  refine pure_ (i := 6) (N := some 36) (v := ?_) (a' := ?_) #[true, true, true, true, false, true, true, false, false, false, false, false, false, false, false] rfl rfl (by kernel_rfl) (fun _ _ _ h => h) (Or.inl ⟨by rfl, ?_⟩) ?_ ?_
  rotate_left
  · intro w'
    go_simp
    with_reducible rfl
  rotate_left
  · simp only [Act.put, List.setIfInBounds_toArray, List.set_cons_zero, List.set_cons_succ, i64_w, i32_w]
    rfl
  refine pure_ (i := 7) (N := some 37) (v := ?_) (a' := ?_) #[true, true, true, true, false, true, true, true, false, false, false, false, false, false, false] rfl rfl (by kernel_rfl) (fun _ _ _ h => h) (Or.inl ⟨by rfl, ?_⟩) ?_ ?_
  rotate_left
  · intro w'
    go_simp
    with_reducible rfl
  rotate_left
  · simp only [Act.put, List.setIfInBounds_toArray, List.set_cons_zero, List.set_cons_succ, i64_w, i32_w]
    rfl
  refine pure_ (i := 8) (N := some 38) (v := ?_) (a' := ?_) #[true, true, true, true, false, true, true, true, true, false, false, false, false, false, false] rfl rfl (by kernel_rfl) (fun _ _ _ h => h) (Or.inl ⟨by rfl, ?_⟩) ?_ ?_
  rotate_left
  · intro w'
    go_simp
    with_reducible rfl
  rotate_left
  · simp only [Act.put, List.setIfInBounds_toArray, List.set_cons_zero, List.set_cons_succ, i64_w, i32_w]
    rfl
  refine pure_ (i := 10) (N := some 40) (v := ?_) (a' := ?_) #[true, true, true, true, false, true, true, true, true, false, true, false, false, false, false] rfl rfl (by kernel_rfl) (fun _ _ _ h => h) (Or.inl ⟨by rfl, ?_⟩) ?_ ?_
  rotate_left
  · intro w'
    go_simp
    with_reducible rfl
  rotate_left
  · simp only [Act.put, List.setIfInBounds_toArray, List.set_cons_zero, List.set_cons_succ, i64_w, i32_w]
    rfl
  refine take_ (i := 4) (N := some 34) (v := ?_) (a' := ?_) #[true, true, true, true, true, true, true, true, true, false, true, false, false, false, false] rfl rfl (by kernel_rfl) (fun _ _ _ h => h) (Or.inl ⟨by rfl, ?_⟩) hHeld ?_ ?_
  rotate_left
  · rintro w' ⟨s0, s1, s2⟩
    go_simp
    with_reducible rfl
  rotate_left
  · simp only [Act.put, List.setIfInBounds_toArray, List.set_cons_zero, List.set_cons_succ, i64_w, i32_w]
    rfl
  refine take_ (i := 9) (N := some 39) (v := ?_) (a' := ?_) #[true, true, true, true, true, true, true, true, true, true, true, false, false, false, false] rfl rfl (by kernel_rfl) (fun _ _ _ h => h) (Or.inl ⟨by rfl, ?_⟩) hHeld ?_ ?_
  rotate_left
  · rintro w' ⟨s0, s1, s2⟩
    go_simp
    with_reducible rfl
  rotate_left
  · simp only [Act.put, List.setIfInBounds_toArray, List.set_cons_zero, List.set_cons_succ, i64_w, i32_w]
    rfl
  refine pure_ (i := 11) (N := some 41) (v := ?_) (a' := ?_) #[true, true, true, true, true, true, true, true, true, true, true, true, false, false, false] rfl rfl (by kernel_rfl) (fun _ _ _ h => h) (Or.inl ⟨by rfl, ?_⟩) ?_ ?_
  rotate_left
  · intro w'
    go_simp
    with_reducible rfl
  rotate_left
  · simp only [Act.put, List.setIfInBounds_toArray, List.set_cons_zero, List.set_cons_succ, i64_w, i32_w]
    rfl
  refine take_ (i := 12) (N := some 42) (v := ?_) (a' := ?_) #[true, true, true, true, true, true, true, true, true, true, true, true, true, false, false] rfl rfl (by kernel_rfl) (fun _ _ _ h => h) (Or.inl ⟨by rfl, ?_⟩) hHeld ?_ ?_
  rotate_left
  · rintro w' ⟨s0, s1, s2⟩
    go_simp
    with_reducible rfl
  rotate_left
  · simp only [Act.put, List.setIfInBounds_toArray, List.set_cons_zero, List.set_cons_succ, i64_w, i32_w]
    rfl
  refine one_ (i := 13) (N := some 43) #[true, true, true, true, true, true, true, true, true, true, true, true, true, true, false] rfl rfl (by kernel_rfl) (by decide) (fun K hK => ?_)
  refine goes_ Try.func77 (by kernel_rfl) rfl #[.int .i64 kind, .int .i64 (rd st i)] (by rfl) rfl rfl (by simp only [List.map_toArray, List.map_cons, List.map_nil]; rfl) ?_
  with_reducible refine (likelyB kind (rd st i) _ hs).mono ?_
  rintro e w3 ⟨rfl, hb3⟩
  refine ⟨_, rfl, ?_⟩
  have hb3' := below_undrew1 hb3
  have HE3 := Aside0.mk (HE.out.below hb3')
  have HM3 := Aside0.mk ((Mods.refl w S).below hb3')
  clear hb3 hb3'
  refine hK.out _ _ ⟨HE3.out.c0, HE3.out.c1, by obtain ⟨b', hA, hc, _⟩ := HE3.out.cell hi; cases hA; exact hc⟩ (fun hHeld => ?_)
  clear hK K
  refine norm_ (a' := ?_) ?_ ?_
  rotate_left
  · show Act.put _ (some 43) _ = _
    simp only [Act.put, List.setIfInBounds_toArray, List.set_cons_zero, List.set_cons_succ, i64_w, i32_w]
    rfl
  refine pure_ (i := 14) (N := some 7) (v := ?_) (a' := ?_) #[true, true, true, true, true, true, true, true, true, true, true, true, true, true, true] rfl rfl (by kernel_rfl) (fun _ _ _ h => h) (Or.inl ⟨by rfl, ?_⟩) ?_ ?_
  rotate_left
  · intro w'
    go_simp
    with_reducible rfl
  rotate_left
  · simp only [Act.put, List.setIfInBounds_toArray, List.set_cons_zero, List.set_cons_succ, i64_w, i32_w]
    rfl
  refine done_ (by kernel_rfl) ?_
  clear k0 k1 ks HE
  have k2 := HE3.out.c2
  have k3 := HE3.out.c3
  have f2 := HE3.out.fz 2
  have f3 := HE3.out.fz 3
  go_wp2_with (go_at_call 79; refine (HP _).out.mono ?_; rintro e w4 ⟨rfl, hb4⟩; have HE4 := Aside0.mk (HE3.out.below hb4); have HM4 := Aside0.mk (HM3.out.below hb4); have k2 := HE4.out.c2; have k3 := HE4.out.c3; have f2 := HE4.out.fz 2; have f3 := HE4.out.fz 3; clear hb4)
  clear k2 k3 f2 f3
  obtain ⟨w5, hw5⟩ : ∃ w5, w5 = (w4.setCell ⟨g, 2, none⟩ (.int .u64 (cutL low mid 1))).setCell ⟨g, 3, none⟩ (.int .u64 (cutH high mid 1)) := ⟨_, rfl⟩
  rw [← hw5]
  have HE5 := Aside0.mk (show RefRow w5 S g kind (some ⟨b, 0, none⟩) c st (cutL low mid 1) (cutH high mid 1) vo out from hw5 ▸ HE4.out.cut _ _)
  have HM5 := Aside0.mk (show Mods w w5 S from hw5 ▸ ((HM4.out.setCell (.inl hSg) _).setCell (.inl hSg) _))
  have k0 := HE5.out.c0
  have k1 := HE5.out.c1
  have ks : w5.cell? ⟨b, i, none⟩ = some (.int .i64 (rd st i)) := by obtain ⟨b', hA, hc, _⟩ := HE5.out.cell hi; cases hA; exact hc
  clear hw5 HE3 HE4 HM3 HM4
  refine start_ (n := 23) (S := fun w' => w'.cell? ⟨g, 0, none⟩ = some (.int .i64 kind) ∧ w'.cell? ⟨g, 1, none⟩ = some (.slice (some ⟨b, 0, none⟩) st.length c) ∧ w'.cell? ⟨b, i, none⟩ = some (.int .i64 (rd st i))) (ds := [22]) #[false, false, false, false, false, false, false, false, false, false, false, false, false, false, false, false, false, false, false, false, false, false, false] (by kernel_rfl) rfl rfl ⟨k0, k1, ks⟩ (fun hHeld => ?_)
  refine pure_ (i := 0) (N := some 54) (v := ?_) (a' := ?_) #[true, false, false, false, false, false, false, false, false, false, false, false, false, false, false, false, false, false, false, false, false, false, false] rfl rfl (by kernel_rfl) (fun _ _ _ h => h) (Or.inl ⟨by rfl, ?_⟩) ?_ ?_
  rotate_left
  · intro w'
    go_simp
    with_reducible rfl
  rotate_left
  · simp only [Act.put, List.setIfInBounds_toArray, List.set_cons_zero, List.set_cons_succ, i64_w, i32_w]
    rfl
  refine pure_ (i := 1) (N := some 55) (v := ?_) (a' := ?_) #[true, true, false, false, false, false, false, false, false, false, false, false, false, false, false, false, false, false, false, false, false, false, false] rfl rfl (by kernel_rfl) (fun _ _ _ h => h) (Or.inl ⟨by rfl, ?_⟩) ?_ ?_
  rotate_left
  · intro w'
    go_simp
    with_reducible rfl
  rotate_left
  · simp only [Act.put, List.setIfInBounds_toArray, List.set_cons_zero, List.set_cons_succ, i64_w, i32_w]
    rfl
  refine pure_ (i := 2) (N := some 56) (v := ?_) (a' := ?_) #[true, true, true, false, false, false, false, false, false, false, false, false, false, false, false, false, false, false, false, false, false, false, false] rfl rfl (by kernel_rfl) (fun _ _ _ h => h) (Or.inl ⟨by rfl, ?_⟩) ?_ ?_
  rotate_left
  · intro w'
    go_simp
    with_reducible rfl
  rotate_left
  · simp only [Act.put, List.setIfInBounds_toArray, List.set_cons_zero, List.set_cons_succ, i64_w, i32_w]
    rfl
  refine pure_ (i := 3) (N := some 57) (v := ?_) (a' := ?_) #[true, true, true, true, false, false, false, false, false, false, false, false, false, false, false, false, false, false, false, false, false, false, false] rfl rfl (by kernel_rfl) (fun _ _ _ h => h) (Or.inl ⟨by rfl, ?_⟩) ?_ ?_
  rotate_left
  · intro w'
    go_simp
    with_reducible rfl
  rotate_left
  · simp only [Act.put, List.setIfInBounds_toArray, List.set_cons_zero, List.set_cons_succ, i64_w, i32_w]
    rfl
  refine pure_ (i := 5) (N := some 59) (v := ?_) (a' := ?_) #[true, true, true, true, false, true, false, false, false, false, false, false, false, false, false, false, false, false, false, false, false, false, false] rfl rfl (by kernel_rfl) (fun _ _ _ h => h) (Or.inl ⟨by rfl, ?_⟩) ?_ ?_
  rotate_left
  · intro w'
    go_simp
    with_reducible rfl
  rotate_left
  · simp only [Act.put, List.setIfInBounds_toArray, List.set_cons_zero, List.set_cons_succ, i64_w, i32_w]
    rfl
  refine pure_ (i := 6) (N := some 60) (v := ?_) (a' := ?_) #[true, true, true, true, false, true, true, false, false, false, false, false, false, false, false, false, false, false, false, false, false, false, false] rfl rfl (by kernel_rfl) (fun _ _ _ h => h) (Or.inl ⟨by rfl, ?_⟩) ?_ ?_
  rotate_left
  · intro w'
    go_simp
    with_reducible rfl
  rotate_left
  · simp only [Act.put, List.setIfInBounds_toArray, List.set_cons_zero, List.set_cons_succ, i64_w, i32_w]
    rfl
  refine pure_ (i := 7) (N := some 61) (v := ?_) (a' := ?_) #[true, true, true, true, false, true, true, true, false, false, false, false, false, false, false, false, false, false, false, false, false, false, false] rfl rfl (by kernel_rfl) (fun _ _ _ h => h) (Or.inl ⟨by rfl, ?_⟩) ?_ ?_
  rotate_left
  · intro w'
    go_simp
    with_reducible rfl
  rotate_left
  · simp only [Act.put, List.setIfInBounds_toArray, List.set_cons_zero, List.set_cons_succ, i64_w, i32_w]
    rfl
  refine pure_ (i := 8) (N := some 62) (v := ?_) (a' := ?_) #[true, true, true, true, false, true, true, true, true, false, false, false, false, false, false, false, false, false, false, false, false, false, false] rfl rfl (by kernel_rfl) (fun _ _ _ h => h) (Or.inl ⟨by rfl, ?_⟩) ?_ ?_
  rotate_left
  · intro w'
    go_simp
    with_reducible rfl
  rotate_left
  · simp only [Act.put, List.setIfInBounds_toArray, List.set_cons_zero, List.set_cons_succ, i64_w, i32_w]
    rfl
  refine pure_ (i := 9) (N := some 63) (v := ?_) (a' := ?_) #[true, true, true, true, false, true, true, true, true, true, false, false, false, false, false, false, false, false, false, false, false, false, false] rfl rfl (by kernel_rfl) (fun _ _ _ h => h) (Or.inl ⟨by rfl, ?_⟩) ?_ ?_
  rotate_left
  · intro w'
    go_simp
    with_reducible rfl
  rotate_left
  · simp only [Act.put, List.setIfInBounds_toArray, List.set_cons_zero, List.set_cons_succ, i64_w, i32_w]
    rfl
  refine pure_ (i := 11) (N := some 65) (v := ?_) (a' := ?_) #[true, true, true, true, false, true, true, true, true, true, false, true, false, false, false, false, false, false, false, false, false, false, false] rfl rfl (by kernel_rfl) (fun _ _ _ h => h) (Or.inl ⟨by rfl, ?_⟩) ?_ ?_
  rotate_left
  · intro w'
    go_simp
    with_reducible rfl
  rotate_left
  · simp only [Act.put, List.setIfInBounds_toArray, List.set_cons_zero, List.set_cons_succ, i64_w, i32_w]
    rfl
  refine pure_ (i := 12) (N := some 66) (v := ?_) (a' := ?_) #[true, true, true, true, false, true, true, true, true, true, false, true, true, false, false, false, false, false, false, false, false, false, false] rfl rfl (by kernel_rfl) (fun _ _ _ h => h) (Or.inl ⟨by rfl, ?_⟩) ?_ ?_
  rotate_left
  · intro w'
    go_simp
    with_reducible rfl
  rotate_left
  · simp only [Act.put, List.setIfInBounds_toArray, List.set_cons_zero, List.set_cons_succ, i64_w, i32_w]
    rfl
  refine pure_ (i := 13) (N := some 67) (v := ?_) (a' := ?_) #[true, true, true, true, false, true, true, true, true, true, false, true, true, true, false, false, false, false, false, false, false, false, false] rfl rfl (by kernel_rfl) (fun _ _ _ h => h) (Or.inl ⟨by rfl, ?_⟩) ?_ ?_
  rotate_left
  · intro w'
    go_simp
    with_reducible rfl
  rotate_left
  · simp only [Act.put, List.setIfInBounds_toArray, List.set_cons_zero, List.set_cons_succ, i64_w, i32_w]
    rfl
  refine pure_ (i := 14) (N := some 68) (v := ?_) (a' := ?_) #[true, true, true, true, false, true, true, true, true, true, false, true, true, true, true, false, false, false, false, false, false, false, false] rfl rfl (by kernel_rfl) (fun _ _ _ h => h) (Or.inl ⟨by rfl, ?_⟩) ?_ ?_
  rotate_left
  · intro w'
    go_simp
    with_reducible rfl
  rotate_left
  · simp only [Act.put, List.setIfInBounds_toArray, List.set_cons_zero, List.set_cons_succ, i64_w, i32_w]
    rfl
  refine pure_ (i := 16) (N := some 70) (v := ?_) (a' := ?_) #[true, true, true, true, false, true, true, true, true, true, false, true, true, true, true, false, true, false, false, false, false, false, false] rfl rfl (by kernel_rfl) (fun _ _ _ h => h) (Or.inl ⟨by rfl, ?_⟩) ?_ ?_
  rotate_left
  · intro w'
    go_simp
    with_reducible rfl
  rotate_left
  · simp only [Act.put, List.setIfInBounds_toArray, List.set_cons_zero, List.set_cons_succ, i64_w, i32_w]
    rfl
  refine pure_ (i := 19) (N := some 73) (v := ?_) (a' := ?_) #[true, true, true, true, false, true, true, true, true, true, false, true, true, true, true, false, true, false, false, true, false, false, false] rfl rfl (by kernel_rfl) (fun _ _ _ h => h) (Or.inl ⟨by rfl, ?_⟩) ?_ ?_
  rotate_left
  · intro w'
    go_simp
    with_reducible rfl
  rotate_left
  · simp only [Act.put, List.setIfInBounds_toArray, List.set_cons_zero, List.set_cons_succ, i64_w, i32_w]
    rfl
  refine take_ (i := 4) (N := some 58) (v := ?_) (a' := ?_) #[true, true, true, true, true, true, true, true, true, true, false, true, true, true, true, false, true, false, false, true, false, false, false] rfl rfl (by kernel_rfl) (fun _ _ _ h => h) (Or.inl ⟨by rfl, ?_⟩) hHeld ?_ ?_
  rotate_left
  · rintro w' ⟨s0, s1, s2⟩
    go_simp
    with_reducible rfl
  rotate_left
  · simp only [Act.put, List.setIfInBounds_toArray, List.set_cons_zero, List.set_cons_succ, i64_w, i32_w]
    rfl
  refine take_ (i := 10) (N := some 64) (v := ?_) (a' := ?_) #[true, true, true, true, true, true, true, true, true, true, true, true, true, true, true, false, true, false, false, true, false, false, false] rfl rfl (by kernel_rfl) (fun _ _ _ h => h) (Or.inl ⟨by rfl, ?_⟩) hHeld ?_ ?_
  rotate_left
  · rintro w' ⟨s0, s1, s2⟩
    go_simp
    with_reducible rfl
  rotate_left
  · simp only [Act.put, List.setIfInBounds_toArray, List.set_cons_zero, List.set_cons_succ, i64_w, i32_w]
    rfl
  refine take_ (i := 15) (N := some 69) (v := ?_) (a' := ?_) #[true, true, true, true, true, true, true, true, true, true, true, true, true, true, true, true, true, false, false, true, false, false, false] rfl rfl (by kernel_rfl) (fun _ _ _ h => h) (Or.inl ⟨by rfl, ?_⟩) hHeld ?_ ?_
  rotate_left
  · rintro w' ⟨s0, s1, s2⟩
    go_simp
    with_reducible rfl
  rotate_left
  · simp only [Act.put, List.setIfInBounds_toArray, List.set_cons_zero, List.set_cons_succ, i64_w, i32_w]
    rfl
  refine pure_ (i := 17) (N := some 71) (v := ?_) (a' := ?_) #[true, true, true, true, true, true, true, true, true, true, true, true, true, true, true, true, true, true, false, true, false, false, false] rfl rfl (by kernel_rfl) (fun _ _ _ h => h) (Or.inl ⟨by rfl, ?_⟩) ?_ ?_
  rotate_left
  · intro w'
    go_simp
    with_reducible rfl
  rotate_left
  · simp only [Act.put, List.setIfInBounds_toArray, List.set_cons_zero, List.set_cons_succ, i64_w, i32_w]
    rfl
  refine take_ (i := 18) (N := some 72) (v := ?_) (a' := ?_) #[true, true, true, true, true, true, true, true, true, true, true, true, true, true, true, true, true, true, true, true, false, false, false] rfl rfl (by kernel_rfl) (fun _ _ _ h => h) (Or.inl ⟨by rfl, ?_⟩) hHeld ?_ ?_
  rotate_left
  · rintro w' ⟨s0, s1, s2⟩
    go_simp
    with_reducible rfl
  rotate_left
  · simp only [Act.put, List.setIfInBounds_toArray, List.set_cons_zero, List.set_cons_succ, i64_w, i32_w]
    rfl
  refine one_ (i := 20) (N := some 74) #[true, true, true, true, true, true, true, true, true, true, true, true, true, true, true, true, true, true, true, true, true, false, false] rfl rfl (by kernel_rfl) (by decide) (fun K hK => ?_)
  refine goes_ Try.func82 (by kernel_rfl) rfl #[.int .i64 kind, .int .i64 (rd st i), .int .i64 1] (by rfl) rfl rfl (by simp only [List.map_toArray, List.map_cons, List.map_nil]; rfl) ?_
  with_reducible refine (ref_after kind (rd st i) 1 _ hs (by decide)).mono ?_
  rintro e w6 ⟨rfl, hb6⟩
  refine ⟨_, rfl, ?_⟩
  have hb6' := below_undrew1 hb6
  have HE6 := Aside0.mk (HE5.out.below hb6')
  have HM6 := Aside0.mk (HM5.out.below hb6')
  have c6 : w6.cell? ⟨b, i, none⟩ = some (.int .i64 (rd st i)) := by obtain ⟨b', hA, hc, _⟩ := HE6.out.cell hi; cases hA; exact hc
  have f6 : w6.frozen? ⟨b, i, none⟩ = false := by obtain ⟨b', hA, _, hf, _⟩ := HE6.out.cell hi; cases hA; exact hf
  clear hb6 hb6'
  refine hK.out _ _ ⟨HE6.out.c0, HE6.out.c1, c6⟩ (fun hHeld => ?_)
  clear hK K
  refine norm_ (a' := ?_) ?_ ?_
  rotate_left
  · show Act.put _ (some 74) _ = _
    simp only [Act.put, List.setIfInBounds_toArray, List.set_cons_zero, List.set_cons_succ, i64_w, i32_w]
    rfl
  refine pure_ (i := 21) (N := some 75) (v := ?_) (a' := ?_) #[true, true, true, true, true, true, true, true, true, true, true, true, true, true, true, true, true, true, true, true, true, true, false] rfl rfl (by kernel_rfl) (fun _ _ _ h => h) (Or.inl ⟨by rfl, ?_⟩) ?_ ?_
  rotate_left
  · intro w'
    go_simp
    with_reducible rfl
  rotate_left
  · simp only [Act.put, List.setIfInBounds_toArray, List.set_cons_zero, List.set_cons_succ, i64_w, i32_w]
    rfl
  refine last_ (i := 22) (N := none) #[true, true, true, true, true, true, true, true, true, true, true, true, true, true, true, true, true, true, true, true, true, true, true] rfl rfl (by kernel_rfl) (by decide) (fun K hK => ?_)
  refine skip_ (w1 := ?_) (by rfl) rfl ?_ ?_
  rotate_left
  · go_simp
    rfl
  refine hK.out _ _ ?_
  clear hK K
  refine done_ (by kernel_rfl) ?_
  go_wp2
  obtain ⟨w0, hw0⟩ : ∃ w0, w0 = w6.setCell ⟨b, i, none⟩ (.int .i64 (after kind (rd st i) 1)) := ⟨_, rfl⟩
  rw [← hw0]
  obtain ⟨S', hS'⟩ : ∃ S' : Nat → Prop, S' = fun k => S k ∨ w.heap.size ≤ k := ⟨_, rfl⟩
  have HS2 := Aside0.mk (show ∀ k, S' k → S k ∨ w.heap.size ≤ k from fun k hk => by rw [hS'] at hk; exact hk)
  have HS3 := Aside0.mk (show ∀ k, S k ∨ w.heap.size ≤ k → S' k from fun k hk => by rw [hS']; exact hk)
  have HSS := Aside0.mk hS'
  obtain ⟨st', hst'⟩ : ∃ st' : List Int, st' = st.set i (after kind (rd st i) 1) := ⟨_, rfl⟩
  have HST := Aside0.mk hst'
  have HE4 := Aside0.mk (show RefRow w0 S' g kind (some ⟨b, 0, none⟩) c st' (cutL low mid 1) (cutH high mid 1) vo out from hst' ▸ hw0 ▸ ((HE6.out.setst hi _).mono (fun k hk => HS3.out k (.inl hk))))
  have HM4 := Aside0.mk (show Mods w w0 S from hw0 ▸ (HM6.out.setCell (.inl hSb) _))
  clear hw0 hS' hst' k0 k1 ks HE5 HE6 HM5 HM6 c6 f6
  go_loopg [] 4 (fun d wr => ∃ (l h : Int) (out1 : List Int), Aside0 (∃ A c vo, RefRow wr S' g kind A c st' l h vo out1) ∧ Aside0 (Mods w wr S) ∧ Aside0 (PutInv out (cutL low mid 1) (cutH high mid 1) d l h out1))
  case atStart => exact ⟨_, _, out, ⟨_, _, _, HE4.out⟩, HM4, HI⟩
  clear HE4 HM4 HI
  case round =>
    obtain ⟨l, h, out1, ⟨A1, c1, vo1, hE5⟩, HM5, HPI⟩ := hrel
    have HE5 := Aside0.mk hE5
    clear hE5
    have hp0 := HPI.out.l0
    have hp1 := HPI.out.lh
    have hp2 := HPI.out.h0
    have hs := fixed_calls l h
    have k2 := HE5.out.c2
    have k3 := HE5.out.c3
    by_cases cc : l / 16777216 = h / 16777216
    · rw [decide_eq_true cc] at hs
      have HSA := Aside0.mk hs
      clear hs
      obtain ⟨d', hd', hP'⟩ := HPI.out.step cc
      rw [cc] at hP'
      have HP' := Aside0.mk hP'
      have hlen1 : out1.length ≤ 1099511627780 := by have := HPI.out.len; omega
      have HD := Aside0.mk hd'
      clear hd' hP' cc
      have hb1 : 0 ≤ h / 16777216 ∧ h / 16777216 ≤ 255 := by omega
      go_wp2_with (go_at_call 80; refine (HSA.out _).mono ?_; rintro e w7 ⟨rfl, hb7⟩; have HE7 := Aside0.mk (HE5.out.below hb7); have HM7 := Aside0.mk (HM5.out.below hb7); clear hb7)
      have HE7 := Aside0.mk HE7.out.drew
      have HM7 := Aside0.mk HM7.out.drew
      have p4 := HE7.out.c4
      have p3 := HE7.out.c3
      clear HE5 HM5 k2 k3 HSA
      refine start_ (n := 17) (S := fun w' => w'.cell? ⟨g, 4, none⟩ = some vo1 ∧ w'.cell? ⟨g, 3, none⟩ = some (.int .u64 h)) (ds := [16]) #[false, false, false, false, false, false, false, false, false, false, false, false, false, false, false, false, false] (by kernel_rfl) rfl rfl ⟨p4, p3⟩ (fun hHeld => ?_)
      generalize w7.drew = w11 at p4 p3 HE7 HM7 hHeld ⊢
      refine pure_ (i := 0) (N := some 81) (v := ?_) (a' := ?_) #[true, false, false, false, false, false, false, false, false, false, false, false, false, false, false, false, false] rfl rfl (by kernel_rfl) (fun _ _ _ h => h) (Or.inl ⟨by rfl, ?_⟩) ?_ ?_
      rotate_left
      · intro w'
        go_simp
        with_reducible rfl
      rotate_left
      · simp only [Act.put, List.setIfInBounds_toArray, List.set_cons_zero, List.set_cons_succ, i64_w, i32_w]
        rfl
      refine pure_ (i := 1) (N := some 82) (v := ?_) (a' := ?_) #[true, true, false, false, false, false, false, false, false, false, false, false, false, false, false, false, false] rfl rfl (by kernel_rfl) (fun _ _ _ h => h) (Or.inl ⟨by rfl, ?_⟩) ?_ ?_
      rotate_left
      · intro w'
        go_simp
        with_reducible rfl
      rotate_left
      · simp only [Act.put, List.setIfInBounds_toArray, List.set_cons_zero, List.set_cons_succ, i64_w, i32_w]
        rfl
      refine pure_ (i := 2) (N := some 83) (v := ?_) (a' := ?_) #[true, true, true, false, false, false, false, false, false, false, false, false, false, false, false, false, false] rfl rfl (by kernel_rfl) (fun _ _ _ h => h) (Or.inl ⟨by rfl, ?_⟩) ?_ ?_
      rotate_left
      · intro w'
        go_simp
        with_reducible rfl
      rotate_left
      · simp only [Act.put, List.setIfInBounds_toArray, List.set_cons_zero, List.set_cons_succ, i64_w, i32_w]
        rfl
      refine pure_ (i := 3) (N := some 84) (v := ?_) (a' := ?_) #[true, true, true, true, false, false, false, false, false, false, false, false, false, false, false, false, false] rfl rfl (by kernel_rfl) (fun _ _ _ h => h) (Or.inl ⟨by rfl, ?_⟩) ?_ ?_
      rotate_left
      · intro w'
        go_simp
        with_reducible rfl
      rotate_left
      · simp only [Act.put, List.setIfInBounds_toArray, List.set_cons_zero, List.set_cons_succ, i64_w, i32_w]
        rfl
      refine pure_ (i := 5) (N := some 86) (v := ?_) (a' := ?_) #[true, true, true, true, false, true, false, false, false, false, false, false, false, false, false, false, false] rfl rfl (by kernel_rfl) (fun _ _ _ h => h) (Or.inl ⟨by rfl, ?_⟩) ?_ ?_
      rotate_left
      · intro w'
        go_simp
        with_reducible rfl
      rotate_left
      · simp only [Act.put, List.setIfInBounds_toArray, List.set_cons_zero, List.set_cons_succ, i64_w, i32_w]
        rfl
      refine pure_ (i := 6) (N := some 87) (v := ?_) (a' := ?_) #[true, true, true, true, false, true, true, false, false, false, false, false, false, false, false, false, false] rfl rfl (by kernel_rfl) (fun _ _ _ h => h) (Or.inl ⟨by rfl, ?_⟩) ?_ ?_
      rotate_left
      · intro w'
        go_simp
        with_reducible rfl
      rotate_left
      · simp only [Act.put, List.setIfInBounds_toArray, List.set_cons_zero, List.set_cons_succ, i64_w, i32_w]
        rfl
      refine pure_ (i := 7) (N := some 88) (v := ?_) (a' := ?_) #[true, true, true, true, false, true, true, true, false, false, false, false, false, false, false, false, false] rfl rfl (by kernel_rfl) (fun _ _ _ h => h) (Or.inl ⟨by rfl, ?_⟩) ?_ ?_
      rotate_left
      · intro w'
        go_simp
        with_reducible rfl
      rotate_left
      · simp only [Act.put, List.setIfInBounds_toArray, List.set_cons_zero, List.set_cons_succ, i64_w, i32_w]
        rfl
      refine pure_ (i := 8) (N := some 89) (v := ?_) (a' := ?_) #[true, true, true, true, false, true, true, true, true, false, false, false, false, false, false, false, false] rfl rfl (by kernel_rfl) (fun _ _ _ h => h) (Or.inl ⟨by rfl, ?_⟩) ?_ ?_
      rotate_left
      · intro w'
        go_simp
        with_reducible rfl
      rotate_left
      · simp only [Act.put, List.setIfInBounds_toArray, List.set_cons_zero, List.set_cons_succ, i64_w, i32_w]
        rfl
      refine take_ (i := 4) (N := some 85) (v := ?_) (a' := ?_) #[true, true, true, true, true, true, true, true, true, false, false, false, false, false, false, false, false] rfl rfl (by kernel_rfl) (fun _ _ _ h => h) (Or.inl ⟨by rfl, ?_⟩) hHeld ?_ ?_
      rotate_left
      · rintro w' ⟨s0, s1⟩
        go_simp
        with_reducible rfl
      rotate_left
      · simp only [Act.put, List.setIfInBounds_toArray, List.set_cons_zero, List.set_cons_succ, i64_w, i32_w]
        rfl
      refine take_ (i := 9) (N := some 90) (v := ?_) (a' := ?_) #[true, true, true, true, true, true, true, true, true, true, false, false, false, false, false, false, false] rfl rfl (by kernel_rfl) (fun _ _ _ h => h) (Or.inl ⟨by rfl, ?_⟩) hHeld ?_ ?_
      rotate_left
      · rintro w' ⟨s0, s1⟩
        go_simp
        with_reducible rfl
      rotate_left
      · simp only [Act.put, List.setIfInBounds_toArray, List.set_cons_zero, List.set_cons_succ, i64_w, i32_w]
        rfl
      refine pure_ (i := 10) (N := some 91) (v := ?_) (a' := ?_) #[true, true, true, true, true, true, true, true, true, true, true, false, false, false, false, false, false] rfl rfl (by kernel_rfl) (fun _ _ _ h => h) (Or.inl ⟨by rfl, ?_⟩) ?_ ?_
      rotate_left
      · intro w'
        go_simp
        with_reducible rfl
      rotate_left
      · simp only [Act.put, List.setIfInBounds_toArray, List.set_cons_zero, List.set_cons_succ, i64_w, i32_w]
        rfl
      refine pure_ (i := 11) (N := some 92) (v := ?_) (a' := ?_) #[true, true, true, true, true, true, true, true, true, true, true, true, false, false, false, false, false] rfl rfl (by kernel_rfl) (fun _ _ _ h => h) (Or.inl ⟨by rfl, ?_⟩) ?_ ?_
      rotate_left
      · intro w'
        go_simp
        with_reducible rfl
      rotate_left
      · simp only [Act.put, List.setIfInBounds_toArray, List.set_cons_zero, List.set_cons_succ, i64_w, i32_w]
        rfl
      refine one_ (i := 12) (N := some 93) #[true, true, true, true, true, true, true, true, true, true, true, true, true, false, false, false, false] rfl rfl (by kernel_rfl) (by decide) (fun K hK => ?_)
      refine value_ (w1 := ?_) (v := ?_) (by rfl) rfl ?_ ?_
      rotate_left 2
      · go_simp
        constructor
        · rfl
        · rfl
      refine hK.out _ _ ⟨pw_cell_below (below_alloc (Below.refl _ _) _) p4, pw_cell_below (below_alloc (Below.refl _ _) _) p3⟩ (fun hHeld => ?_)
      clear hK K
      refine norm_ (a' := ?_) ?_ ?_
      rotate_left
      · show Act.put _ (some 93) _ = _
        simp only [Act.put, List.setIfInBounds_toArray, List.set_cons_zero, List.set_cons_succ, i64_w, i32_w]
        rfl
      refine one_ (i := 13) (N := some 94) #[true, true, true, true, true, true, true, true, true, true, true, true, true, true, false, false, false] rfl rfl (by kernel_rfl) (by decide) (fun K hK => ?_)
      refine Kd.R_append_step (Kd.int .u8) 0 (by rfl) (.tmp 85) (.tmp 93) 34 5 (.int .u8 0) 1 rfl Try.underlying34 infoU8 rfl (by decide) (by decide) vo1 out1 (IntKind.u8.wrap (h / 16777216)) [.int .u8 (IntKind.u8.wrap (h / 16777216))] S' (fun _ => False) rfl rfl rfl (fun _ h => h.elim) (fun k hk => HS3.out k (.inr (Nat.le_trans HM7.out.size hk))) HE7.out.o (Below.refl 0 _) (Nat.zero_le _) (by omega) ?_
      intro v8 w8 hR8 _ hg8 hat8
      obtain ⟨A8, c8, rfl⟩ := Kd.R_slice hR8
      rw [List.length_append, List.length_cons, List.length_nil, Nat.zero_add, wraps_u8 (h / 16777216) (by omega) (by omega)] at hR8
      have hne8 := Kd.R_ne HE7.out.o HE7.out.b (by decide)
      have t4 : w8.cell? ⟨g, 4, none⟩ = some vo1 := hg8.cell p4 hne8
      have t3 : w8.cell? ⟨g, 3, none⟩ = some (.int .u64 h) := hg8.cell p3 hne8
      have z8 : w8.frozen? ⟨g, 4, none⟩ = false := blk_frozen (blk_grown HE7.out.b hg8 hne8) 4
      have HE8 := Aside0.mk (HE7.out.grew hg8 hR8)
      have HM8 := Aside0.mk ((HM7.out.of_grown hg8 (fun k hk => HS2.out k (HE7.out.o.1 k hk))).setCell (p := ⟨g, 4, none⟩) (.inl hSg) (.slice A8 (out1.length + 1) c8))
      clear hR8 hg8 hat8 hne8 HM7
      refine hK.out _ _ ⟨t4, t3⟩ (fun hHeld => ?_)
      clear hK K
      refine norm_ (a' := ?_) ?_ ?_
      rotate_left
      · show Act.put _ (some 94) _ = _
        simp only [Act.put, List.setIfInBounds_toArray, List.set_cons_zero, List.set_cons_succ, i64_w, i32_w]
        rfl
      refine pure_ (i := 14) (N := some 95) (v := ?_) (a' := ?_) #[true, true, true, true, true, true, true, true, true, true, true, true, true, true, true, false, false] rfl rfl (by kernel_rfl) (fun _ _ _ h => h) (Or.inl ⟨by rfl, ?_⟩) ?_ ?_
      rotate_left
      · intro w'
        go_simp
        with_reducible rfl
      rotate_left
      · simp only [Act.put, List.setIfInBounds_toArray, List.set_cons_zero, List.set_cons_succ, i64_w, i32_w]
        rfl
      refine pure_ (i := 15) (N := some 96) (v := ?_) (a' := ?_) #[true, true, true, true, true, true, true, true, true, true, true, true, true, true, true, true, false] rfl rfl (by kernel_rfl) (fun _ _ _ h => h) (Or.inl ⟨by rfl, ?_⟩) ?_ ?_
      rotate_left
      · intro w'
        go_simp
        with_reducible rfl
      rotate_left
      · simp only [Act.put, List.setIfInBounds_toArray, List.set_cons_zero, List.set_cons_succ, i64_w, i32_w]
        rfl
      refine last_ (i := 16) (N := none) #[true, true, true, true, true, true, true, true, true, true, true, true, true, true, true, true, true] rfl rfl (by kernel_rfl) (by decide) (fun K hK => ?_)
      refine skip_ (w1 := ?_) (by rfl) rfl ?_ ?_
      rotate_left
      · go_simp
        rfl
      refine hK.out _ _ ?_
      clear hK K
      refine done_ (by kernel_rfl) ?_
      have k2 := HE8.out.c2
      have k3 := HE8.out.c3
      obtain ⟨w9, hw9⟩ : ∃ w9, w9 = w8.setCell ⟨g, 4, none⟩ (.slice A8 (out1.length + 1) c8) := ⟨_, rfl⟩
      rw [← hw9] at HE8 HM8 k2 k3 ⊢
      clear hw9 p4 p3 t4 t3 z8
      go_wp2_with (fail)
      refine (shift_calls l h _ hp0 (by omega) (by omega) hp2).mono ?_
      rintro e w10 ⟨rfl, hb10⟩
      have HE10 := Aside0.mk (HE8.out.below hb10)
      have HM10 := Aside0.mk (HM8.out.below hb10)
      have k2 := HE10.out.c2
      have k3 := HE10.out.c3
      have f2 := HE10.out.fz 2
      have f3 := HE10.out.fz 3
      clear hb10 HE8 HM8
      go_wp2
      go_roundg d'
      case measure => have := HD.out; omega
      case rel => exact ⟨_, _, _, ⟨_, _, _, HE10.out.cut _ _⟩, ⟨(HM10.out.setCell (.inl hSg) _).setCell (.inl hSg) _⟩, HP'⟩
    · rw [decide_eq_false cc] at hs
      have HSA := Aside0.mk hs
      clear hs
      have HCC := Aside0.mk cc
      clear cc
      go_wp2_with (go_at_call 80; refine (HSA.out _).mono ?_; rintro e w7 ⟨rfl, hb7⟩; have HE7 := Aside0.mk (HE5.out.below hb7); have HM7 := Aside0.mk (HM5.out.below hb7); clear hb7)
      go_ret
      have hd := HPI.out.done HCC.out
      have hE7 := HE7.out
      rw [HSS.out, HST.out] at hE7
      exact ⟨rfl, ⟨l, h, out1, ⟨_, _, _, hE7⟩, hd.1, hd.2⟩, HM7.out⟩
end Go.Proofs.Ytlnhahnnjbfjdaa.RefPut
namespace Go.Proofs.Ytlnhahnnjbfjdaa.RefEnd
open Go Go.RowKit Go.Proofs.YtlnhahnnjbfjdaaW.PrintWords Go.Proofs.YtlnhahnnjbfjdaaW.PrintLast Go.Proofs.YtlnhahnnjbfjdaaW.PrintMore Go.Proofs.Ytlnhahnnjbfjdaa.Aid Go.Proofs.Ytlnhahnnjbfjdaa.HandAid Go.Proofs.Ytlnhahnnjbfjdaa.Cod1 Go.Proofs.Ytlnhahnnjbfjdaa.Cod2 Go.Proofs.Ytlnhahnnjbfjdaa.Cod3 Go.Proofs.Ytlnhahnnjbfjdaa.Mod Go.Proofs.Ytlnhahnnjbfjdaa.Enc Go.Proofs.Ytlnhahnnjbfjdaa.Mods Go.Proofs.Ytlnhahnnjbfjdaa.EncAt Go.Proofs.Ytlnhahnnjbfjdaa.Put Go.Proofs.Ytlnhahnnjbfjdaa.End Go.Proofs.Ytlnhahnnjbfjdaa.Snc Go.Proofs.Ytlnhahnnjbfjdaa.RefAt Go.Proofs.Ytlnhahnnjbfjdaa.RefPut Go.Proofs.Ytlnhahnnjbfjdaa.U
/-- The highest k bytes, as a number. -/
def topOf (high : Int) (k : Nat) : Int := if k = 0 then high / 4294967296 * 4294967296 else if k = 1 then high / 16777216 * 16777216 else if k = 2 then high / 65536 * 65536 else if k = 3 then high / 256 * 256 else high
set_option maxHeartbeats 4000000 in
set_option maxRecDepth 100000 in
theorem iend_calls (low high : Int) (w : World) (hl0 : 0 ≤ low) (hlh : low ≤ high) (hh : high ≤ 4294967295) :
    Calls Try.prog 67 #[.agg #[.int .u64 low, .int .u64 high]] w (EndPost w (endOf low high)) := by
  have hh0 : 0 ≤ high := by omega
  go_enter Try.func67, Try.ntmps67
  go_wp2
  go_loopg [3, 4] 5 (fun d o n wr => ∃ (k : Nat), k ≤ 4 ∧ Aside0 (k + d = 5) ∧ n = .int .u64 (topOf high k) ∧ ∃ A c, o = .slice A k c ∧ Aside0 (k ≤ endN low high) ∧ Aside0 (wr.heap[w.heap.size]? = some (.cells #[.int .u64 low, .int .u64 high] 101 (0, 0))) ∧ Aside0 (Kd.R (Kd.int .u8) 5 wr w.heap.size (fun _ => True) (.slice A k c) ((hiBytes high).take k)) ∧ Aside0 (Below w.heap.size w wr))
  case atStart => exact ⟨0, by omega, ⟨by omega⟩, by (show Value.int IntKind.u64 0 = _; rw [show topOf high 0 = 0 from (by unfold topOf; rw [if_pos rfl]; omega)]), none, 0, rfl, ⟨Nat.zero_le _⟩, ⟨heap_new w _⟩, ⟨Kd.R_nil _ _ _ _ _⟩, ⟨below_alloc (Below.refl _ _) _⟩⟩
  case round =>
    obtain ⟨k, hk, HD, rfl, A3, c3, rfl, HK, HZ, HR4, HB4⟩ := hrel
    have k0 : wr.cell? ⟨w.heap.size, 0, none⟩ = some (.int .u64 low) := (blk_cell HZ.out 0).trans rfl
    have k1 : wr.cell? ⟨w.heap.size, 1, none⟩ = some (.int .u64 high) := (blk_cell HZ.out 1).trans rfl
    have hcase : k = 0 ∨ k = 1 ∨ k = 2 ∨ k = 3 ∨ k = 4 := by omega
    rcases hcase with rfl | rfl | rfl | rfl | rfl
    · rw [show topOf high 0 = high / 4294967296 * 4294967296 from rfl]
      by_cases ct : high / 4294967296 * 4294967296 < low
      · have HN : 1 ≤ endN low high := by
          have := HK.out
          unfold endN at this ⊢
          repeat' split
          all_goals (first | omega | (split at this <;> omega))
        have hle := HB4.out.size
        have hbl := blk_lt HZ.out
        go_wp2_with (at_builtin; refine Kd.R_append (Kd.int .u8) (w0 := w) w.heap.size (by rfl) (.tmp 14) (.tmp 20) 34 5 (.int .u8 0) 1 rfl Try.underlying34 infoU8 rfl (by decide) (by decide) (.slice A3 0 c3) ((hiBytes high).take 0) (high / 16777216) [.int .u8 (high / 16777216)] (fun _ => True) (fun _ => False) rfl rfl rfl (fun _ h => h.elim) (fun _ _ => trivial) HR4.out HB4.out hle (by simp [hiBytes]) ?_; intro v8 w8 hR8 hB8 hg8 hat8; obtain ⟨A8, c8, hv8⟩ := Kd.R_slice hR8; rw [show ((hiBytes high).take 0 ++ [high / 16777216]).length = 1 by simp [hiBytes]] at hv8; subst hv8; have HR8 := Aside0.mk (show Kd.R (Kd.int .u8) 5 w8 w.heap.size (fun _ => True) (.slice A8 1 c8) ((hiBytes high).take 1) from by simpa [hiBytes] using hR8); have HZ8 := Aside0.mk (blk_grown HZ.out hg8 (Kd.R_ne HR4.out HZ.out (by decide))); have k0 : w8.cell? ⟨w.heap.size, 0, none⟩ = some (.int .u64 low) := (blk_cell HZ8.out 0).trans rfl; have k1 : w8.cell? ⟨w.heap.size, 1, none⟩ = some (.int .u64 high) := (blk_cell HZ8.out 1).trans rfl; have HB8 := Aside0.mk hB8; clear hR8 hB8 hg8 hat8)
        go_roundg 4
        case measure => have := HD.out; omega
        case rel => exact ⟨1, by omega, ⟨by omega⟩, by (rw [show topOf high 1 = high / 16777216 * 16777216 from rfl]; congr 1; omega), A8, c8, rfl, ⟨HN⟩, HZ8, HR8, HB8⟩
      · have hEN : endN low high = 0 := by
          have := HK.out
          unfold endN at this ⊢
          repeat' split
          all_goals (first | rfl | omega | (split at this <;> omega))
        have hend : endOf low high = (hiBytes high).take 0 := by unfold endOf; rw [hEN]
        have HEND := Aside0.mk hend
        clear hEN hend
        go_wp2
        go_ret
        refine ⟨A3, c3, ?_, ?_, HB4.out⟩
        · rw [HEND.out]; simp [hiBytes]
        · have := HR4.out
          rw [HEND.out]
          simp [hiBytes] at this ⊢
          exact this
    · rw [show topOf high 1 = high / 16777216 * 16777216 from rfl]
      by_cases ct : high / 16777216 * 16777216 < low
      · have HN : 2 ≤ endN low high := by
          have := HK.out
          unfold endN at this ⊢
          repeat' split
          all_goals (first | omega | (split at this <;> omega))
        have hle := HB4.out.size
        have hbl := blk_lt HZ.out
        go_wp2_with (at_builtin; refine Kd.R_append (Kd.int .u8) (w0 := w) w.heap.size (by rfl) (.tmp 14) (.tmp 20) 34 5 (.int .u8 0) 1 rfl Try.underlying34 infoU8 rfl (by decide) (by decide) (.slice A3 1 c3) ((hiBytes high).take 1) (high / 65536 % 256) [.int .u8 (high / 65536 % 256)] (fun _ => True) (fun _ => False) rfl rfl rfl (fun _ h => h.elim) (fun _ _ => trivial) HR4.out HB4.out hle (by simp [hiBytes]) ?_; intro v8 w8 hR8 hB8 hg8 hat8; obtain ⟨A8, c8, hv8⟩ := Kd.R_slice hR8; rw [show ((hiBytes high).take 1 ++ [high / 65536 % 256]).length = 2 by simp [hiBytes]] at hv8; subst hv8; have HR8 := Aside0.mk (show Kd.R (Kd.int .u8) 5 w8 w.heap.size (fun _ => True) (.slice A8 2 c8) ((hiBytes high).take 2) from by simpa [hiBytes] using hR8); have HZ8 := Aside0.mk (blk_grown HZ.out hg8 (Kd.R_ne HR4.out HZ.out (by decide))); have k0 : w8.cell? ⟨w.heap.size, 0, none⟩ = some (.int .u64 low) := (blk_cell HZ8.out 0).trans rfl; have k1 : w8.cell? ⟨w.heap.size, 1, none⟩ = some (.int .u64 high) := (blk_cell HZ8.out 1).trans rfl; have HB8 := Aside0.mk hB8; clear hR8 hB8 hg8 hat8)
        go_roundg 3
        case measure => have := HD.out; omega
        case rel => exact ⟨2, by omega, ⟨by omega⟩, by (rw [show topOf high 2 = high / 65536 * 65536 from rfl]; congr 1; omega), A8, c8, rfl, ⟨HN⟩, HZ8, HR8, HB8⟩
      · have hEN : endN low high = 1 := by
          have := HK.out
          unfold endN at this ⊢
          repeat' split
          all_goals (first | rfl | omega | (split at this <;> omega))
        have hend : endOf low high = (hiBytes high).take 1 := by unfold endOf; rw [hEN]
        have HEND := Aside0.mk hend
        clear hEN hend
        go_wp2
        go_ret
        refine ⟨A3, c3, ?_, ?_, HB4.out⟩
        · rw [HEND.out]; simp [hiBytes]
        · have := HR4.out
          rw [HEND.out]
          simp [hiBytes] at this ⊢
          exact this
    · rw [show topOf high 2 = high / 65536 * 65536 from rfl]
      by_cases ct : high / 65536 * 65536 < low
      · have HN : 3 ≤ endN low high := by
          have := HK.out
          unfold endN at this ⊢
          repeat' split
          all_goals (first | omega | (split at this <;> omega))
        have hle := HB4.out.size
        have hbl := blk_lt HZ.out
        go_wp2_with (at_builtin; refine Kd.R_append (Kd.int .u8) (w0 := w) w.heap.size (by rfl) (.tmp 14) (.tmp 20) 34 5 (.int .u8 0) 1 rfl Try.underlying34 infoU8 rfl (by decide) (by decide) (.slice A3 2 c3) ((hiBytes high).take 2) (high / 256 % 256) [.int .u8 (high / 256 % 256)] (fun _ => True) (fun _ => False) rfl rfl rfl (fun _ h => h.elim) (fun _ _ => trivial) HR4.out HB4.out hle (by simp [hiBytes]) ?_; intro v8 w8 hR8 hB8 hg8 hat8; obtain ⟨A8, c8, hv8⟩ := Kd.R_slice hR8; rw [show ((hiBytes high).take 2 ++ [high / 256 % 256]).length = 3 by simp [hiBytes]] at hv8; subst hv8; have HR8 := Aside0.mk (show Kd.R (Kd.int .u8) 5 w8 w.heap.size (fun _ => True) (.slice A8 3 c8) ((hiBytes high).take 3) from by simpa [hiBytes] using hR8); have HZ8 := Aside0.mk (blk_grown HZ.out hg8 (Kd.R_ne HR4.out HZ.out (by decide))); have k0 : w8.cell? ⟨w.heap.size, 0, none⟩ = some (.int .u64 low) := (blk_cell HZ8.out 0).trans rfl; have k1 : w8.cell? ⟨w.heap.size, 1, none⟩ = some (.int .u64 high) := (blk_cell HZ8.out 1).trans rfl; have HB8 := Aside0.mk hB8; clear hR8 hB8 hg8 hat8)
        go_roundg 2
        case measure => have := HD.out; omega
        case rel => exact ⟨3, by omega, ⟨by omega⟩, by (rw [show topOf high 3 = high / 256 * 256 from rfl]; congr 1; omega), A8, c8, rfl, ⟨HN⟩, HZ8, HR8, HB8⟩
      · have hEN : endN low high = 2 := by
          have := HK.out
          unfold endN at this ⊢
          repeat' split
          all_goals (first | rfl | omega | (split at this <;> omega))
        have hend : endOf low high = (hiBytes high).take 2 := by unfold endOf; rw [hEN]
        have HEND := Aside0.mk hend
        clear hEN hend
        go_wp2
        go_ret
        refine ⟨A3, c3, ?_, ?_, HB4.out⟩
        · rw [HEND.out]; simp [hiBytes]
        · have := HR4.out
          rw [HEND.out]
          simp [hiBytes] at this ⊢
          exact this
    · rw [show topOf high 3 = high / 256 * 256 from rfl]
      by_cases ct : high / 256 * 256 < low
      · have HN : 4 ≤ endN low high := by
          have := HK.out
          unfold endN at this ⊢
          repeat' split
          all_goals (first | omega | (split at this <;> omega))
        have hle := HB4.out.size
        have hbl := blk_lt HZ.out
        go_wp2_with (at_builtin; refine Kd.R_append (Kd.int .u8) (w0 := w) w.heap.size (by rfl) (.tmp 14) (.tmp 20) 34 5 (.int .u8 0) 1 rfl Try.underlying34 infoU8 rfl (by decide) (by decide) (.slice A3 3 c3) ((hiBytes high).take 3) (high % 256) [.int .u8 (high % 256)] (fun _ => True) (fun _ => False) rfl rfl rfl (fun _ h => h.elim) (fun _ _ => trivial) HR4.out HB4.out hle (by simp [hiBytes]) ?_; intro v8 w8 hR8 hB8 hg8 hat8; obtain ⟨A8, c8, hv8⟩ := Kd.R_slice hR8; rw [show ((hiBytes high).take 3 ++ [high % 256]).length = 4 by simp [hiBytes]] at hv8; subst hv8; have HR8 := Aside0.mk (show Kd.R (Kd.int .u8) 5 w8 w.heap.size (fun _ => True) (.slice A8 4 c8) ((hiBytes high).take 4) from by simpa [hiBytes] using hR8); have HZ8 := Aside0.mk (blk_grown HZ.out hg8 (Kd.R_ne HR4.out HZ.out (by decide))); have k0 : w8.cell? ⟨w.heap.size, 0, none⟩ = some (.int .u64 low) := (blk_cell HZ8.out 0).trans rfl; have k1 : w8.cell? ⟨w.heap.size, 1, none⟩ = some (.int .u64 high) := (blk_cell HZ8.out 1).trans rfl; have HB8 := Aside0.mk hB8; clear hR8 hB8 hg8 hat8)
        go_roundg 1
        case measure => have := HD.out; omega
        case rel => exact ⟨4, by omega, ⟨by omega⟩, by (rw [show topOf high 4 = high from rfl]; congr 1; omega), A8, c8, rfl, ⟨HN⟩, HZ8, HR8, HB8⟩
      · have hEN : endN low high = 3 := by
          have := HK.out
          unfold endN at this ⊢
          repeat' split
          all_goals (first | rfl | omega | (split at this <;> omega))
        have hend : endOf low high = (hiBytes high).take 3 := by unfold endOf; rw [hEN]
        have HEND := Aside0.mk hend
        clear hEN hend
        go_wp2
        go_ret
        refine ⟨A3, c3, ?_, ?_, HB4.out⟩
        · rw [HEND.out]; simp [hiBytes]
        · have := HR4.out
          rw [HEND.out]
          simp [hiBytes] at this ⊢
          exact this
    · rw [show topOf high 4 = high from rfl]
      by_cases ct : high < low
      · exact absurd ct (by omega)
      · have hEN : endN low high = 4 := by
          have := HK.out
          unfold endN at this ⊢
          repeat' split
          all_goals (first | rfl | omega | (split at this <;> omega))
        have hend : endOf low high = (hiBytes high).take 4 := by unfold endOf; rw [hEN]
        have HEND := Aside0.mk hend
        clear hEN hend
        go_wp2
        go_ret
        refine ⟨A3, c3, ?_, ?_, HB4.out⟩
        · rw [HEND.out]; simp [hiBytes]
        · have := HR4.out
          rw [HEND.out]
          simp [hiBytes] at this ⊢
          exact this
set_option maxHeartbeats 4000000 in
set_option maxRecDepth 100000 in
theorem ref_end_row (w : World) (S : Nat → Prop) (g : Nat) (kind : Int) (A : Option Addr) (c : Nat) (st : List Int) (low high : Int) (vo : Value) (out : List Int) (hE : RefRow w S g kind A c st low high vo out) (hl0 : 0 ≤ low) (hlh : low ≤ high) (hh : high ≤ 4294967295) (hlen : out.length ≤ 1099511627880) :
    Calls Try.prog 40 #[.pointer (some ⟨g, 0, none⟩)] w (EndPost w (out ++ endOf low high)) := by
  have HE := Aside0.mk hE
  obtain ⟨Ao, co, hvo⟩ := Kd.R_slice hE.o
  subst hvo
  have hee : (endOf low high).length ≤ 4 := by simp only [endOf, hiBytes, List.length_take, List.length_cons, List.length_nil]; omega
  have p4 : w.drew.cell? ⟨g, 4, none⟩ = some (.slice Ao out.length co) := hE.c4
  have p2 : w.drew.cell? ⟨g, 2, none⟩ = some (.int .u64 low) := hE.c2
  have p3 : w.drew.cell? ⟨g, 3, none⟩ = some (.int .u64 high) := hE.c3
  have HB1 : Aside0 (Below w.heap.size w (w.drew.alloc (.cells #[] 5))) := ⟨below_alloc (below_drew (Below.refl _ _)) _⟩
  have HR1 : Aside0 (Kd.R (Kd.int .u8) 5 (w.drew.alloc (.cells #[] 5)) w.heap.size (fun _ => True) (.slice (some ⟨w.drew.heap.size, 0, none⟩) 0 0) []) := ⟨Kd.R_of_own (enc := Value.int .u8) (World.ownsRow_lit w.drew #[] 0 (Nat.le_refl _) (by decide) rfl) (fun _ _ => trivial)⟩
  have HCo := Aside0.mk (Kd.R_reads' (hE.drew.below (below_alloc (Below.refl _ _) (.cells #[] 5))).o).2.2
  have hu := Try.underlying101
  clear hE
  go_enter Try.func40, Try.ntmps40
  go_wp2
  refine start_ (n := 13) (S := fun w' => w'.cell? ⟨g, 4, none⟩ = some (.slice Ao out.length co) ∧ w'.cell? ⟨g, 2, none⟩ = some (.int .u64 low) ∧ w'.cell? ⟨g, 3, none⟩ = some (.int .u64 high)) (ds := []) #[false, false, false, false, false, false, false, false, false, false, false, false, false] (by kernel_rfl) rfl rfl ⟨p4, p2, p3⟩ (fun hHeld => ?_)
  generalize w.drew = wd at p4 p2 p3 HR1 HB1 HCo hHeld ⊢
  refine pure_ (i := 1) (N := some 6) (v := ?_) (a' := ?_) #[false, true, false, false, false, false, false, false, false, false, false, false, false] rfl rfl (by kernel_rfl) (fun _ _ _ h => h) (Or.inl ⟨by rfl, ?_⟩) ?_ ?_
  rotate_left
  · intro w'
    go_simp
    with_reducible rfl
  rotate_left
  · simp only [Act.put, List.setIfInBounds_toArray, List.set_cons_zero, List.set_cons_succ, i64_w, i32_w]
    rfl
  refine pure_ (i := 2) (N := some 7) (v := ?_) (a' := ?_) #[false, true, true, false, false, false, false, false, false, false, false, false, false] rfl rfl (by kernel_rfl) (fun _ _ _ h => h) (Or.inl ⟨by rfl, ?_⟩) ?_ ?_
  rotate_left
  · intro w'
    go_simp
    with_reducible rfl
  rotate_left
  · simp only [Act.put, List.setIfInBounds_toArray, List.set_cons_zero, List.set_cons_succ, i64_w, i32_w]
    rfl
  refine pure_ (i := 3) (N := some 8) (v := ?_) (a' := ?_) #[false, true, true, true, false, false, false, false, false, false, false, false, false] rfl rfl (by kernel_rfl) (fun _ _ _ h => h) (Or.inl ⟨by rfl, ?_⟩) ?_ ?_
  rotate_left
  · intro w'
    go_simp
    with_reducible rfl
  rotate_left
  · simp only [Act.put, List.setIfInBounds_toArray, List.set_cons_zero, List.set_cons_succ, i64_w, i32_w]
    rfl
  refine pure_ (i := 6) (N := some 11) (v := ?_) (a' := ?_) #[false, true, true, true, false, false, true, false, false, false, false, false, false] rfl rfl (by kernel_rfl) (fun _ _ _ h => h) (Or.inl ⟨by rfl, ?_⟩) ?_ ?_
  rotate_left
  · intro w'
    go_simp
    with_reducible rfl
  rotate_left
  · simp only [Act.put, List.setIfInBounds_toArray, List.set_cons_zero, List.set_cons_succ, i64_w, i32_w]
    rfl
  refine pure_ (i := 7) (N := some 12) (v := ?_) (a' := ?_) #[false, true, true, true, false, false, true, true, false, false, false, false, false] rfl rfl (by kernel_rfl) (fun _ _ _ h => h) (Or.inl ⟨by rfl, ?_⟩) ?_ ?_
  rotate_left
  · intro w'
    go_simp
    with_reducible rfl
  rotate_left
  · simp only [Act.put, List.setIfInBounds_toArray, List.set_cons_zero, List.set_cons_succ, i64_w, i32_w]
    rfl
  refine pure_ (i := 8) (N := some 13) (v := ?_) (a' := ?_) #[false, true, true, true, false, false, true, true, true, false, false, false, false] rfl rfl (by kernel_rfl) (fun _ _ _ h => h) (Or.inl ⟨by rfl, ?_⟩) ?_ ?_
  rotate_left
  · intro w'
    go_simp
    with_reducible rfl
  rotate_left
  · simp only [Act.put, List.setIfInBounds_toArray, List.set_cons_zero, List.set_cons_succ, i64_w, i32_w]
    rfl
  refine take_ (i := 4) (N := some 9) (v := ?_) (a' := ?_) #[false, true, true, true, true, false, true, true, true, false, false, false, false] rfl rfl (by kernel_rfl) (fun _ _ _ h => h) (Or.inl ⟨by rfl, ?_⟩) hHeld ?_ ?_
  rotate_left
  · rintro w' ⟨s0, s1, s2⟩
    go_simp
    with_reducible rfl
  rotate_left
  · simp only [Act.put, List.setIfInBounds_toArray, List.set_cons_zero, List.set_cons_succ, i64_w, i32_w]
    rfl
  refine take_ (i := 9) (N := some 14) (v := ?_) (a' := ?_) #[false, true, true, true, true, false, true, true, true, true, false, false, false] rfl rfl (by kernel_rfl) (fun _ _ _ h => h) (Or.inl ⟨by rfl, ?_⟩) hHeld ?_ ?_
  rotate_left
  · rintro w' ⟨s0, s1, s2⟩
    go_simp
    with_reducible rfl
  rotate_left
  · simp only [Act.put, List.setIfInBounds_toArray, List.set_cons_zero, List.set_cons_succ, i64_w, i32_w]
    rfl
  refine one_ (i := 0) (N := some 5) #[true, true, true, true, true, false, true, true, true, true, false, false, false] rfl rfl (by kernel_rfl) (by decide) (fun K hK => ?_)
  refine value_ (w1 := ?_) (v := ?_) (by rfl) rfl ?_ ?_
  rotate_left 2
  · go_simp
    constructor
    · rfl
    · rfl
  refine hK.out _ _ ⟨pw_cell_below (below_alloc (Below.refl _ _) _) p4, pw_cell_below (below_alloc (Below.refl _ _) _) p2, pw_cell_below (below_alloc (Below.refl _ _) _) p3⟩ (fun hHeld => ?_)
  clear hK K
  refine norm_ (a' := ?_) ?_ ?_
  rotate_left
  · show Act.put _ (some 5) _ = _
    simp only [Act.put, List.setIfInBounds_toArray, List.set_cons_zero, List.set_cons_succ, i64_w, i32_w]
    rfl
  refine one_ (i := 5) (N := some 10) #[true, true, true, true, true, true, true, true, true, true, false, false, false] rfl rfl (by kernel_rfl) (by decide) (fun K hK => ?_)
  refine Kd.R_append_rows_step (Kd.int .u8) (w0 := w) w.heap.size (by rfl) (.tmp 5) (.tmp 9) 34 5 (.int .u8 0) 1 rfl Try.underlying34 infoU8 rfl (by decide) (by omega) (.slice (some ⟨wd.heap.size, 0, none⟩) 0 0) [] out _ _ _ (fun _ => True) (fun _ => False) rfl rfl HR1.out HCo.out (fun _ _ h => h) (fun _ h => h.elim) (fun _ _ => trivial) HB1.out HB1.out.size (by simp only [List.length_nil]; omega) ?_
  intro v3 w3 hR3 hB3 hg3 hat3
  rw [List.nil_append] at hR3
  obtain ⟨A3, c3, rfl⟩ := Kd.R_slice hR3
  have HR3 := Aside0.mk hR3
  have HB3 := Aside0.mk hB3
  have HE3 := Aside0.mk (HE.out.below hB3)
  clear hR3 hB3 hg3 hat3
  refine hK.out _ _ ⟨HE3.out.c4, HE3.out.c2, HE3.out.c3⟩ (fun hHeld => ?_)
  clear hK K
  refine norm_ (a' := ?_) ?_ ?_
  rotate_left
  · show Act.put _ (some 10) _ = _
    simp only [Act.put, List.setIfInBounds_toArray, List.set_cons_zero, List.set_cons_succ, i64_w, i32_w]
    rfl
  refine one_ (i := 10) (N := some 15) #[true, true, true, true, true, true, true, true, true, true, true, false, false] rfl rfl (by kernel_rfl) (by decide) (fun K hK => ?_)
  refine goes_ Try.func67 (by kernel_rfl) rfl #[.agg #[.int .u64 low, .int .u64 high]] (by rfl) rfl rfl (by simp only [List.map_toArray, List.map_cons, List.map_nil]; rfl) ?_
  with_reducible refine (iend_calls low high _ hl0 hlh hh).mono ?_
  rintro e w7 ⟨A7, c7, rfl, hR7, hB7⟩
  refine ⟨_, rfl, ?_⟩
  have HR7 := Aside0.mk (Kd.R_below HR3.out hB7)
  have HC7 := Aside0.mk (Kd.R_reads' hR7).2.2
  have HB7 := Aside0.mk (below_then HB3.out HB3.out.size hB7)
  have HE7 := Aside0.mk (HE.out.below HB7.out)
  clear hR7 hB7
  refine hK.out _ _ ⟨HE7.out.c4, HE7.out.c2, HE7.out.c3⟩ (fun hHeld => ?_)
  clear hK K
  refine norm_ (a' := ?_) ?_ ?_
  rotate_left
  · show Act.put _ (some 15) _ = _
    simp only [Act.put, List.setIfInBounds_toArray, List.set_cons_zero, List.set_cons_succ, i64_w, i32_w]
    rfl
  refine one_ (i := 11) (N := some 16) #[true, true, true, true, true, true, true, true, true, true, true, true, false] rfl rfl (by kernel_rfl) (by decide) (fun K hK => ?_)
  refine Kd.R_append_rows_step (Kd.int .u8) (w0 := w) w.heap.size (by rfl) (.tmp 10) (.tmp 15) 34 5 (.int .u8 0) 1 rfl Try.underlying34 infoU8 rfl (by decide) (by omega) (.slice A3 out.length c3) out (endOf low high) _ _ _ (fun _ => True) (fun _ => False) rfl rfl HR7.out HC7.out (fun _ _ h => h) (fun _ h => h.elim) (fun _ _ => trivial) HB7.out HB7.out.size (by omega) ?_
  intro v9 w9 hR9 hB9 hg9 hat9
  obtain ⟨A9, c9, rfl⟩ := Kd.R_slice hR9
  have HR9 := Aside0.mk hR9
  have HB9 := Aside0.mk hB9
  have HE9 := Aside0.mk (HE.out.below hB9)
  clear hR9 hB9 hg9 hat9
  refine hK.out _ _ ⟨HE9.out.c4, HE9.out.c2, HE9.out.c3⟩ (fun hHeld => ?_)
  clear hK K
  refine norm_ (a' := ?_) ?_ ?_
  rotate_left
  · show Act.put _ (some 16) _ = _
    simp only [Act.put, List.setIfInBounds_toArray, List.set_cons_zero, List.set_cons_succ, i64_w, i32_w]
    rfl
  refine pure_ (i := 12) (N := some 2) (v := ?_) (a' := ?_) #[true, true, true, true, true, true, true, true, true, true, true, true, true] rfl rfl (by kernel_rfl) (fun _ _ _ h => h) (Or.inl ⟨by rfl, ?_⟩) ?_ ?_
  rotate_left
  · intro w'
    go_simp
    with_reducible rfl
  rotate_left
  · simp only [Act.put, List.setIfInBounds_toArray, List.set_cons_zero, List.set_cons_succ, i64_w, i32_w]
    rfl
  refine done_ (by kernel_rfl) ?_
  go_wp2
  go_ret
  exact ⟨A9, c9, by first | rfl | (rw [List.length_append]; rfl) | simp, HR9.out, HB9.out⟩
theorem ref_end_calls (w : World) (S : Nat → Prop) (g : Nat) (s : ES) (hE : RefAt w S g s) (hok : s.ok) (hlen : s.out.length ≤ 1099511627880) :
    Calls Try.prog 40 #[.pointer (some ⟨g, 0, none⟩)] w (EndPost w s.end_) := by
  obtain ⟨A, c, vo, hR⟩ := hE
  exact ref_end_row w S g s.kind A c s.st s.low s.high vo s.out hR hok.l hok.lh hok.h hlen
theorem ref_put_calls (w : World) (S : Nat → Prop) (g : Nat) (s : ES) (i bit : Int) (hE : RefAt w S g s) (hok : s.ok) (hlen : s.out.length ≤ 1099511627776) :
    Calls Try.prog 65 #[.pointer (some ⟨g, 0, none⟩), .int .i64 i, .int .i64 bit] w fun e w' => e = .returned (.int .i64 (s.err i bit)) ∧ RefAt w' (fun k => (S k ∨ w.heap.size ≤ k) ∧ k < w'.heap.size) g (s.putI i bit) ∧ Mods w w' S := by
  obtain ⟨A, c, vo, hR⟩ := hE
  by_cases hg : s.good i bit = true
  · have e1 : s.err i bit = 0 := if_pos hg
    have e2 : s.putI i bit = s.put i.toNat bit := if_pos hg
    rw [e1, e2]
    simp only [ES.good, Bool.and_eq_true, Bool.or_eq_true, decide_eq_true_eq] at hg
    obtain ⟨⟨h0, h1⟩, hb⟩ := hg
    obtain ⟨j, rfl⟩ : ∃ j : Nat, i = (j : Int) := ⟨i.toNat, by omega⟩
    rw [Int.toNat_natCast]
    have hj : j < s.st.length := by omega
    obtain ⟨b, rfl, _⟩ := hR.cell hj
    have hc := ES.cut_ hok hj (bit := bit)
    have hI : PutInv s.out (cutL s.low (s.mid j) bit) (cutH s.high (s.mid j) bit) 4 (cutL s.low (s.mid j) bit) (cutH s.high (s.mid j) bit) s.out := ⟨hc.1, hc.2.1, hc.2.2, by rw [show (256 : Int) ^ 4 = 4294967296 from rfl]; omega, rfl, rfl, Nat.le_refl _⟩
    have key : Calls Try.prog 65 #[.pointer (some ⟨g, 0, none⟩), .int .i64 j, .int .i64 bit] w (RefPost w S g s.kind s.st s.low s.high (s.mid j) s.out j bit) := by
      rcases hb with rfl | rfl
      · exact ref_row0 w S g s.kind b c s.st s.low s.high (s.mid j) vo s.out j hR hj hok.m.2.1 (ES.at_ hok hj) hok.l hok.lh hok.h rfl hI hlen
      · exact ref_row1 w S g s.kind b c s.st s.low s.high (s.mid j) vo s.out j hR hj hok.m.2.1 (ES.at_ hok hj) hok.l hok.lh hok.h rfl hI hlen
    refine key.mono ?_
    rintro e w' ⟨he, ⟨l, h, out1, hE', ho, hn⟩, hk⟩
    refine ⟨he, ?_, hk⟩
    have hE2 : RefAt w' (fun k => S k ∨ w.heap.size ≤ k) g (s.put j bit) := by
      obtain ⟨A', c', vo', h'⟩ := hE'
      refine ⟨A', c', vo', ?_⟩
      have hn' : s.norm j bit = (out1.drop s.out.length, l, h) := by
        show normE 4 _ _ = _
        rw [ho, List.drop_left, ← hn]
      simp only [ES.put]
      rw [show (s.norm j bit).2.1 = l by rw [hn'], show (s.norm j bit).2.2 = h by rw [hn'], show s.out ++ (s.norm j bit).1 = out1 from ho.symm]
      exact h'
    exact hE2.bound
  · have e1 : s.err i bit = 2 := if_neg hg
    have e2 : s.putI i bit = s := if_neg hg
    rw [e1, e2]
    have hbad : i < 0 ∨ (s.st.length : Int) ≤ i ∨ (bit ≠ 0 ∧ bit ≠ 1) := by
      simp only [ES.good, Bool.and_eq_true, Bool.or_eq_true, decide_eq_true_eq] at hg
      omega
    refine (ref_put_arg w g A s.st.length c i bit hR.c1 hbad).mono ?_
    rintro e w' ⟨rfl, rfl⟩
    exact ⟨rfl, ⟨A, c, vo, hR.bound.mono (fun k hk => ⟨.inl hk.1, hk.2⟩)⟩, Mods.refl _ _⟩
set_option maxRecDepth 100000 in
theorem ref_new_enc (A : Option Addr) (c : Nat) (kind : Int) (st : List Int) (w : World) (hC : Kd.C (Kd.int .i64) w A st.length st) (hc : st.length ≤ c) (hm : okModel kind st) :
    Calls Try.prog 36 #[.agg #[.int .i64 kind, .slice A st.length c]] w fun e w' => ∃ g, e = .returned (.tuple #[.pointer (some ⟨g, 0, none⟩), .int .i64 0]) ∧ RefAt w' (Since w.heap.size w') g (newES kind st) ∧ Below w.heap.size w w' := by
  have HC := Aside0.mk hC
  have hv := ref_valid_calls A c kind st
  rw [decide_eq_true hm] at hv
  have HV := Aside0.mk hv
  have hl := hm.2.1
  have hu := Try.underlying45
  clear hC hv hm
  have hb0 := Aside0.mk (below_alloc (Below.refl w.heap.size w) (.cells #[.int .i64 kind, .slice A st.length c] 45))
  have hq0 : Aside0 ((w.alloc (.cells #[.int .i64 kind, .slice A st.length c] 45)).heap[w.heap.size]? = some (.cells #[.int .i64 kind, .slice A st.length c] 45 (0, 0))) := ⟨heap_new _ _⟩
  go_enter Try.func36, Try.ntmps36
  go_wp2_with (first
    | (go_at_call 52; refine (HV.out _ (Kd.C_below HC.out hb0.out) hc).mono ?_; rintro e w1 ⟨rfl, hB⟩; have HB := Aside0.mk (below_then hb0.out hb0.out.size hB); have hq1 : Aside0 (w1.heap[w.heap.size]? = some (.cells #[.int .i64 kind, .slice A st.length c] 45 (0, 0))) := ⟨(hB.block _ (blk_lt hq0.out)).trans hq0.out⟩; have k0 : w1.cell? ⟨w.heap.size, 0, none⟩ = some (.int .i64 kind) := (blk_cell hq1.out 0).trans rfl; have k1 : w1.cell? ⟨w.heap.size, 1, none⟩ = some (.slice A st.length c) := (blk_cell hq1.out 1).trans rfl; clear hB)
    | (go_at_call 53; refine (copy_calls A c kind st _ (Kd.C_below HC.out HB.out) hc (by omega)).mono ?_; rintro e w2 ⟨A2, c2, rfl, hR, hB⟩; have HB2 := Aside0.mk (below_then HB.out HB.out.size hB); have HR := Aside0.mk (Kd.R_lower hR HB.out.size); clear hR hB)
    | (go_at_call 54; refine (incunableref02_Whole.calls 0 4294967295 _ rfl).mono ?_; rintro e w3 ⟨rfl, hB⟩; have HB3 := Aside0.mk (below_then HB2.out HB2.out.size hB); have HR3 := Aside0.mk (Kd.R_below HR.out hB); clear hB))
  go_ret2
  refine ⟨w3.heap.size, rfl, ⟨A2, c2, .slice none 0 0, heap_new w3 (.cells (ref5 kind (.slice A2 st.length c2) 0 4294967295 (.slice none 0 0)) 115), ?_, Kd.R_nil _ _ _ _ _, ⟨HB3.out.size, by simp⟩⟩, below_alloc HB3.out _⟩
  exact Kd.R_lower (Kd.R_mono (Kd.R_alloc (Kd.R_bound HR3.out) _) (fun k hk => ⟨hk.2.1, by have := hk.2.2.1; simp; omega⟩)) (Nat.zero_le _)
end Go.Proofs.Ytlnhahnnjbfjdaa.RefEnd
namespace Go.Proofs.Ytlnhahnnjbfjdaa.Nre
open Go Go.RowKit Go.Proofs.YtlnhahnnjbfjdaaW.PrintWords Go.Proofs.YtlnhahnnjbfjdaaW.PrintLast Go.Proofs.YtlnhahnnjbfjdaaW.PrintMore Go.Proofs.Ytlnhahnnjbfjdaa.U Go.Proofs.Ytlnhahnnjbfjdaa.Aid Go.Proofs.Ytlnhahnnjbfjdaa.HandAid Go.Proofs.Ytlnhahnnjbfjdaa.Cod1 Go.Proofs.Ytlnhahnnjbfjdaa.Cod2 Go.Proofs.Ytlnhahnnjbfjdaa.Cod3 Go.Proofs.Ytlnhahnnjbfjdaa.Mod Go.Proofs.Ytlnhahnnjbfjdaa.NewRef Go.Proofs.Ytlnhahnnjbfjdaa.Enc Go.Proofs.Ytlnhahnnjbfjdaa.Mods Go.Proofs.Ytlnhahnnjbfjdaa.EncAt Go.Proofs.Ytlnhahnnjbfjdaa.Put Go.Proofs.Ytlnhahnnjbfjdaa.End Go.Proofs.Ytlnhahnnjbfjdaa.Snc Go.Proofs.Ytlnhahnnjbfjdaa.RefAt Go.Proofs.Ytlnhahnnjbfjdaa.RefPut Go.Proofs.Ytlnhahnnjbfjdaa.RefEnd Go.Proofs.Ytlnhahnnjbfjdaa.Num Go.Proofs.Ytlnhahnnjbfjdaa.Evs Go.Proofs.Ytlnhahnnjbfjdaa.RefEvs Go.Proofs.Ytlnhahnnjbfjdaa.Pse Go.Proofs.Ytlnhahnnjbfjdaa.Npu Go.Proofs.Ytlnhahnnjbfjdaa.Nen
instance : EnL RefAt := ⟨fun h hk hne => RefAt.kept h hk hne, fun h hb => RefAt.below h hb, fun h hs => RefAt.mono h hs⟩
theorem _root_.Go.Proofs.Ytlnhahnnjbfjdaa.Npu.PW.rput {w W : World} {S : Nat → Prop} {g : Nat} {s : ES} (H : PW RefAt w S g s W) (hlen : s.out.length ≤ 1099511627776) (i bit : Int) :
    Calls Try.prog 65 #[.pointer (some ⟨g, 0, none⟩), .int .i64 i, .int .i64 bit] W fun e W' => e = .returned (.int .i64 (s.err i bit)) ∧ PW RefAt w S g (s.putI i bit) W' := by
  refine (ref_put_calls W _ g s i bit H.e H.ok hlen).mono ?_
  rintro e W' ⟨he, hE, hM⟩
  exact ⟨he, H.next hE hM (ES.putI_ok H.ok _ _)⟩
theorem ev_at {W : World} {ad : Addr} {l : List S87} (hC : Kd.C k87 W (some ad) l.length l) (j : Nat) (hj : j < l.length) (x : S87) (hx : rd_T87 l (j : Int) = x) :
    W.cell? (ad.add (j * 2)) = some (.int .i64 x.f0) ∧ W.cell? ⟨(ad.add (j * 2)).block, (ad.add (j * 2)).off + 1, none⟩ = some (.int .i64 x.f1) := by
  obtain ⟨ad', hA, x0, x1⟩ := at_T87 hC (j : Int) (by omega) (by omega)
  obtain rfl := Option.some.inj hA
  rw [Int.toNat_natCast, hx] at x0 x1
  exact ⟨x0, x1⟩
theorem nu_at {W : World} {ad : Addr} {l : List S23} (hC : Kd.C k23 W (some ad) l.length l) (j : Nat) (hj : j < l.length) (x : S23) (hx : rd_T23 l (j : Int) = x) :
    W.cell? (ad.add (j * 2)) = some (.bool x.f0) ∧ W.cell? ⟨(ad.add (j * 2)).block, (ad.add (j * 2)).off + 1, none⟩ = some (.int .i64 x.f1) := by
  obtain ⟨ad', hA, x0, x1⟩ := at_T23 hC (j : Int) (by omega) (by omega)
  obtain rfl := Option.some.inj hA
  rw [Int.toNat_natCast, hx] at x0 x1
  exact ⟨x0, x1⟩
theorem evsL_len : ∀ (l : List S23), okL l = true → (evsL l).length ≤ 60 * l.length
  | [], _ => Nat.le_refl _
  | x :: l, h => by
    unfold okL at h
    rw [List.all_cons, Bool.and_eq_true] at h
    have h1 := evAll_len 0 x.f0 x.f1 h.1
    have h2 := evsL_len l h.2
    unfold evsL at h2 ⊢
    rw [List.flatMap_cons, List.length_append, List.length_cons]
    omega
theorem evsL_good (N : Nat) (hN : 48 ≤ N) : ∀ (l : List S23), okL l = true → (evsL l).all (goodL N) = true
  | [], _ => rfl
  | x :: l, h => by
    unfold okL at h
    rw [List.all_cons, Bool.and_eq_true] at h
    have h2 := evsL_good N hN l h.2
    unfold evsL at h2 ⊢
    rw [List.flatMap_cons, List.all_append, ev_all_good 0 x.f0 x.f1 h.1 N (by decide) (by omega), h2]
    rfl
theorem take_ev {l : List S87} {j : Nat} (h : j < l.length) (x : S87) (hx : rd_T87 l (j : Int) = x) : l.take (j + 1) = l.take j ++ [x] := by
  have e : l[j] = x := by rw [← hx]; simp [rd_T87, List.getD_eq_getElem?_getD, List.getElem?_eq_getElem h]
  rw [List.take_succ_eq_append_getElem h, e]
set_option maxHeartbeats 2000000 in
set_option maxRecDepth 100000 in
theorem rnencode_calls (kind : Int) (A0 : Option Addr) (c0 : Nat) (l : List S23) (w : World) (hC0 : Kd.C k23 w A0 l.length l) (hc0 : l.length ≤ c0) :
    Calls Try.prog 34 #[.int .i64 kind, .slice A0 l.length c0] w (NEnc w (encN kind l)) := by
  have HC0 := Aside0.mk hC0
  have hu := Try.underlying45
  have hu23 := Try.underlying23
  have hmax : l.length ≤ 9223372036854775807 := Kd.C_max hC0
  clear hC0
  obtain ⟨R, hR⟩ : ∃ r, encN kind l = r := ⟨_, rfl⟩
  rw [hR]
  unfold encN at hR
  go_enter Try.func34, Try.ntmps34
  go_wp2_with (fail)
  refine (ref_new_calls kind 48 w).mono ?_
  rintro e w1 ⟨A, c, rfl, hRM, hb1⟩
  rcases newM48 kind with ⟨hk, hnm⟩ | ⟨hk, hnm⟩
  · have hmok : okModel kind (List.replicate 48 0) := by have := new_ok kind 48 (by rw [hnm]); rw [hnm] at this; exact this
    rw [hnm] at hRM ⊢
    generalize hst : List.replicate 48 (0 : Int) = st at hR hRM hmok ⊢
    have HST := Aside0.mk (show st.length = 48 by rw [← hst]; exact List.length_replicate)
    clear hst
    have HM := Aside0.mk hmok
    obtain ⟨hcA, hcB, hCM⟩ := Kd.R_reads' hRM
    obtain ⟨b6, hb6⟩ : ∃ x, w1.heap.size = x := ⟨_, rfl⟩
    obtain ⟨W2, hW2⟩ : ∃ x, w1.alloc (.cells #[.int .i64 kind, .slice A st.length c] 45) = x := ⟨_, rfl⟩
    have HB2 := Aside0.mk (show Below w.heap.size w W2 from hW2 ▸ below_alloc hb1 _)
    have HCM := Aside0.mk (show Kd.C (Kd.int .i64) W2 A st.length st from hW2 ▸ Kd.C_below hCM (below_alloc (Below.refl _ _) _))
    have HZ2 := Aside0.mk (show W2.heap[b6]? = some (.cells #[.int .i64 kind, .slice A st.length c] 45 (0, 0)) from hW2 ▸ hb6 ▸ heap_new w1 _)
    clear hmok hRM hCM hnm hcA hb1
    by_cases hl : l.length ≤ 20000
    · have hl2 : ¬ (l.length : Int) > 20000 := by omega
      have HD2 := Aside0.mk (Below.refl W2.heap.size W2)
      have HO2 := Aside0.mk (Kd.R_nil k87 87 W2 W2.heap.size (fun _ => True))
      go_wp2_with (fail)
      clear hW2 hb6
      go_loopw [8, 9] (fun v i wr => ∃ k : Nat, k ≤ l.length ∧ i = .int .i64 k ∧ okL (l.take k) = true ∧ Aside0 (Kd.R k87 87 wr W2.heap.size (fun _ => True) v (evsL (l.take k))) ∧ Aside0 (Below W2.heap.size W2 wr)) (fun _ i _ => l.length - (intOf i).toNat)
      case atStart => exact ⟨0, Nat.zero_le _, rfl, rfl, HO2, HD2⟩
      clear HO2 HD2
      case round =>
        obtain ⟨k, hkl, rfl, hok, HO, HD⟩ := hrel
        have HBr := Aside0.mk (below_then HB2.out HB2.out.size HD.out)
        by_cases hlt : k < l.length
        · obtain ⟨ad, hA, -⟩ := at_T23 (Kd.C_below HC0.out HBr.out) (k : Int) (by omega) (by omega)
          subst hA
          obtain ⟨x, hx⟩ : ∃ x, rd_T23 l (k : Int) = x := ⟨_, rfl⟩
          obtain ⟨et, eo, hmem⟩ := evsL_take hlt x hx
          obtain ⟨hx0, hx1⟩ := nu_at (Kd.C_below HC0.out HBr.out) k hlt x hx
          go_wp2_with (fail)
          refine (incunableref03_Valid.calls x.f0 x.f1 (okNum x.f0 x.f1) wr (ref_valid_eq _ _)).mono ?_
          rintro e W5 ⟨rfl, hb5⟩
          have HBr := Aside0.mk (below_then HBr.out HBr.out.size hb5)
          have HD := Aside0.mk (below_then HD.out HD.out.size hb5)
          have HO := Aside0.mk (Kd.R_below HO.out hb5)
          clear hb5 hx0 hx1
          by_cases hxo : okNum x.f0 x.f1 = true
          · rw [hxo]
            obtain ⟨hx0, hx1⟩ := nu_at (Kd.C_below HC0.out HBr.out) k hlt x hx
            obtain ⟨K0, hev⟩ := Ev.rounds (ref_events_ev x.f0 x.f1 hxo)
            have HEV := Aside0.mk (incunableref03_events.calls K0 x.f0 x.f1 _ W5 hev)
            clear hev
            go_wp2_with (fail)
            refine HEV.out.mono ?_
            rintro e W6 ⟨v, rfl, hRv, hb6⟩
            obtain ⟨Av, cv, rfl⟩ := Kd.R_slice hRv
            obtain ⟨-, hcv, hCv⟩ := Kd.R_reads' hRv
            have hle := evAll_len 0 x.f0 x.f1 hxo
            have hlt60 := evsL_len (l.take k) hok
            rw [List.length_take, Nat.min_eq_left (Nat.le_of_lt hlt)] at hlt60
            have HO6 := Aside0.mk (Kd.R_below HO.out hb6)
            have HD6 := Aside0.mk (below_then HD.out HD.out.size hb6)
            have HCv := Aside0.mk hCv
            have hbytes : ((evsL (l.take k)).length + (evAll 0 x.f0 x.f1).length) * 16 ≤ 140737488355328 := by omega
            clear hRv hb6 hCv HEV HO HD hx0 hx1 HBr hlt60 hle
            go_wp2_with ((with_reducible refine gate_builtin (b := .append) (xs := #[.tmp 37, .tmp 42]) rfl ?_); at_builtin; refine Kd.R_append_rows k87 (w0 := W2) W2.heap.size (by rfl) (.tmp 37) (.tmp 42) 24 87 (.agg #[(.int .i64 0), (.int .i64 0)]) 16 rfl Try.underlying24 info87 rfl (by decide) (by decide) u8 (evsL (l.take k)) (evAll 0 x.f0 x.f1) Av (evAll 0 x.f0 x.f1).length cv (fun _ => True) (fun _ => False) rfl rfl HO6.out HCv.out (fun y cs h => by rw [k87_open h]; exact k87_mkM _ _ _ y) (fun _ h => h.elim) (fun _ _ => trivial) HD6.out HD6.out.size hbytes ?_; intro v2 w3 ho hb2 hgr hat; have HO7 := Aside0.mk ho; have HD7 := Aside0.mk hb2; clear ho hb2 hgr hat)
            refine ⟨⟨k + 1, by omega, by go_num, by rw [eo, hok, hxo]; rfl, by rw [et]; exact HO7, HD7⟩, by simp [intOf]; omega⟩
          · have hxf : okNum x.f0 x.f1 = false := by simpa using hxo
            have hall : ¬ okL l = true := fun h => hxo (by unfold okL at h; rw [List.all_eq_true] at h; exact h x hmem)
            rw [if_neg (fun h => hall h.2.2)] at hR
            subst hR
            rw [hxf]
            clear hall hxf hxo
            go_wp2_with (fail)
            go_ret2
            exact NEnc.bad _ _ HBr.out _ rfl
        · obtain ⟨V, hV⟩ : ∃ V, V = wr := ⟨_, rfl⟩
          subst hV
          have e : l.take k = l := List.take_of_length_le (by omega)
          rw [e] at hok HO
          rw [if_pos ⟨hk, hl, hok⟩] at hR
          have hL := evsL_len l hok
          have hG := evsL_good 48 (Nat.le_refl _) l hok
          clear e hok
          generalize evsL l = L at hR HO hL hG
          obtain ⟨AL, cL, hv⟩ := Kd.R_slice HO.out
          subst hv
          have HG := Aside0.mk hG
          have HZr := Aside0.mk (blk_below HZ2.out HD.out)
          have k0 : V.cell? ⟨b6, 0, none⟩ = some (.int .i64 kind) := (blk_cell HZr.out 0).trans rfl
          have k1 : V.cell? ⟨b6, 1, none⟩ = some (.slice A st.length c) := (blk_cell HZr.out 1).trans rfl
          clear hG
          go_wp2_with (fail)
          refine (ref_new_enc A c kind st V (Kd.C_below HCM.out HD.out) hcB HM.out).mono ?_
          rintro e W5 ⟨g, rfl, hE5, hB5⟩
          have HP5 := Aside0.mk (PW.start (At := RefAt) hE5 (fun k hk => hk.2) (newES_ok HM.out))
          have HRW := Aside0.mk (show ∀ W, Mods W5 W (Since V.heap.size W5) → Kd.C k87 W AL L.length L from fun W hM => (Kd.R_reads' (Kd.R_step (w1 := W) (Kd.R_below (Kd.R_bound HO.out) hB5) (fun k hk hlt => hM.block k hlt (fun hs => by have := hs.1; have := hk.2.2.1; omega)))).2.2)
          have HB5 := Aside0.mk (below_then HBr.out HBr.out.size hB5)
          have HS5 := Aside0.mk (show ∀ k, Since V.heap.size W5 k → w.heap.size ≤ k from fun k hk => Nat.le_trans HBr.out.size hk.1)
          have hmL : L.length ≤ 9223372036854775807 := by omega
          clear hE5 hB5 k0 k1 HZr HO HD HZ2 HBr
          go_wp2_with (fail)
          go_loopw [12] (fun i wq => ∃ (j : Nat) (s : ES), j ≤ L.length ∧ i = .int .i64 j ∧ putsE (newES kind st) (L.take j) = (s, 0) ∧ Aside0 (s.st.length = 48) ∧ s.out.length ≤ 4 * j ∧ Aside0 (PW RefAt W5 (Since V.heap.size W5) g s wq)) (fun i _ => L.length - (intOf i).toNat)
          case atStart => exact ⟨0, newES kind st, Nat.zero_le _, rfl, rfl, HST, Nat.zero_le _, HP5⟩
          clear HP5
          case round =>
            obtain ⟨j, s, hjl, rfl, hpu, hsl, hsn, HP⟩ := hrel
            by_cases hlt : j < L.length
            · obtain ⟨ad, hA, -⟩ := at_T87 (HRW.out _ HP.out.m) (j : Int) (by omega) (by omega)
              subst hA
              obtain ⟨x, hx⟩ : ∃ x, rd_T87 L (j : Int) = x := ⟨_, rfl⟩
              have etk := take_ev hlt x hx
              have hgx : goodL 48 x = true := by
                have h1 := HG.out
                rw [List.all_eq_true] at h1
                refine h1 x ?_
                have h2 : x ∈ L.take (j + 1) := by rw [etk]; simp
                exact List.mem_of_mem_take h2
              have her : s.err x.f0 x.f1 = 0 := by
                unfold ES.err
                rw [good_eq, hsl.out, if_pos hgx]
              have hle := (ES.putI_len s x.f0 x.f1).1
              have hq := fun W' (hp : PW RefAt W5 (Since V.heap.size W5) g s W') => hp.rput (by omega) x.f0 x.f1
              rw [her] at hq
              have HQ := Aside0.mk hq
              clear hq hgx
              go_wp2_with (fail)
              have HP0 := Aside0.mk (HP.out.below (below_drew (Below.refl _ _)))
              clear HP
              refine start_ (n := 12) (S := fun w' => w'.cell? (ad.add (j * 2)) = some (.int .i64 x.f0) ∧ w'.cell? ⟨(ad.add (j * 2)).block, (ad.add (j * 2)).off + 1, none⟩ = some (.int .i64 x.f1)) (ds := []) #[false, false, false, false, false, false, false, false, false, false, false, false] (by kernel_rfl) rfl rfl ⟨(ev_at (HRW.out _ HP0.out.m) j hlt x hx).1, (ev_at (HRW.out _ HP0.out.m) j hlt x hx).2⟩ (fun hHeld => ?_)
              refine pure_ (i := 0) (N := some 55) (v := ?_) (a' := ?_) #[true, false, false, false, false, false, false, false, false, false, false, false] rfl rfl (by kernel_rfl) (fun _ _ _ h => h) (Or.inl ⟨by rfl, ?_⟩) ?_ ?_
              rotate_left
              · intro w'
                go_simp
                with_reducible rfl
              rotate_left
              · simp only [Act.put, List.setIfInBounds_toArray, List.set_cons_zero, List.set_cons_succ, i64_w, i32_w]
                rfl
              refine pure_ (i := 1) (N := some 56) (v := ?_) (a' := ?_) #[true, true, false, false, false, false, false, false, false, false, false, false] rfl rfl (by kernel_rfl) (fun _ _ _ h => h) (Or.inl ⟨by rfl, ?_⟩) ?_ ?_
              rotate_left
              · intro w'
                go_simp
                with_reducible rfl
              rotate_left
              · simp only [Act.put, List.setIfInBounds_toArray, List.set_cons_zero, List.set_cons_succ, i64_w, i32_w]
                rfl
              refine pure_ (i := 2) (N := some 57) (v := ?_) (a' := ?_) #[true, true, true, false, false, false, false, false, false, false, false, false] rfl rfl (by kernel_rfl) (fun _ _ _ h => h) (Or.inl ⟨by rfl, ?_⟩) ?_ ?_
              rotate_left
              · intro w'
                go_simp
                with_reducible rfl
              rotate_left
              · simp only [Act.put, List.setIfInBounds_toArray, List.set_cons_zero, List.set_cons_succ, i64_w, i32_w]
                rfl
              refine pure_ (i := 3) (N := some 58) (v := ?_) (a' := ?_) #[true, true, true, true, false, false, false, false, false, false, false, false] rfl rfl (by kernel_rfl) (fun _ _ _ h => h) (Or.inl ⟨by rfl, ?_⟩) ?_ ?_
              rotate_left
              · intro w'
                go_simp
                with_reducible rfl
              rotate_left
              · simp only [Act.put, List.setIfInBounds_toArray, List.set_cons_zero, List.set_cons_succ, i64_w, i32_w]
                rfl
              refine pure_ (i := 4) (N := some 59) (v := ?_) (a' := ?_) #[true, true, true, true, true, false, false, false, false, false, false, false] rfl rfl (by kernel_rfl) (fun _ _ _ h => h) (Or.inl ⟨by rfl, ?_⟩) ?_ ?_
              rotate_left
              · intro w'
                go_simp
                with_reducible rfl
              rotate_left
              · simp only [Act.put, List.setIfInBounds_toArray, List.set_cons_zero, List.set_cons_succ, i64_w, i32_w]
                rfl
              refine pure_ (i := 6) (N := some 61) (v := ?_) (a' := ?_) #[true, true, true, true, true, false, true, false, false, false, false, false] rfl rfl (by kernel_rfl) (fun _ _ _ h => h) (Or.inl ⟨by rfl, ?_⟩) ?_ ?_
              rotate_left
              · intro w'
                go_simp
                with_reducible rfl
              rotate_left
              · simp only [Act.put, List.setIfInBounds_toArray, List.set_cons_zero, List.set_cons_succ, i64_w, i32_w]
                rfl
              refine pure_ (i := 7) (N := some 62) (v := ?_) (a' := ?_) #[true, true, true, true, true, false, true, true, false, false, false, false] rfl rfl (by kernel_rfl) (fun _ _ _ h => h) (Or.inl ⟨by rfl, ?_⟩) ?_ ?_
              rotate_left
              · intro w'
                go_simp
                with_reducible rfl
              rotate_left
              · simp only [Act.put, List.setIfInBounds_toArray, List.set_cons_zero, List.set_cons_succ, i64_w, i32_w]
                rfl
              refine pure_ (i := 8) (N := some 63) (v := ?_) (a' := ?_) #[true, true, true, true, true, false, true, true, true, false, false, false] rfl rfl (by kernel_rfl) (fun _ _ _ h => h) (Or.inl ⟨by rfl, ?_⟩) ?_ ?_
              rotate_left
              · intro w'
                go_simp
                with_reducible rfl
              rotate_left
              · simp only [Act.put, List.setIfInBounds_toArray, List.set_cons_zero, List.set_cons_succ, i64_w, i32_w]
                rfl
              refine pure_ (i := 9) (N := some 64) (v := ?_) (a' := ?_) #[true, true, true, true, true, false, true, true, true, true, false, false] rfl rfl (by kernel_rfl) (fun _ _ _ h => h) (Or.inl ⟨by rfl, ?_⟩) ?_ ?_
              rotate_left
              · intro w'
                go_simp
                with_reducible rfl
              rotate_left
              · simp only [Act.put, List.setIfInBounds_toArray, List.set_cons_zero, List.set_cons_succ, i64_w, i32_w]
                rfl
              refine take_ (i := 5) (N := some 60) (v := ?_) (a' := ?_) #[true, true, true, true, true, true, true, true, true, true, false, false] rfl rfl (by kernel_rfl) (fun _ _ _ h => h) (Or.inl ⟨by rfl, ?_⟩) hHeld ?_ ?_
              rotate_left
              · rintro w' ⟨s0, s1⟩
                go_simp
                with_reducible rfl
              rotate_left
              · simp only [Act.put, List.setIfInBounds_toArray, List.set_cons_zero, List.set_cons_succ, i64_w, i32_w]
                rfl
              refine take_ (i := 10) (N := some 65) (v := ?_) (a' := ?_) #[true, true, true, true, true, true, true, true, true, true, true, false] rfl rfl (by kernel_rfl) (fun _ _ _ h => h) (Or.inl ⟨by rfl, ?_⟩) hHeld ?_ ?_
              rotate_left
              · rintro w' ⟨s0, s1⟩
                go_simp
                with_reducible rfl
              rotate_left
              · simp only [Act.put, List.setIfInBounds_toArray, List.set_cons_zero, List.set_cons_succ, i64_w, i32_w]
                rfl
              refine one_ (i := 11) (N := some 66) #[true, true, true, true, true, true, true, true, true, true, true, true] rfl rfl (by kernel_rfl) (by decide) (fun K hK => ?_)
              refine goes_ Try.func65 (by kernel_rfl) rfl #[.pointer (some ⟨g, 0, none⟩), .int .i64 x.f0, .int .i64 x.f1] (by rfl) rfl rfl (by simp only [List.map_toArray, List.map_cons, List.map_nil]; rfl) ?_
              with_reducible refine ((HQ.out _ HP0.out)).mono ?_
              rintro e W7 ⟨rfl, hT⟩
              refine ⟨_, rfl, ?_⟩
              have HP7 := Aside0.mk hT
              clear hT
              refine hK.out _ _ ⟨(ev_at (HRW.out _ HP7.out.m) j hlt x hx).1, (ev_at (HRW.out _ HP7.out.m) j hlt x hx).2⟩ (fun hHeld => ?_)
              clear hK K
              refine norm_ (a' := ?_) ?_ ?_
              rotate_left
              · show Act.put _ (some 66) _ = _
                simp only [Act.put, List.setIfInBounds_toArray, List.set_cons_zero, List.set_cons_succ, i64_w, i32_w]
                rfl
              refine done_ (by kernel_rfl) ?_
              go_wp2_with (fail)
              refine ⟨⟨j + 1, _, by omega, by go_num, ?_, ?_, ?_, HP7⟩, by simp [intOf]; omega⟩
              · rw [etk, putsE_app _ _ _ (by rw [hpu]), hpu]
                show putsE s [x] = _
                unfold putsE
                rw [if_pos her]
                rfl
              · exact ⟨by rw [(ES.putI_len s x.f0 x.f1).2.2]; exact hsl.out⟩
              · omega
            · have e : L.take j = L := List.take_of_length_le (by omega)
              rw [e] at hpu
              rw [hpu] at hR
              subst hR
              have HBq := Aside0.mk (below_mods HB5.out HP.out.m HS5.out HB5.out.size)
              go_wp2_with (fail)
              refine (ref_end_calls wr _ g s HP.out.e HP.out.ok (by omega)).mono ?_
              rintro e W8 ⟨A8, c8, rfl, hR8, hb8⟩
              have HR8 := Aside0.mk (Kd.R_lower hR8 HBq.out.size)
              have HB8 := Aside0.mk (below_then HBq.out HBq.out.size hb8)
              clear hR8 hb8
              go_wp2_with (fail)
              go_ret2
              exact ⟨A8, c8, rfl, HR8.out, HB8.out⟩
    · have hl2 : (l.length : Int) > 20000 := by omega
      rw [if_neg (fun h => hl h.2.1)] at hR
      subst hR
      clear hl
      go_wp2_with (fail)
      go_ret2
      exact NEnc.bad _ _ HB2.out _ rfl
  · rw [hnm] at hRM ⊢
    rw [if_neg (fun h => hk h.1)] at hR
    subst hR
    have HB2 := Aside0.mk (below_alloc hb1 (.cells #[.int .i64 0, .slice A ([] : List Int).length c] 45))
    clear hRM hk hb1 hnm
    go_wp2_with (fail)
    go_ret2
    exact NEnc.bad _ _ HB2.out _ rfl
end Go.Proofs.Ytlnhahnnjbfjdaa.Nre
namespace Go.Proofs.Ytlnhahnnjbfjdaa.Ned
open Go Go.RowKit Go.Proofs.YtlnhahnnjbfjdaaW.PrintWords Go.Proofs.YtlnhahnnjbfjdaaW.PrintLast Go.Proofs.YtlnhahnnjbfjdaaW.PrintMore Go.Proofs.Ytlnhahnnjbfjdaa.U Go.Proofs.Ytlnhahnnjbfjdaa.Aid Go.Proofs.Ytlnhahnnjbfjdaa.HandAid Go.Proofs.Ytlnhahnnjbfjdaa.Cod1 Go.Proofs.Ytlnhahnnjbfjdaa.Cod2 Go.Proofs.Ytlnhahnnjbfjdaa.Cod3 Go.Proofs.Ytlnhahnnjbfjdaa.Mod Go.Proofs.Ytlnhahnnjbfjdaa.Enc Go.Proofs.Ytlnhahnnjbfjdaa.Mods Go.Proofs.Ytlnhahnnjbfjdaa.EncAt Go.Proofs.Ytlnhahnnjbfjdaa.Put Go.Proofs.Ytlnhahnnjbfjdaa.End Go.Proofs.Ytlnhahnnjbfjdaa.Snc Go.Proofs.Ytlnhahnnjbfjdaa.Num Go.Proofs.Ytlnhahnnjbfjdaa.Evs Go.Proofs.Ytlnhahnnjbfjdaa.RefEvs Go.Proofs.Ytlnhahnnjbfjdaa.Pse Go.Proofs.Ytlnhahnnjbfjdaa.Npu Go.Proofs.Ytlnhahnnjbfjdaa.Nen Go.Proofs.Ytlnhahnnjbfjdaa.Dec Go.Proofs.Ytlnhahnnjbfjdaa.Get Go.Proofs.Ytlnhahnnjbfjdaa.DecNew Go.Proofs.Ytlnhahnnjbfjdaa.Bkp Go.Proofs.Ytlnhahnnjbfjdaa.Ngt Go.Proofs.Ytlnhahnnjbfjdaa.Nfo Go.Proofs.Ytlnhahnnjbfjdaa.Ndc Go.Proofs.Ytlnhahnnjbfjdaa.Nre
theorem same_n0 (l : List S23) (hn : l.length ≤ 1000000) : ∀ (r i : Nat), i + r = l.length → Ev (fun k => incunableref03_Same.l0 k l l i) true
  | 0, i, h => by
    refine ev_succ ?_
    unfold incunableref03_Same.l0
    exact ev_neg (by omega) (Ev.now _)
  | r + 1, i, h => by
    refine ev_succ ?_
    unfold incunableref03_Same.l0
    refine ev_pos (by omega) (ev_pos (by omega) (ev_pos (by omega) (ev_neg (by simp) ?_)))
    rw [show wrap64 ((i : Int) + 1) = ((i + 1 : Nat) : Int) by rw [wrap_id] <;> omega]
    exact same_n0 l hn r (i + 1) (by omega)
theorem same_n (l : List S23) (hn : l.length ≤ 1000000) : Ev (fun k => incunableref03_Same.f k l l) true := by
  unfold incunableref03_Same.f
  exact ev_pos rfl (same_n0 l hn l.length 0 (by omega))
theorem same_calls (l : List S23) (hn : l.length ≤ 1000000) (A : Option Addr) (c : Nat) (A2 : Option Addr) (c2 : Nat) (w : World) (h1 : Kd.C k23 w A l.length l) (h2 : l.length ≤ c) (h3 : Kd.C k23 w A2 l.length l) (h4 : l.length ≤ c2) :
    Calls Try.prog 20 #[.slice A l.length c, .slice A2 l.length c2] w fun e w' => e = .returned (.bool true) ∧ Below w.heap.size w w' := by
  obtain ⟨K, hK⟩ := same_n l hn
  refine (incunableref03_Same.calls K A c l A2 c2 l true w h1 h2 h3 h4 (hK K (Nat.le_refl _))).mono ?_
  rintro e W ⟨he, hd⟩
  exact ⟨he, hd.below⟩
theorem decN_len : ∀ (k : Nat) (s : DS) (l : List S23), (decN k s l).1.length ≤ l.length + k
  | 0, s, l => Nat.le_refl _
  | k + 1, s, l => by
    unfold decN
    split
    · refine Nat.le_trans (decN_len k _ _) ?_
      rw [List.length_append]
      show l.length + 1 + k ≤ _
      omega
    · exact Nat.zero_le _
theorem decNs_len (kind : Int) (b : List Int) (n : Int) : (decNs kind b n).1.length ≤ 20000 := by
  unfold decNs
  split
  · rename_i h
    refine Nat.le_trans (decN_len _ _ _) ?_
    show 0 + n.toNat ≤ 20000
    omega
  · exact Nat.zero_le _
/-- The numbers whose events a decoder tells are the numbers that are told. -/
theorem decN_fol : ∀ (l : List S23) (d e : DS) (acc : List S23), okL l = true → Fol d (evsL l) e → decN l.length d acc = (acc ++ l, 0)
  | [], d, e, acc, _, _ => by
    show (acc, 0) = _
    rw [List.append_nil]
  | x :: l, d, e, acc, hok, hf => by
    unfold okL at hok
    rw [List.all_cons, Bool.and_eq_true] at hok
    unfold evsL at hf
    rw [List.flatMap_cons] at hf
    obtain ⟨c, h1, h2⟩ := Fol.app.1 hf
    have h3 := numD_fol 0 x.f0 x.f1 hok.1 d c h1
    rw [List.length_cons]
    unfold decN
    rw [h3]
    simp only [if_true]
    rw [decN_fol l c e _ hok.2 h2, List.append_assoc]
    rfl
theorem norm_bytes : ∀ (d : Nat) (l h : Int), 0 ≤ l → l ≤ h → h ≤ 4294967295 → Bytes (normE d l h).1
  | 0, _, _, _, _, _ => fun x hx => absurd hx List.not_mem_nil
  | d + 1, l, h, h0, h1, h2 => by
    unfold normE
    split
    · intro x hx
      rcases List.mem_cons.1 hx with rfl | hx
      · omega
      · exact norm_bytes d _ _ (by omega) (by omega) (by omega) x hx
    · exact fun x hx => absurd hx List.not_mem_nil
theorem putsE_bytes : ∀ (l : List S87) (s : ES), s.ok → Bytes s.out → Bytes (putsE s l).1.out
  | [], s, _, h => h
  | x :: l, s, hok, h => by
    unfold putsE
    split
    · refine putsE_bytes l _ (ES.putI_ok hok _ _) ?_
      unfold ES.putI
      split
      · rename_i hg
        simp only [ES.good, Bool.and_eq_true, Bool.or_eq_true, decide_eq_true_eq] at hg
        have hc := ES.cut_ hok (i := x.f0.toNat) (by omega) (bit := x.f1)
        intro y hy
        rcases List.mem_append.1 hy with hy | hy
        · exact h y hy
        · exact norm_bytes 4 _ _ hc.1 hc.2.1 hc.2.2 y hy
      · exact h
    · exact h
theorem endOf_bytes (low high : Int) (h0 : 0 ≤ high) (h1 : high ≤ 4294967295) : Bytes (endOf low high) := by
  intro x hx
  have hx := List.mem_of_mem_take hx
  simp only [hiBytes, List.mem_cons, List.not_mem_nil, or_false] at hx
  rcases hx with rfl | rfl | rfl | rfl <;> omega
theorem endOf_len (low high : Int) : (endOf low high).length ≤ 4 := Nat.le_trans (List.length_take_le' _ _) (Nat.le_refl _)
/-- A code of events is of bytes, and not long. -/
theorem code_bytes (s : ES) (l : List S87) (hok : s.ok) (hb : Bytes s.out) : Bytes (putsE s l).1.end_ ∧ (putsE s l).1.end_.length ≤ s.out.length + 4 * l.length + 4 := by
  have h := putsE_ok l s hok
  have e : (putsE s l).1.end_ = (putsE s l).1.out ++ endOf (putsE s l).1.low (putsE s l).1.high := rfl
  rw [e]
  constructor
  · intro y hy
    rcases List.mem_append.1 hy with hy | hy
    · exact putsE_bytes l s hok hb y hy
    · exact endOf_bytes _ _ (by have := h.l; have := h.lh; omega) h.h y hy
  · rw [List.length_append]
    have := putsE_out l s
    have := endOf_len (putsE s l).1.low (putsE s l).1.high
    omega
theorem encN_dec {kind : Int} {l : List S23} {code : List Int} {er : Int} (h : encN kind l = (code, er)) : (er = 0 ∧ decNs kind code l.length = (l, 0) ∧ Bytes code ∧ code.length ≤ 4800004) ∨ (er = 2 ∧ code = []) := by
  unfold encN at h
  by_cases c : (kind = 0 ∨ kind = 1) ∧ l.length ≤ 20000 ∧ okL l = true
  · rw [if_pos c] at h
    simp only [Prod.mk.injEq] at h
    obtain ⟨rfl, rfl⟩ := h
    have hmok : okModel kind (List.replicate 48 0) := by have := new_ok kind 48 (by rw [newM_ok c.1]); rw [newM_ok c.1] at this; exact this
    have hg := evsL_good 48 (Nat.le_refl _) l c.2.2
    have he : (putsE (newES kind (List.replicate 48 0)) (evsL l)).2 = 0 := putsE_good _ _ hg
    obtain ⟨hb, hlen⟩ := code_bytes (newES kind (List.replicate 48 0)) (evsL l) (newES_ok hmok) (fun x hx => absurd hx List.not_mem_nil)
    obtain ⟨d', hf, -⟩ := back_fol hmok he hb rfl
    refine .inl ⟨rfl, ?_, hb, ?_⟩
    · unfold decNs
      rw [if_pos ⟨c.1, by omega, by omega⟩, Int.toNat_natCast]
      have := decN_fol l _ _ [] c.2.2 hf
      rw [List.nil_append] at this
      exact this
    · have h2 := evsL_len l c.2.2
      have h3 : (newES kind (List.replicate 48 0)).out.length = 0 := rfl
      omega
  · rw [if_neg c] at h
    simp only [Prod.mk.injEq] at h
    exact .inr ⟨h.2.symm, h.1.symm⟩
end Go.Proofs.Ytlnhahnnjbfjdaa.Ned
namespace Go.Proofs.Ytlnhahnnjbfjdaa.Nel
open Go Go.RowKit Go.Proofs.YtlnhahnnjbfjdaaW.PrintWords Go.Proofs.YtlnhahnnjbfjdaaW.PrintLast Go.Proofs.YtlnhahnnjbfjdaaW.PrintMore Go.Proofs.Ytlnhahnnjbfjdaa.U Go.Proofs.Ytlnhahnnjbfjdaa.Aid Go.Proofs.Ytlnhahnnjbfjdaa.HandAid Go.Proofs.Ytlnhahnnjbfjdaa.Cod1 Go.Proofs.Ytlnhahnnjbfjdaa.Cod2 Go.Proofs.Ytlnhahnnjbfjdaa.Cod3 Go.Proofs.Ytlnhahnnjbfjdaa.Mod Go.Proofs.Ytlnhahnnjbfjdaa.Sane Go.Proofs.Ytlnhahnnjbfjdaa.Nen Go.Proofs.Ytlnhahnnjbfjdaa.Ndc Go.Proofs.Ytlnhahnnjbfjdaa.Nre Go.Proofs.Ytlnhahnnjbfjdaa.Ned
set_option maxHeartbeats 1000000 in
set_option maxRecDepth 100000 in
theorem encodes_walk (w : World) (kind : Int) (A : Option Addr) (c : Nat) (l : List S23) (hle : l.length ≤ c) (hC : Kd.C k23 w A l.length l)
    (A1 : Option Addr) (c1 : Nat) (b : List Int) (hC1 : Kd.C (Kd.int .u8) w A1 b.length b) (hc1 : b.length ≤ c1) (hw1 : ∀ x ∈ b, (Lit.int .u8 x).wf = true) :
    Calls Try.prog 8 #[.int .i64 kind, .slice A l.length c, .slice A1 b.length c1] w fun e w' => e = .returned (.bool true) ∧ Below w.heap.size w w' := by
  have hby : Bytes b := bytes_of hw1
  have HBY := Aside0.mk hby
  have HC := Aside0.mk hC
  have HCb := Aside0.mk hC1
  have hmax : l.length ≤ 9223372036854775807 := Kd.C_max hC
  have hmax1 : b.length ≤ 9223372036854775807 := Kd.C_max hC1
  clear hC hC1 hw1 hby
  by_cases hbig : (l.length > 300 ∧ l.length ≤ 20000) ∨ b.length > 300
  · have hb2 : ((l.length : Int) > 300 ∧ (l.length : Int) ≤ 20000) ∨ (¬ (l.length : Int) > 300 ∧ (b.length : Int) > 300) ∨ ((l.length : Int) > 300 ∧ ¬ (l.length : Int) ≤ 20000 ∧ (b.length : Int) > 300) := by omega
    clear hbig
    rcases hb2 with ⟨h, h'⟩ | ⟨h, h'⟩ | ⟨h, h', h''⟩
    · go_enter Try.func8, Try.ntmps8
      go_wp2_with (fail)
      refine (sane_calls _).mono ?_
      rintro e w2 ⟨rfl, hB⟩
      go_wp2_with (fail)
      go_ret
      exact ⟨rfl, hB⟩
    · go_enter Try.func8, Try.ntmps8
      go_wp2_with (fail)
      refine (sane_calls _).mono ?_
      rintro e w2 ⟨rfl, hB⟩
      go_wp2_with (fail)
      go_ret
      exact ⟨rfl, hB⟩
    · go_enter Try.func8, Try.ntmps8
      go_wp2_with (fail)
      refine (sane_calls _).mono ?_
      rintro e w2 ⟨rfl, hB⟩
      go_wp2_with (fail)
      go_ret
      exact ⟨rfl, hB⟩
  have hbl : b.length ≤ 300 := by omega
  have hbl2 : ¬ (b.length : Int) > 300 := by omega
  have hll : ¬ (l.length : Int) > 300 ∨ ((l.length : Int) > 300 ∧ ¬ (l.length : Int) ≤ 20000) := by omega
  clear hbig
  obtain ⟨⟨code, er⟩, hR⟩ : ∃ r, encN kind l = r := ⟨_, rfl⟩
  have go : ∀ w0 : World, Below w.heap.size w w0 → Aside0 (Calls Try.prog 33 #[.int .i64 kind, .slice A l.length c] w0 (NEnc w0 (code, er))) := fun w0 hb => ⟨hR ▸ nencode_calls kind A c l w0 (Kd.C_below HC.out hb) hle⟩
  have rgo : ∀ w0 : World, Below w.heap.size w w0 → Aside0 (Calls Try.prog 34 #[.int .i64 kind, .slice A l.length c] w0 (NEnc w0 (code, er))) := fun w0 hb => ⟨hR ▸ rnencode_calls kind A c l w0 (Kd.C_below HC.out hb) hle⟩
  have GO := Aside0.mk go
  have RGO := Aside0.mk rgo
  clear go rgo
  have hcs := encN_dec hR
  have hlenok : er = 0 → l.length ≤ 20000 := by
    intro h0
    subst h0
    unfold encN at hR
    split at hR
    · rename_i hx; exact hx.2.1
    · simp at hR
  have hn : ∀ n1 : Bool, n1 = decide (l.length > 300) → Calls Try.prog 8 #[.int .i64 kind, .slice A l.length c, .slice A1 b.length c1] w fun e w' => e = .returned (.bool true) ∧ Below w.heap.size w w' := by
    intro n1 _
    rcases hcs with ⟨her, hdec, hbc, hclen⟩ | ⟨her, hcode⟩
    · have hl2 := hlenok her
      have hl3 : ¬ (l.length : Int) > 300 := by omega
      clear hlenok hll hR
      have HBC := Aside0.mk hbc
      obtain ⟨more, hmore⟩ : ∃ m, code ++ b = m := ⟨_, rfl⟩
      have hmm : more.length ≤ 1099511627776 := by rw [← hmore, List.length_append]; omega
      obtain ⟨⟨L2, er2⟩, hD⟩ : ∃ r, decNs kind more l.length = r := ⟨_, rfl⟩
      have hL2 : L2.length ≤ 20000 := by have := decNs_len kind more l.length; rw [hD] at this; exact this
      have hbm : Bytes more := fun x hx => by rw [← hmore] at hx; rcases List.mem_append.1 hx with h | h; exact hbc x h; exact HBY.out x h
      have HBM := Aside0.mk hbm
      have HMO := Aside0.mk hmore
      have HDEC := Aside0.mk hdec
      have HD := Aside0.mk hD
      subst her
      clear hbc hbm hdec hD hmore
      go_enter Try.func8, Try.ntmps8
      go_wp2_with (fail)
      refine (GO.out w (Below.refl _ _)).out.mono ?_
      rintro e w1 ⟨P1, d1, rfl, hR1, hB1⟩
      simp only at hR1 ⊢
      have HR1 := Aside0.mk hR1
      have HB1 := Aside0.mk hB1
      clear hR1 hB1
      go_wp2_with (fail)
      refine (RGO.out w1 HB1.out).out.mono ?_
      rintro e w2 ⟨P2, d2, rfl, hR2, hB2⟩
      simp only at hR2 ⊢
      obtain ⟨-, hd1, hC1⟩ := Kd.R_reads' HR1.out
      obtain ⟨-, hd2, hC2⟩ := Kd.R_reads' hR2
      have HC1 := Aside0.mk (Kd.C_below hC1 hB2)
      have HB2 := Aside0.mk (below_then HB1.out HB1.out.size hB2)
      have q1 := Kd.C_string (P := Try.prog) (src := 34) (dst := 9) (c := d1) Try.underlying34 Try.underlying5 Try.underlying9 HC1.out
      have q2 := Kd.C_string (P := Try.prog) (src := 34) (dst := 9) (c := d2) Try.underlying34 Try.underlying5 Try.underlying9 hC2
      clear HR1 HB1 hR2 hB2 hC1 hC2
      obtain ⟨str, hstr⟩ : ∃ x, strOfNums code = x := ⟨_, rfl⟩
      rw [hstr] at q1 q2
      clear hstr
      go_wp2_with (fail)
      refine (ndecode_calls kind P1 d1 code l.length w2 HC1.out hd1 HBC.out (by omega)).mono ?_
      rw [HDEC.out]
      rintro e w3 ⟨v3, rfl, hR3, hB3⟩
      simp only at hR3 ⊢
      obtain ⟨P3, d3, rfl⟩ := Kd.R_slice hR3
      obtain ⟨-, hd3, hC3⟩ := Kd.R_reads' hR3
      have HC3 := Aside0.mk hC3
      have HB3 := Aside0.mk (below_then HB2.out HB2.out.size hB3)
      have HC1 := Aside0.mk (Kd.C_below HC1.out hB3)
      clear hR3 hB3 hC3 q1 q2 HB2
      go_wp2_with (fail)
      refine (same_calls l (by omega) P3 d3 A c w3 HC3.out hd3 (Kd.C_below HC.out HB3.out) hle).mono ?_
      rintro e w4 ⟨rfl, hB4⟩
      have HB4 := Aside0.mk (below_then HB3.out HB3.out.size hB4)
      have HC1 := Aside0.mk (Kd.C_below HC1.out hB4)
      clear hB4 HB3 HC3
      have HB4' := Aside0.mk (below_alloc HB4.out (.cells #[] 5))
      have HR4 : Aside0 (Kd.R (Kd.int .u8) 5 (w4.alloc (.cells #[] 5)) w.heap.size (fun _ => True) (.slice (some ⟨w4.heap.size, 0, none⟩) 0 0) []) := ⟨Kd.R_of_own (enc := Value.int .u8) (World.ownsRow_lit w4 #[] 0 HB4.out.size (by decide) rfl) (fun _ _ => trivial)⟩
      have HC4 := Aside0.mk (Kd.C_below HC1.out (below_alloc (Below.refl _ _) (.cells #[] 5)))
      have hb1 : (([] : List Int).length + code.length) * 1 ≤ 140737488355328 := by rw [List.length_nil]; omega
      have hb2 : (code.length + b.length) * 1 ≤ 140737488355328 := by omega
      clear HB4 HC1
      go_wp2_with (first
        | ((with_reducible refine gate_builtin (b := .append) (xs := #[.tmp 70, .tmp 71]) rfl ?_); at_builtin; refine Kd.R_append_rows (Kd.int .u8) (w0 := w) w.heap.size (by rfl) (.tmp 70) (.tmp 71) 34 5 (.int .u8 0) 1 rfl Try.underlying34 info5 rfl (by decide) (by decide) (.slice (some ⟨w4.heap.size, 0, none⟩) 0 0) [] code P1 code.length d1 (fun _ => True) (fun _ => False) rfl rfl HR4.out HC4.out (fun _ _ h => h) (fun _ h => h.elim) (fun _ _ => trivial) HB4'.out HB4'.out.size hb1 ?_; intro v5 w5 hR5 hB5 hg5 hat5; rw [List.nil_append] at hR5; have HR5 := Aside0.mk hR5; have HB5 := Aside0.mk hB5; have HC5 := Aside0.mk (Kd.C_below HCb.out hB5); clear hR5 hB5 hg5 hat5)
        | ((with_reducible refine gate_builtin (b := .append) (xs := #[.tmp 72, .tmp 73]) rfl ?_); at_builtin; refine Kd.R_append_rows (Kd.int .u8) (w0 := w) w.heap.size (by rfl) (.tmp 72) (.tmp 73) 34 5 (.int .u8 0) 1 rfl Try.underlying34 info5 rfl (by decide) (by decide) v5 code b A1 b.length c1 (fun _ => True) (fun _ => False) rfl rfl HR5.out HC5.out (fun _ _ h => h) (fun _ h => h.elim) (fun _ _ => trivial) HB5.out HB5.out.size hb2 ?_; intro v6 w6 hR6 hB6 hg6 hat6; rw [HMO.out] at hR6; obtain ⟨P6, d6, hv6⟩ := Kd.R_slice hR6; subst hv6; have HR6 := Aside0.mk hR6; have HB6 := Aside0.mk hB6; clear hR6 hB6 hg6 hat6))
      obtain ⟨-, hd6, hC6⟩ := Kd.R_reads' HR6.out
      have HC6 := Aside0.mk hC6
      clear hC6 HR6 HR5 HB5 HC5 HR4 HB4' HC4
      refine (ndecode_calls kind P6 d6 more l.length w6 HC6.out hd6 HBM.out hmm).mono ?_
      rw [HD.out]
      rintro e w7 ⟨v7, rfl, hR7, hB7⟩
      simp only at hR7 ⊢
      obtain ⟨P7, d7, rfl⟩ := Kd.R_slice hR7
      obtain ⟨-, hd7, hC7⟩ := Kd.R_reads' hR7
      have HC7 := Aside0.mk hC7
      have HB7 := Aside0.mk (below_then HB6.out HB6.out.size hB7)
      have HC6 := Aside0.mk (Kd.C_below HC6.out hB7)
      clear hR7 hB7 hC7 HB6
      go_wp2_with (fail)
      refine (rdecode_calls kind P6 d6 more l.length w7 HC6.out hd6 HBM.out hmm).mono ?_
      rw [HD.out]
      rintro e w8 ⟨v8, rfl, hR8, hB8⟩
      simp only at hR8 ⊢
      obtain ⟨P8, d8, rfl⟩ := Kd.R_slice hR8
      obtain ⟨-, hd8, hC8⟩ := Kd.R_reads' hR8
      have HC8 := Aside0.mk hC8
      have HB8 := Aside0.mk (below_then HB7.out HB7.out.size hB8)
      have HC7 := Aside0.mk (Kd.C_below HC7.out hB8)
      clear hR8 hB8 hC8 HB7 HC6
      go_wp2_with (fail)
      refine (same_calls L2 (by omega) P7 d7 P8 d8 w8 HC7.out hd7 HC8.out hd8).mono ?_
      rintro e w9 ⟨rfl, hB9⟩
      have HB9 := Aside0.mk (below_then HB8.out HB8.out.size hB9)
      clear hB9
      go_wp2_with (fail)
      refine (sane_calls _).mono ?_
      rintro e w10 ⟨rfl, hB⟩
      go_wp2_with (fail)
      go_ret
      exact ⟨rfl, below_then HB9.out HB9.out.size hB⟩
    · subst her hcode
      clear hlenok hR
      rcases hll with hl3 | ⟨hl3, hl4⟩
      · go_enter Try.func8, Try.ntmps8
        go_wp2_with (fail)
        refine (GO.out w (Below.refl _ _)).out.mono ?_
        rintro e w1 ⟨P1, d1, rfl, hR1, hB1⟩
        simp only at hR1 ⊢
        have HR1 := Aside0.mk hR1
        have HB1 := Aside0.mk hB1
        clear hR1 hB1
        go_wp2_with (fail)
        refine (RGO.out w1 HB1.out).out.mono ?_
        rintro e w2 ⟨P2, d2, rfl, hR2, hB2⟩
        simp only at hR2 ⊢
        obtain ⟨-, hd1, hC1⟩ := Kd.R_reads' HR1.out
        obtain ⟨-, hd2, hC2⟩ := Kd.R_reads' hR2
        have HB2 := Aside0.mk (below_then HB1.out HB1.out.size hB2)
        have q1 := Kd.C_string (P := Try.prog) (src := 34) (dst := 9) (c := d1) Try.underlying34 Try.underlying5 Try.underlying9 (Kd.C_below hC1 hB2)
        have q2 := Kd.C_string (P := Try.prog) (src := 34) (dst := 9) (c := d2) Try.underlying34 Try.underlying5 Try.underlying9 hC2
        clear HR1 HB1 hR2 hB2 hC1 hC2
        obtain ⟨str, hstr⟩ : ∃ x, strOfNums ([] : List Int) = x := ⟨_, rfl⟩
        rw [hstr] at q1 q2
        simp only [List.length_nil] at q1 q2
        clear hstr
        go_wp2_with (fail)
        refine (sane_calls _).mono ?_
        rintro e w10 ⟨rfl, hB⟩
        go_wp2_with (fail)
        go_ret
        exact ⟨rfl, below_then HB2.out HB2.out.size hB⟩
      · go_enter Try.func8, Try.ntmps8
        go_wp2_with (fail)
        refine (GO.out w (Below.refl _ _)).out.mono ?_
        rintro e w1 ⟨P1, d1, rfl, hR1, hB1⟩
        simp only at hR1 ⊢
        have HR1 := Aside0.mk hR1
        have HB1 := Aside0.mk hB1
        clear hR1 hB1
        go_wp2_with (fail)
        refine (RGO.out w1 HB1.out).out.mono ?_
        rintro e w2 ⟨P2, d2, rfl, hR2, hB2⟩
        simp only at hR2 ⊢
        obtain ⟨-, hd1, hC1⟩ := Kd.R_reads' HR1.out
        obtain ⟨-, hd2, hC2⟩ := Kd.R_reads' hR2
        have HB2 := Aside0.mk (below_then HB1.out HB1.out.size hB2)
        have q1 := Kd.C_string (P := Try.prog) (src := 34) (dst := 9) (c := d1) Try.underlying34 Try.underlying5 Try.underlying9 (Kd.C_below hC1 hB2)
        have q2 := Kd.C_string (P := Try.prog) (src := 34) (dst := 9) (c := d2) Try.underlying34 Try.underlying5 Try.underlying9 hC2
        clear HR1 HB1 hR2 hB2 hC1 hC2
        obtain ⟨str, hstr⟩ : ∃ x, strOfNums ([] : List Int) = x := ⟨_, rfl⟩
        rw [hstr] at q1 q2
        simp only [List.length_nil] at q1 q2
        clear hstr
        go_wp2_with (fail)
        refine (sane_calls _).mono ?_
        rintro e w10 ⟨rfl, hB⟩
        go_wp2_with (fail)
        go_ret
        exact ⟨rfl, below_then HB2.out HB2.out.size hB⟩
  exact hn _ rfl
end Go.Proofs.Ytlnhahnnjbfjdaa.Nel
