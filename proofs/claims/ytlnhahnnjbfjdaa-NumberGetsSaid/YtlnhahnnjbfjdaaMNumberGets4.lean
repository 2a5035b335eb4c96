import Derived.Test.YtlnhahnnjbfjdaaMNumberGets1
import Derived.Test.YtlnhahnnjbfjdaaMNumberGets2
import Derived.Test.YtlnhahnnjbfjdaaMNumberGets3
import Derived.RegionTactic
import Derived.ChangeAlike
import Derived.BigRegion
set_option linter.unusedVariables false
set_option linter.unusedSimpArgs false
namespace Go.Proofs.Ytlnhahnnjbfjdaa.Ngw
open Go Go.RowKit Go.Proofs.YtlnhahnnjbfjdaaW.PrintWords Go.Proofs.YtlnhahnnjbfjdaaW.PrintLast Go.Proofs.YtlnhahnnjbfjdaaW.PrintMore Go.Proofs.Ytlnhahnnjbfjdaa.U Go.Proofs.Ytlnhahnnjbfjdaa.Aid Go.Proofs.Ytlnhahnnjbfjdaa.HandAid Go.Proofs.Ytlnhahnnjbfjdaa.Cod1 Go.Proofs.Ytlnhahnnjbfjdaa.Cod2 Go.Proofs.Ytlnhahnnjbfjdaa.Cod3 Go.Proofs.Ytlnhahnnjbfjdaa.Mod Go.Proofs.Ytlnhahnnjbfjdaa.NewRef Go.Proofs.Ytlnhahnnjbfjdaa.Enc Go.Proofs.Ytlnhahnnjbfjdaa.Mods Go.Proofs.Ytlnhahnnjbfjdaa.EncAt Go.Proofs.Ytlnhahnnjbfjdaa.Put Go.Proofs.Ytlnhahnnjbfjdaa.End Go.Proofs.Ytlnhahnnjbfjdaa.Snc Go.Proofs.Ytlnhahnnjbfjdaa.Sane Go.Proofs.Ytlnhahnnjbfjdaa.Dec Go.Proofs.Ytlnhahnnjbfjdaa.Get Go.Proofs.Ytlnhahnnjbfjdaa.DecNew Go.Proofs.Ytlnhahnnjbfjdaa.RefAt Go.Proofs.Ytlnhahnnjbfjdaa.RDec Go.Proofs.Ytlnhahnnjbfjdaa.RDecNew Go.Proofs.Ytlnhahnnjbfjdaa.TwoD Go.Proofs.Ytlnhahnnjbfjdaa.Ngt Go.Proofs.Ytlnhahnnjbfjdaa.Nwk Go.Proofs.Ytlnhahnnjbfjdaa.Nrw Go.Proofs.Ytlnhahnnjbfjdaa.Gid Go.Proofs.Ytlnhahnnjbfjdaa.Pgt Go.Proofs.Ytlnhahnnjbfjdaa.TwN
theorem deed_at {w W : World} {ad : Addr} {l : List S55} (hC : Kd.C k55 w (some ad) l.length l) (hb : Below w.heap.size w W) (k : Nat) (hk : k < l.length) (d : S55) (hd : rd_T55 l (k : Int) = d) :
    W.cell? (ad.add (k * 6)) = some (.int .i64 d.f0) ∧ W.cell? ⟨(ad.add (k * 6)).block, (ad.add (k * 6)).off + 1, none⟩ = some (.int .i64 d.f1) ∧ W.cell? ⟨(ad.add (k * 6)).block, (ad.add (k * 6)).off + 3, none⟩ = some (.bool d.f3) := by
  obtain ⟨ad', hA, x0, x1, x2, x3, x4, x5⟩ := at_T55 (Kd.C_below hC hb) (k : Int) (by omega) (by omega)
  obtain rfl := Option.some.inj hA
  rw [Int.toNat_natCast, hd] at x0 x1 x3
  exact ⟨x0, x1, x3⟩
theorem newM {kind n : Int} (h : ¬ n > 8192) : ((kind = 0 ∨ kind = 1) ∧ 0 ≤ n ∧ newModel kind n = (kind, List.replicate n.toNat 0, 0)) ∨ newModel kind n = (0, [], 2) := by
  unfold newModel
  by_cases c : (kind = 0 ∨ kind = 1) ∧ 0 ≤ n ∧ n ≤ 8192
  · rw [if_pos c]; exact .inl ⟨c.1, c.2.1, rfl⟩
  · rw [if_neg c]; exact .inr rfl
set_option maxHeartbeats 4000000 in
set_option maxRecDepth 100000 in
theorem gets_walk (w : World) (kind : Int) (h0 : (Lit.int .i64 kind).wf = true) (n : Int) (h1 : (Lit.int .i64 n).wf = true)
    (A2 : Option Addr) (c2 : Nat) (b : List Int) (l2 : b.length ≤ c2) (g2 : Kd.C (Kd.int .u8) w A2 b.length b) (w2 : b.length * 1 ≤ 140737488351232 ∧ ∀ x ∈ b, (Lit.int .u8 x).wf = true)
    (A3 : Option Addr) (c3 : Nat) (l : List S55) (l3 : l.length ≤ c3) (g3 : Kd.C k55 w A3 l.length l) :
    Calls Try.prog 6 #[.agg #[.int .i64 kind, .int .i64 n, .slice A2 b.length c2, .slice A3 l.length c3]] w fun e w' => e = .returned (.bool true) ∧ Below w.heap.size w w' := by
  have hu := Try.underlying45
  have hu2 := Try.underlying42
  have hu3 := Try.underlying23
  have hu4 := Try.underlying55
  have HBY := Aside0.mk (bytes_of w2.2)
  have HCb := Aside0.mk g2
  have hml : l.length ≤ 9223372036854775807 := Kd.C_max g3
  have hmb : b.length ≤ 9223372036854775807 := Kd.C_max g2
  clear h0 h1 w2 g2
  obtain ⟨b1, hb1⟩ : ∃ x, w.heap.size = x := ⟨_, rfl⟩
  obtain ⟨W1, hW1⟩ : ∃ x, w.alloc (.cells #[.int .i64 kind, .int .i64 n, .slice A2 b.length c2, .slice A3 l.length c3] 42) = x := ⟨_, rfl⟩
  have HB := Aside0.mk (show Below w.heap.size w W1 from hW1 ▸ below_alloc (Below.refl _ _) _)
  have HZ := Aside0.mk (show W1.heap[b1]? = some (.cells #[.int .i64 kind, .int .i64 n, .slice A2 b.length c2, .slice A3 l.length c3] 42 (0, 0)) from hW1 ▸ hb1 ▸ heap_new w _)
  have c0 : W1.cell? ⟨b1, 0, none⟩ = some (.int .i64 kind) := (blk_cell HZ.out 0).trans rfl
  have c1 : W1.cell? ⟨b1, 1, none⟩ = some (.int .i64 n) := (blk_cell HZ.out 1).trans rfl
  have c2 : W1.cell? ⟨b1, 2, none⟩ = some (.slice A2 b.length c2) := (blk_cell HZ.out 2).trans rfl
  have c3 : W1.cell? ⟨b1, 3, none⟩ = some (.slice A3 l.length c3) := (blk_cell HZ.out 3).trans rfl
  by_cases hbig : n > 1500 ∨ l.length > 60 ∨ b.length > 300
  · have hb2 : n > 1500 ∨ ((l.length : Int) > 60 ∧ ¬ n > 1500) ∨ ((b.length : Int) > 300 ∧ ¬ n > 1500 ∧ ¬ (l.length : Int) > 60) := by omega
    clear hbig g3 HBY HCb
    rcases hb2 with h | ⟨h, h'⟩ | ⟨h, h', h''⟩
    · go_enter Try.func6, Try.ntmps6
      go_wp2_with (fail)
      go_region
      have HB := Aside0.mk (below_drew1 HB.out)
      go_wp2_with (fail)
      refine (sane_calls _).mono ?_
      rintro e w2 ⟨rfl, hB⟩
      have HB2 := Aside0.mk (below_then HB.out HB.out.size hB)
      clear hB
      go_wp2_with (fail)
      go_ret
      exact ⟨rfl, HB2.out⟩
    · go_enter Try.func6, Try.ntmps6
      go_wp2_with (fail)
      go_region
      have HB := Aside0.mk (below_drew1 HB.out)
      go_wp2_with (fail)
      refine (sane_calls _).mono ?_
      rintro e w2 ⟨rfl, hB⟩
      have HB2 := Aside0.mk (below_then HB.out HB.out.size hB)
      clear hB
      go_wp2_with (fail)
      go_ret
      exact ⟨rfl, HB2.out⟩
    · go_enter Try.func6, Try.ntmps6
      go_wp2_with (fail)
      go_region
      have HB := Aside0.mk (below_drew1 HB.out)
      go_wp2_with (fail)
      refine (sane_calls _).mono ?_
      rintro e w2 ⟨rfl, hB⟩
      have HB2 := Aside0.mk (below_then HB.out HB.out.size hB)
      clear hB
      go_wp2_with (fail)
      go_ret
      exact ⟨rfl, HB2.out⟩
  have n1 : ¬ n > 1500 := by omega
  have n2 : ¬ (l.length : Int) > 60 := by omega
  have n3 : ¬ (b.length : Int) > 300 := by omega
  have n4 : l.length ≤ 60 := by omega
  have n5 : b.length ≤ 300 := by omega
  clear hbig
  go_enter Try.func6, Try.ntmps6
  go_wp2_with (fail)
  go_region
  have HB := Aside0.mk (below_drew1 HB.out)
  clear c0 c1 c2 c3 HZ
  obtain ⟨W1d, hW1d⟩ : ∃ x, W1.drew = x := ⟨_, rfl⟩
  rw [hW1d] at HB ⊢
  clear hW1d hW1 hb1
  go_wp2_with (fail)
  refine (new_calls kind n W1d).mono ?_
  rintro e W2 ⟨A, c, rfl, hRM, hb2⟩
  rcases newM (kind := kind) (n := n) (by omega) with ⟨hk, hn0, hnm⟩ | hnm
  · have hmok : okModel kind (List.replicate n.toNat 0) := by have := new_ok kind n (by rw [hnm]); rw [hnm] at this; exact this
    rw [hnm] at hRM ⊢
    have hrn : ∀ W : World, Calls Try.prog 23 #[.int .i64 kind, .int .i64 n] W fun e w' => ∃ A c, e = .returned (.tuple #[.agg #[.int .i64 kind, .slice A (List.replicate n.toNat (0 : Int)).length c], .int .i64 0]) ∧ Kd.R (Kd.int .i64) 3 w' W.heap.size (fun _ => True) (.slice A (List.replicate n.toNat (0 : Int)).length c) (List.replicate n.toNat 0) ∧ Below W.heap.size W w' := fun W => by have := ref_new_calls kind n W; rw [hnm] at this; exact this
    generalize List.replicate n.toNat (0 : Int) = st at hmok hRM hrn ⊢
    have HRN := Aside0.mk hrn
    have HMO := Aside0.mk hmok
    have HB2 := Aside0.mk (below_then HB.out HB.out.size hb2)
    obtain ⟨hcA, hcB, hCM⟩ := Kd.R_reads' hRM
    have HCM := Aside0.mk hCM
    have HDS := Aside0.mk (newDS_ok hmok HBY.out (show b.length ≤ 1099511627776 by omega))
    clear hrn hmok hb2 hRM hCM hnm HB
    obtain ⟨b7, hb7⟩ : ∃ x, W2.heap.size = x := ⟨_, rfl⟩
    obtain ⟨W3, hW3⟩ : ∃ x, W2.alloc (.cells #[.int .i64 kind, .slice A st.length c] 45) = x := ⟨_, rfl⟩
    have HB3 := Aside0.mk (show Below w.heap.size w W3 from hW3 ▸ below_alloc HB2.out _)
    have HCM := Aside0.mk (show Kd.C (Kd.int .i64) W3 A st.length st from hW3 ▸ Kd.C_below HCM.out (below_alloc (Below.refl _ _) _))
    have HZ3 := Aside0.mk (show W3.heap[b7]? = some (.cells #[.int .i64 kind, .slice A st.length c] 45 (0, 0)) from hW3 ▸ hb7 ▸ heap_new W2 _)
    have k0 : W3.cell? ⟨b7, 0, none⟩ = some (.int .i64 kind) := (blk_cell HZ3.out 0).trans rfl
    have k1 : W3.cell? ⟨b7, 1, none⟩ = some (.slice A st.length c) := (blk_cell HZ3.out 1).trans rfl
    clear HB2
    go_wp2_with (fail)
    clear hW3 hb7
    refine (new_dec A c kind st A2 _ b W3 HCM.out hcB HMO.out (Kd.C_below HCb.out HB3.out) l2 HBY.out (by omega)).mono ?_
    rintro e W4 ⟨g, rfl, hE4, hB4⟩
    have HE4 := Aside0.mk hE4
    have HB4 := Aside0.mk hB4
    clear hE4 hB4 k0 k1
    go_wp2_with (fail)
    refine (HRN.out W4).mono ?_
    rintro e W5 ⟨A5, c5, rfl, hR5, hb5⟩
    obtain ⟨hcA5, hcB5, hCM5⟩ := Kd.R_reads' hR5
    obtain ⟨b10, hb10⟩ : ∃ x, W5.heap.size = x := ⟨_, rfl⟩
    obtain ⟨W6, hW6⟩ : ∃ x, W5.alloc (.cells #[.int .i64 kind, .slice A5 st.length c5] 45) = x := ⟨_, rfl⟩
    have HB6 := Aside0.mk (show Below W4.heap.size W4 W6 from hW6 ▸ below_alloc hb5 _)
    have HCM5 := Aside0.mk (show Kd.C (Kd.int .i64) W6 A5 st.length st from hW6 ▸ Kd.C_below hCM5 (below_alloc (Below.refl _ _) _))
    have HZ6 := Aside0.mk (show W6.heap[b10]? = some (.cells #[.int .i64 kind, .slice A5 st.length c5] 45 (0, 0)) from hW6 ▸ hb10 ▸ heap_new W5 _)
    have k0 : W6.cell? ⟨b10, 0, none⟩ = some (.int .i64 kind) := (blk_cell HZ6.out 0).trans rfl
    have k1 : W6.cell? ⟨b10, 1, none⟩ = some (.slice A5 st.length c5) := (blk_cell HZ6.out 1).trans rfl
    have HBw6 := Aside0.mk (below_then (below_then HB3.out HB3.out.size HB4.out) (Nat.le_trans HB3.out.size HB4.out.size) HB6.out)
    clear hR5 hb5 hCM5 HRN
    go_wp2_with (fail)
    clear hW6 hb10
    refine (rnew_dec A5 c5 kind st A2 _ b W6 HCM5.out hcB5 HMO.out (Kd.C_below HCb.out HBw6.out) l2 HBY.out (by omega)).mono ?_
    rintro e W7 ⟨h, rfl, hE7, hB7⟩
    have HT := Aside0.mk (TwoD.new (w := w) (W := W3) (W1 := W6) HB3.out (AtL.mono (HE4.out.below HB6.out) (fun k hk => ⟨hk.1, Nat.lt_of_lt_of_le hk.2 HB6.out.size⟩)) (below_then HB4.out HB4.out.size HB6.out) hE7 hB7 HDS.out HDS.out)
    clear hE7 hB7 k0 k1 HB3 HE4 HB4 HB6 HCM5 HZ6 HBw6 HCM HZ3 HDS HMO hcA hcB hcA5 hcB5 HCb HBY n1 n2 n3 n5 hk hn0
    have HCx := Aside0.mk g3
    clear g3
    go_wp2_with (fail)
    go_loopw [14] (fun i wr => ∃ (k : Nat) (s : DS), k ≤ l.length ∧ i = .int .i64 k ∧ Aside0 (TwoD w g h s s wr)) (fun i _ => l.length - (intOf i).toNat)
    case atStart => exact ⟨0, newDS kind st b, Nat.zero_le _, rfl, HT⟩
    clear HT
    case round =>
      obtain ⟨k, s, hk, rfl, HT⟩ := hrel
      by_cases hlt : k < l.length
      · obtain ⟨ad, hA, -⟩ := at_T55 HCx.out (k : Int) (by omega) (by omega)
        subst hA
        obtain ⟨d, hd⟩ : ∃ d, rd_T55 l (k : Int) = d := ⟨_, rfl⟩
        have x3 := (deed_at HCx.out HT.out.b k hlt d hd).2.2
        by_cases hid : d.f3 = true
        · rw [hid] at x3
          obtain ⟨s', v, er, hs'⟩ : ∃ s' v er, idR d.f0 d.f1 s = (s', v, er) := ⟨_, _, _, rfl⟩
          go_wp2_with (fail)
          have HT0 := Aside0.mk (HT.out.below (below_drew (Below.refl _ _)))
          clear HT x3
          refine start_ (n := 17) (S := fun w' => w'.cell? (ad.add (k * 6)) = some (.int .i64 d.f0) ∧ w'.cell? ⟨(ad.add (k * 6)).block, (ad.add (k * 6)).off + 1, none⟩ = some (.int .i64 d.f1)) (ds := []) #[false, false, false, false, false, false, false, false, false, false, false, false, false, false, false, false, false] (by kernel_rfl) rfl rfl ⟨(deed_at HCx.out HT0.out.b k hlt d hd).1, (deed_at HCx.out HT0.out.b k hlt d hd).2.1⟩ (fun hHeld => ?_)
          refine pure_ (i := 0) (N := some 85) (v := ?_) (a' := ?_) #[true, false, false, false, false, false, false, false, false, false, false, false, false, false, false, false, false] rfl rfl (by kernel_rfl) (fun _ _ _ h => h) (Or.inl ⟨by rfl, ?_⟩) ?_ ?_
          rotate_left
          · intro w'
            go_simp
            with_reducible rfl
          rotate_left
          · simp only [Act.put, List.setIfInBounds_toArray, List.set_cons_zero, List.set_cons_succ, i64_w, i32_w]
            rfl
          refine pure_ (i := 1) (N := some 86) (v := ?_) (a' := ?_) #[true, true, false, false, false, false, false, false, false, false, false, false, false, false, false, false, false] rfl rfl (by kernel_rfl) (fun _ _ _ h => h) (Or.inl ⟨by rfl, ?_⟩) ?_ ?_
          rotate_left
          · intro w'
            go_simp
            with_reducible rfl
          rotate_left
          · simp only [Act.put, List.setIfInBounds_toArray, List.set_cons_zero, List.set_cons_succ, i64_w, i32_w]
            rfl
          refine pure_ (i := 2) (N := some 87) (v := ?_) (a' := ?_) #[true, true, true, false, false, false, false, false, false, false, false, false, false, false, false, false, false] rfl rfl (by kernel_rfl) (fun _ _ _ h => h) (Or.inl ⟨by rfl, ?_⟩) ?_ ?_
          rotate_left
          · intro w'
            go_simp
            with_reducible rfl
          rotate_left
          · simp only [Act.put, List.setIfInBounds_toArray, List.set_cons_zero, List.set_cons_succ, i64_w, i32_w]
            rfl
          refine pure_ (i := 3) (N := some 88) (v := ?_) (a' := ?_) #[true, true, true, true, false, false, false, false, false, false, false, false, false, false, false, false, false] rfl rfl (by kernel_rfl) (fun _ _ _ h => h) (Or.inl ⟨by rfl, ?_⟩) ?_ ?_
          rotate_left
          · intro w'
            go_simp
            with_reducible rfl
          rotate_left
          · simp only [Act.put, List.setIfInBounds_toArray, List.set_cons_zero, List.set_cons_succ, i64_w, i32_w]
            rfl
          refine pure_ (i := 4) (N := some 89) (v := ?_) (a' := ?_) #[true, true, true, true, true, false, false, false, false, false, false, false, false, false, false, false, false] rfl rfl (by kernel_rfl) (fun _ _ _ h => h) (Or.inl ⟨by rfl, ?_⟩) ?_ ?_
          rotate_left
          · intro w'
            go_simp
            with_reducible rfl
          rotate_left
          · simp only [Act.put, List.setIfInBounds_toArray, List.set_cons_zero, List.set_cons_succ, i64_w, i32_w]
            rfl
          refine pure_ (i := 6) (N := some 91) (v := ?_) (a' := ?_) #[true, true, true, true, true, false, true, false, false, false, false, false, false, false, false, false, false] rfl rfl (by kernel_rfl) (fun _ _ _ h => h) (Or.inl ⟨by rfl, ?_⟩) ?_ ?_
          rotate_left
          · intro w'
            go_simp
            with_reducible rfl
          rotate_left
          · simp only [Act.put, List.setIfInBounds_toArray, List.set_cons_zero, List.set_cons_succ, i64_w, i32_w]
            rfl
          refine pure_ (i := 7) (N := some 92) (v := ?_) (a' := ?_) #[true, true, true, true, true, false, true, true, false, false, false, false, false, false, false, false, false] rfl rfl (by kernel_rfl) (fun _ _ _ h => h) (Or.inl ⟨by rfl, ?_⟩) ?_ ?_
          rotate_left
          · intro w'
            go_simp
            with_reducible rfl
          rotate_left
          · simp only [Act.put, List.setIfInBounds_toArray, List.set_cons_zero, List.set_cons_succ, i64_w, i32_w]
            rfl
          refine pure_ (i := 8) (N := some 93) (v := ?_) (a' := ?_) #[true, true, true, true, true, false, true, true, true, false, false, false, false, false, false, false, false] rfl rfl (by kernel_rfl) (fun _ _ _ h => h) (Or.inl ⟨by rfl, ?_⟩) ?_ ?_
          rotate_left
          · intro w'
            go_simp
            with_reducible rfl
          rotate_left
          · simp only [Act.put, List.setIfInBounds_toArray, List.set_cons_zero, List.set_cons_succ, i64_w, i32_w]
            rfl
          refine pure_ (i := 9) (N := some 94) (v := ?_) (a' := ?_) #[true, true, true, true, true, false, true, true, true, true, false, false, false, false, false, false, false] rfl rfl (by kernel_rfl) (fun _ _ _ h => h) (Or.inl ⟨by rfl, ?_⟩) ?_ ?_
          rotate_left
          · intro w'
            go_simp
            with_reducible rfl
          rotate_left
          · simp only [Act.put, List.setIfInBounds_toArray, List.set_cons_zero, List.set_cons_succ, i64_w, i32_w]
            rfl
          refine take_ (i := 5) (N := some 90) (v := ?_) (a' := ?_) #[true, true, true, true, true, true, true, true, true, true, false, false, false, false, false, false, false] rfl rfl (by kernel_rfl) (fun _ _ _ h => h) (Or.inl ⟨by rfl, ?_⟩) hHeld ?_ ?_
          rotate_left
          · rintro w' ⟨s0, s1⟩
            go_simp
            with_reducible rfl
          rotate_left
          · simp only [Act.put, List.setIfInBounds_toArray, List.set_cons_zero, List.set_cons_succ, i64_w, i32_w]
            rfl
          refine take_ (i := 10) (N := some 95) (v := ?_) (a' := ?_) #[true, true, true, true, true, true, true, true, true, true, true, false, false, false, false, false, false] rfl rfl (by kernel_rfl) (fun _ _ _ h => h) (Or.inl ⟨by rfl, ?_⟩) hHeld ?_ ?_
          rotate_left
          · rintro w' ⟨s0, s1⟩
            go_simp
            with_reducible rfl
          rotate_left
          · simp only [Act.put, List.setIfInBounds_toArray, List.set_cons_zero, List.set_cons_succ, i64_w, i32_w]
            rfl
          refine one_ (i := 11) (N := some 96) #[true, true, true, true, true, true, true, true, true, true, true, true, false, false, false, false, false] rfl rfl (by kernel_rfl) (by decide) (fun K hK => ?_)
          refine goes_ Try.func25 (by kernel_rfl) rfl #[.pointer (some ⟨g, 0, none⟩), .int .i64 d.f0, .int .i64 d.f1] (by rfl) rfl rfl (by simp only [List.map_toArray, List.map_cons, List.map_nil]; rfl) ?_
          with_reducible refine ((HT0.out.getid d.f0 d.f1 s' v er hs')).mono ?_
          rintro e W3 ⟨rfl, hT⟩
          refine ⟨_, rfl, ?_⟩
          have HT3 := Aside0.mk hT
          clear hT
          refine hK.out _ _ ⟨(deed_at HCx.out HT3.out.b k hlt d hd).1, (deed_at HCx.out HT3.out.b k hlt d hd).2.1⟩ (fun hHeld => ?_)
          clear hK K
          refine norm_ (a' := ?_) ?_ ?_
          rotate_left
          · show Act.put _ (some 96) _ = _
            simp only [Act.put, List.setIfInBounds_toArray, List.set_cons_zero, List.set_cons_succ, i64_w, i32_w]
            rfl
          refine pure_ (i := 12) (N := some 84) (v := ?_) (a' := ?_) #[true, true, true, true, true, true, true, true, true, true, true, true, true, false, false, false, false] rfl rfl (by kernel_rfl) (fun _ _ _ h => h) (Or.inl ⟨by rfl, ?_⟩) ?_ ?_
          rotate_left
          · intro w'
            go_simp
            with_reducible rfl
          rotate_left
          · simp only [Act.put, List.setIfInBounds_toArray, List.set_cons_zero, List.set_cons_succ, i64_w, i32_w]
            rfl
          refine pure_ (i := 13) (N := some 97) (v := ?_) (a' := ?_) #[true, true, true, true, true, true, true, true, true, true, true, true, true, true, false, false, false] rfl rfl (by kernel_rfl) (fun _ _ _ h => h) (Or.inl ⟨by rfl, ?_⟩) ?_ ?_
          rotate_left
          · intro w'
            go_simp
            with_reducible rfl
          rotate_left
          · simp only [Act.put, List.setIfInBounds_toArray, List.set_cons_zero, List.set_cons_succ, i64_w, i32_w]
            rfl
          refine pure_ (i := 14) (N := some 98) (v := ?_) (a' := ?_) #[true, true, true, true, true, true, true, true, true, true, true, true, true, true, true, false, false] rfl rfl (by kernel_rfl) (fun _ _ _ h => h) (Or.inl ⟨by rfl, ?_⟩) ?_ ?_
          rotate_left
          · intro w'
            go_simp
            with_reducible rfl
          rotate_left
          · simp only [Act.put, List.setIfInBounds_toArray, List.set_cons_zero, List.set_cons_succ, i64_w, i32_w]
            rfl
          refine pure_ (i := 15) (N := some 15) (v := ?_) (a' := ?_) #[true, true, true, true, true, true, true, true, true, true, true, true, true, true, true, true, false] rfl rfl (by kernel_rfl) (fun _ _ _ h => h) (Or.inl ⟨by rfl, ?_⟩) ?_ ?_
          rotate_left
          · intro w'
            go_simp
            with_reducible rfl
          rotate_left
          · simp only [Act.put, List.setIfInBounds_toArray, List.set_cons_zero, List.set_cons_succ, i64_w, i32_w]
            rfl
          refine pure_ (i := 16) (N := some 16) (v := ?_) (a' := ?_) #[true, true, true, true, true, true, true, true, true, true, true, true, true, true, true, true, true] rfl rfl (by kernel_rfl) (fun _ _ _ h => h) (Or.inl ⟨by rfl, ?_⟩) ?_ ?_
          rotate_left
          · intro w'
            go_simp
            with_reducible rfl
          rotate_left
          · simp only [Act.put, List.setIfInBounds_toArray, List.set_cons_zero, List.set_cons_succ, i64_w, i32_w]
            rfl
          refine done_ (by kernel_rfl) ?_
          go_wp2_with (fail)
          have HT0 := Aside0.mk (HT3.out.below (below_drew (Below.refl _ _)))
          clear HT3
          refine start_ (n := 17) (S := fun w' => w'.cell? (ad.add (k * 6)) = some (.int .i64 d.f0) ∧ w'.cell? ⟨(ad.add (k * 6)).block, (ad.add (k * 6)).off + 1, none⟩ = some (.int .i64 d.f1)) (ds := []) #[false, false, false, false, false, false, false, false, false, false, false, false, false, false, false, false, false] (by kernel_rfl) rfl rfl ⟨(deed_at HCx.out HT0.out.b k hlt d hd).1, (deed_at HCx.out HT0.out.b k hlt d hd).2.1⟩ (fun hHeld => ?_)
          refine pure_ (i := 0) (N := some 100) (v := ?_) (a' := ?_) #[true, false, false, false, false, false, false, false, false, false, false, false, false, false, false, false, false] rfl rfl (by kernel_rfl) (fun _ _ _ h => h) (Or.inl ⟨by rfl, ?_⟩) ?_ ?_
          rotate_left
          · intro w'
            go_simp
            with_reducible rfl
          rotate_left
          · simp only [Act.put, List.setIfInBounds_toArray, List.set_cons_zero, List.set_cons_succ, i64_w, i32_w]
            rfl
          refine pure_ (i := 1) (N := some 101) (v := ?_) (a' := ?_) #[true, true, false, false, false, false, false, false, false, false, false, false, false, false, false, false, false] rfl rfl (by kernel_rfl) (fun _ _ _ h => h) (Or.inl ⟨by rfl, ?_⟩) ?_ ?_
          rotate_left
          · intro w'
            go_simp
            with_reducible rfl
          rotate_left
          · simp only [Act.put, List.setIfInBounds_toArray, List.set_cons_zero, List.set_cons_succ, i64_w, i32_w]
            rfl
          refine pure_ (i := 2) (N := some 102) (v := ?_) (a' := ?_) #[true, true, true, false, false, false, false, false, false, false, false, false, false, false, false, false, false] rfl rfl (by kernel_rfl) (fun _ _ _ h => h) (Or.inl ⟨by rfl, ?_⟩) ?_ ?_
          rotate_left
          · intro w'
            go_simp
            with_reducible rfl
          rotate_left
          · simp only [Act.put, List.setIfInBounds_toArray, List.set_cons_zero, List.set_cons_succ, i64_w, i32_w]
            rfl
          refine pure_ (i := 3) (N := some 103) (v := ?_) (a' := ?_) #[true, true, true, true, false, false, false, false, false, false, false, false, false, false, false, false, false] rfl rfl (by kernel_rfl) (fun _ _ _ h => h) (Or.inl ⟨by rfl, ?_⟩) ?_ ?_
          rotate_left
          · intro w'
            go_simp
            with_reducible rfl
          rotate_left
          · simp only [Act.put, List.setIfInBounds_toArray, List.set_cons_zero, List.set_cons_succ, i64_w, i32_w]
            rfl
          refine pure_ (i := 4) (N := some 104) (v := ?_) (a' := ?_) #[true, true, true, true, true, false, false, false, false, false, false, false, false, false, false, false, false] rfl rfl (by kernel_rfl) (fun _ _ _ h => h) (Or.inl ⟨by rfl, ?_⟩) ?_ ?_
          rotate_left
          · intro w'
            go_simp
            with_reducible rfl
          rotate_left
          · simp only [Act.put, List.setIfInBounds_toArray, List.set_cons_zero, List.set_cons_succ, i64_w, i32_w]
            rfl
          refine pure_ (i := 6) (N := some 106) (v := ?_) (a' := ?_) #[true, true, true, true, true, false, true, false, false, false, false, false, false, false, false, false, false] rfl rfl (by kernel_rfl) (fun _ _ _ h => h) (Or.inl ⟨by rfl, ?_⟩) ?_ ?_
          rotate_left
          · intro w'
            go_simp
            with_reducible rfl
          rotate_left
          · simp only [Act.put, List.setIfInBounds_toArray, List.set_cons_zero, List.set_cons_succ, i64_w, i32_w]
            rfl
          refine pure_ (i := 7) (N := some 107) (v := ?_) (a' := ?_) #[true, true, true, true, true, false, true, true, false, false, false, false, false, false, false, false, false] rfl rfl (by kernel_rfl) (fun _ _ _ h => h) (Or.inl ⟨by rfl, ?_⟩) ?_ ?_
          rotate_left
          · intro w'
            go_simp
            with_reducible rfl
          rotate_left
          · simp only [Act.put, List.setIfInBounds_toArray, List.set_cons_zero, List.set_cons_succ, i64_w, i32_w]
            rfl
          refine pure_ (i := 8) (N := some 108) (v := ?_) (a' := ?_) #[true, true, true, true, true, false, true, true, true, false, false, false, false, false, false, false, false] rfl rfl (by kernel_rfl) (fun _ _ _ h => h) (Or.inl ⟨by rfl, ?_⟩) ?_ ?_
          rotate_left
          · intro w'
            go_simp
            with_reducible rfl
          rotate_left
          · simp only [Act.put, List.setIfInBounds_toArray, List.set_cons_zero, List.set_cons_succ, i64_w, i32_w]
            rfl
          refine pure_ (i := 9) (N := some 109) (v := ?_) (a' := ?_) #[true, true, true, true, true, false, true, true, true, true, false, false, false, false, false, false, false] rfl rfl (by kernel_rfl) (fun _ _ _ h => h) (Or.inl ⟨by rfl, ?_⟩) ?_ ?_
          rotate_left
          · intro w'
            go_simp
            with_reducible rfl
          rotate_left
          · simp only [Act.put, List.setIfInBounds_toArray, List.set_cons_zero, List.set_cons_succ, i64_w, i32_w]
            rfl
          refine take_ (i := 5) (N := some 105) (v := ?_) (a' := ?_) #[true, true, true, true, true, true, true, true, true, true, false, false, false, false, false, false, false] rfl rfl (by kernel_rfl) (fun _ _ _ h => h) (Or.inl ⟨by rfl, ?_⟩) hHeld ?_ ?_
          rotate_left
          · rintro w' ⟨s0, s1⟩
            go_simp
            with_reducible rfl
          rotate_left
          · simp only [Act.put, List.setIfInBounds_toArray, List.set_cons_zero, List.set_cons_succ, i64_w, i32_w]
            rfl
          refine take_ (i := 10) (N := some 110) (v := ?_) (a' := ?_) #[true, true, true, true, true, true, true, true, true, true, true, false, false, false, false, false, false] rfl rfl (by kernel_rfl) (fun _ _ _ h => h) (Or.inl ⟨by rfl, ?_⟩) hHeld ?_ ?_
          rotate_left
          · rintro w' ⟨s0, s1⟩
            go_simp
            with_reducible rfl
          rotate_left
          · simp only [Act.put, List.setIfInBounds_toArray, List.set_cons_zero, List.set_cons_succ, i64_w, i32_w]
            rfl
          refine one_ (i := 11) (N := some 111) #[true, true, true, true, true, true, true, true, true, true, true, true, false, false, false, false, false] rfl rfl (by kernel_rfl) (by decide) (fun K hK => ?_)
          refine goes_ Try.func26 (by kernel_rfl) rfl #[.pointer (some ⟨h, 0, none⟩), .int .i64 d.f0, .int .i64 d.f1] (by rfl) rfl rfl (by simp only [List.map_toArray, List.map_cons, List.map_nil]; rfl) ?_
          with_reducible refine ((HT0.out.rgetid d.f0 d.f1 s' v er hs')).mono ?_
          rintro e W4 ⟨rfl, hT⟩
          refine ⟨_, rfl, ?_⟩
          have HT4 := Aside0.mk hT
          clear hT
          refine hK.out _ _ ⟨(deed_at HCx.out HT4.out.b k hlt d hd).1, (deed_at HCx.out HT4.out.b k hlt d hd).2.1⟩ (fun hHeld => ?_)
          clear hK K
          refine norm_ (a' := ?_) ?_ ?_
          rotate_left
          · show Act.put _ (some 111) _ = _
            simp only [Act.put, List.setIfInBounds_toArray, List.set_cons_zero, List.set_cons_succ, i64_w, i32_w]
            rfl
          refine pure_ (i := 12) (N := some 99) (v := ?_) (a' := ?_) #[true, true, true, true, true, true, true, true, true, true, true, true, true, false, false, false, false] rfl rfl (by kernel_rfl) (fun _ _ _ h => h) (Or.inl ⟨by rfl, ?_⟩) ?_ ?_
          rotate_left
          · intro w'
            go_simp
            with_reducible rfl
          rotate_left
          · simp only [Act.put, List.setIfInBounds_toArray, List.set_cons_zero, List.set_cons_succ, i64_w, i32_w]
            rfl
          refine pure_ (i := 13) (N := some 112) (v := ?_) (a' := ?_) #[true, true, true, true, true, true, true, true, true, true, true, true, true, true, false, false, false] rfl rfl (by kernel_rfl) (fun _ _ _ h => h) (Or.inl ⟨by rfl, ?_⟩) ?_ ?_
          rotate_left
          · intro w'
            go_simp
            with_reducible rfl
          rotate_left
          · simp only [Act.put, List.setIfInBounds_toArray, List.set_cons_zero, List.set_cons_succ, i64_w, i32_w]
            rfl
          refine pure_ (i := 14) (N := some 113) (v := ?_) (a' := ?_) #[true, true, true, true, true, true, true, true, true, true, true, true, true, true, true, false, false] rfl rfl (by kernel_rfl) (fun _ _ _ h => h) (Or.inl ⟨by rfl, ?_⟩) ?_ ?_
          rotate_left
          · intro w'
            go_simp
            with_reducible rfl
          rotate_left
          · simp only [Act.put, List.setIfInBounds_toArray, List.set_cons_zero, List.set_cons_succ, i64_w, i32_w]
            rfl
          refine pure_ (i := 15) (N := some 17) (v := ?_) (a' := ?_) #[true, true, true, true, true, true, true, true, true, true, true, true, true, true, true, true, false] rfl rfl (by kernel_rfl) (fun _ _ _ h => h) (Or.inl ⟨by rfl, ?_⟩) ?_ ?_
          rotate_left
          · intro w'
            go_simp
            with_reducible rfl
          rotate_left
          · simp only [Act.put, List.setIfInBounds_toArray, List.set_cons_zero, List.set_cons_succ, i64_w, i32_w]
            rfl
          refine pure_ (i := 16) (N := some 18) (v := ?_) (a' := ?_) #[true, true, true, true, true, true, true, true, true, true, true, true, true, true, true, true, true] rfl rfl (by kernel_rfl) (fun _ _ _ h => h) (Or.inl ⟨by rfl, ?_⟩) ?_ ?_
          rotate_left
          · intro w'
            go_simp
            with_reducible rfl
          rotate_left
          · simp only [Act.put, List.setIfInBounds_toArray, List.set_cons_zero, List.set_cons_succ, i64_w, i32_w]
            rfl
          refine done_ (by kernel_rfl) ?_
          go_wp2_with (fail)
          exact ⟨⟨k + 1, s', by omega, by go_num, HT4⟩, by simp [intOf]; omega⟩
        · have hid : d.f3 = false := by simpa using hid
          rw [hid] at x3
          obtain ⟨s', nn, v, er, hs'⟩ : ∃ s' nn v er, numR d.f0 s = (s', (nn, v), er) := ⟨_, _, _, _, rfl⟩
          have x0 := (deed_at HCx.out HT.out.b k hlt d hd).1
          go_wp2_with (fail)
          refine (HT.out.num d.f0 s' nn v er hs').mono ?_
          rintro e W3 ⟨rfl, hT⟩
          have HT3 := Aside0.mk hT
          have HT3a := Aside0.mk (hT.below (below_alloc (Below.refl _ _) (.cells #[.bool nn, .int .i64 v] 23)))
          clear hT x0 x3
          obtain ⟨b19, hb19⟩ : ∃ x, W3.heap.size = x := ⟨_, rfl⟩
          obtain ⟨W4, hW4⟩ : ∃ x, W3.alloc (.cells #[.bool nn, .int .i64 v] 23) = x := ⟨_, rfl⟩
          have HZ4 := Aside0.mk (show W4.heap[b19]? = some (.cells #[.bool nn, .int .i64 v] 23 (0, 0)) from hW4 ▸ hb19 ▸ heap_new W3 _)
          rw [hW4] at HT3a
          have x0 := (deed_at HCx.out HT3a.out.b k hlt d hd).1
          go_wp2_with (fail)
          have hgz : W3.heap.size ≤ b19 := Nat.le_of_eq hb19
          have hb34 : Below W3.heap.size W3 W4 := hW4 ▸ below_alloc (Below.refl _ _) _
          refine (HT3.out.rnum' hb34 hgz HZ4.out d.f0 s' nn v er hs').mono ?_
          rintro e W5 ⟨rfl, hT, hZ5⟩
          clear hW4 hb19 HT3 HT3a hgz hb34 x0 HZ4
          obtain ⟨b21, hb21⟩ : ∃ x, W5.heap.size = x := ⟨_, rfl⟩
          obtain ⟨W6, hW6⟩ : ∃ x, W5.alloc (.cells #[.bool nn, .int .i64 v] 23) = x := ⟨_, rfl⟩
          have HT6 := Aside0.mk (show TwoD w g h s' s' W6 from hW6 ▸ hT.below (below_alloc (Below.refl _ _) _))
          have HZ6 := Aside0.mk (show W6.heap[b19]? = some (.cells #[.bool nn, .int .i64 v] 23 (0, 0)) from hW6 ▸ blk_alloc hZ5 _)
          have HZ7 := Aside0.mk (show W6.heap[b21]? = some (.cells #[.bool nn, .int .i64 v] 23 (0, 0)) from hW6 ▸ hb21 ▸ heap_new W5 _)
          have y0 : W6.cell? ⟨b19, 0, none⟩ = some (.bool nn) := (blk_cell HZ6.out 0).trans rfl
          have y1 : W6.cell? ⟨b19, 1, none⟩ = some (.int .i64 v) := (blk_cell HZ6.out 1).trans rfl
          have z0 : W6.cell? ⟨b21, 0, none⟩ = some (.bool nn) := (blk_cell HZ7.out 0).trans rfl
          have z1 : W6.cell? ⟨b21, 1, none⟩ = some (.int .i64 v) := (blk_cell HZ7.out 1).trans rfl
          clear hT hZ5
          go_wp2_with (fail)
          exact ⟨⟨k + 1, s', by omega, by go_num, HT6⟩, by simp [intOf]; omega⟩
      · clear hk
        go_wp2_with (first
          | (go_at_call 29; refine HT.out.beyond.mono ?_; rintro e w5 ⟨rfl, rfl⟩)
          | (go_at_call 30; refine HT.out.rbeyond.mono ?_; rintro e w6 ⟨rfl, rfl⟩)
          | (go_at_call 15; refine (sane_calls _).mono ?_; rintro e w7 ⟨rfl, hB7⟩; have HT7 := Aside0.mk (HT.out.below hB7); clear hB7))
        go_ret
        exact ⟨rfl, HT7.out.b⟩
  · rw [hnm] at hRM ⊢
    have HB2 := Aside0.mk (below_then HB.out HB.out.size hb2)
    clear hRM hb2 HB
    have HB3 := Aside0.mk (below_alloc HB2.out (.cells #[.int .i64 0, .slice A ([] : List Int).length c] 45))
    go_wp2_with (fail)
    refine (sane_calls _).mono ?_
    rintro e w3 ⟨rfl, hB⟩
    have HB4 := Aside0.mk (below_then HB3.out HB3.out.size hB)
    clear hB
    go_wp2_with (fail)
    go_ret
    exact ⟨rfl, HB4.out⟩
end Go.Proofs.Ytlnhahnnjbfjdaa.Ngw
