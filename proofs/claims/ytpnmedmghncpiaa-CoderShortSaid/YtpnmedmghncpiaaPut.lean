import Derived.Test.YtpnmedmghncpiaaAid
import Derived.Test.YtpnmedmghncpiaaHandAid
import Derived.Test.YtpnmedmghncpiaaCod1
import Derived.Test.YtpnmedmghncpiaaCod2
import Derived.Test.YtpnmedmghncpiaaCod3
import Derived.Test.YtpnmedmghncpiaaMod
import Derived.Test.YtpnmedmghncpiaaEnc
import Derived.Test.YtpnmedmghncpiaaMods
import Derived.Test.YtpnmedmghncpiaaEncAt
-- needs: Aid HandAid Cod1 Cod2 Cod3 Mod Enc Mods EncAt
namespace Go.Proofs.Ytpnmedmghncpiaa.Put
open Go Go.RowKit Go.Proofs.YtpnmedmghncpiaaW.PrintWords Go.Proofs.YtpnmedmghncpiaaW.PrintLast Go.Proofs.YtpnmedmghncpiaaW.PrintMore Go.Proofs.Ytpnmedmghncpiaa.Aid Go.Proofs.Ytpnmedmghncpiaa.HandAid Go.Proofs.Ytpnmedmghncpiaa.Cod1 Go.Proofs.Ytpnmedmghncpiaa.Cod2 Go.Proofs.Ytpnmedmghncpiaa.Cod3 Go.Proofs.Ytpnmedmghncpiaa.Mod Go.Proofs.Ytpnmedmghncpiaa.Enc Go.Proofs.Ytpnmedmghncpiaa.Mods Go.Proofs.Ytpnmedmghncpiaa.EncAt
set_option linter.unusedVariables false
set_option linter.unusedSimpArgs false
theorem cutW_size (W : World) (g : Nat) (bit mid : Int) : (cutW W g bit mid).heap.size = W.heap.size := by
  unfold cutW
  split <;> simp [World.setCell]
/-- What stands when d bytes at the most are still to be lost. -/
structure PutInv (out : List Int) (l1 h1 : Int) (d : Nat) (l h : Int) (out1 : List Int) : Prop where
  l0 : 0 ≤ l
  lh : l ≤ h
  h0 : h ≤ 4294967295
  w : (h - l + 1) * 256 ^ d ≥ 4294967296
  o : out1 ++ (normE d l h).1 = out ++ (normE 4 l1 h1).1
  n : (normE d l h).2 = (normE 4 l1 h1).2
  len : out1.length + d ≤ out.length + 4
theorem PutInv.step {out : List Int} {l1 h1 : Int} {d : Nat} {l h : Int} {out1 : List Int} (H : PutInv out l1 h1 d l h out1) (c : l / 16777216 = h / 16777216) : ∃ d', d = d' + 1 ∧ PutInv out l1 h1 d' (l % 16777216 * 256) (h % 16777216 * 256 + 255) (out1 ++ [l / 16777216]) := by
  have hl0 := H.l0
  have hlh := H.lh
  have hh0 := H.h0
  cases d with
  | zero =>
    have := H.w
    simp only [Int.pow_zero, Int.mul_one] at this
    omega
  | succ d =>
    refine ⟨d, rfl, by omega, by omega, by omega, ?_, ?_, ?_, ?_⟩
    · have hw := H.w
      rw [Int.pow_succ, Int.mul_comm (256 ^ d) 256, ← Int.mul_assoc, show (h - l + 1) * 256 = h % 16777216 * 256 + 255 - l % 16777216 * 256 + 1 by omega] at hw
      exact hw
    · have ho := H.o
      unfold normE at ho
      rw [if_pos c] at ho
      rw [List.append_assoc]
      exact ho
    · have hn := H.n
      conv at hn => lhs; unfold normE
      rw [if_pos c] at hn
      exact hn
    · have := H.len
      simp only [List.length_append, List.length_cons, List.length_nil]
      omega
theorem PutInv.done {out : List Int} {l1 h1 : Int} {d : Nat} {l h : Int} {out1 : List Int} (H : PutInv out l1 h1 d l h out1) (c : ¬ l / 16777216 = h / 16777216) : out1 = out ++ (normE 4 l1 h1).1 ∧ (normE 4 l1 h1).2 = (l, h) := by
  have hn : normE d l h = ([], l, h) := by
    cases d with
    | zero => rfl
    | succ d =>
      unfold normE
      rw [if_neg c]
  have ho := H.o
  have hn2 := H.n
  rw [hn] at ho hn2
  simp only [List.append_nil] at ho
  exact ⟨ho, hn2.symm⟩
/-- What a good Put leaves. -/
def PutPost (w : World) (S : Nat → Prop) (g : Nat) (kind : Int) (st : List Int) (low high mid : Int) (out : List Int) (i : Nat) (bit : Int) (e : Ending) (w' : World) : Prop :=
  e = .returned (.int .i64 0) ∧ (∃ l h out1, (∃ A c vo, EncRow w' (fun k => S k ∨ w.heap.size ≤ k) g kind A c (st.set i (after kind (rd st i) bit)) l h vo out1) ∧ out1 = out ++ (normE 4 (cutL low mid bit) (cutH high mid bit)).1 ∧ (normE 4 (cutL low mid bit) (cutH high mid bit)).2 = (l, h)) ∧ Mods w w' S
set_option maxHeartbeats 4000000 in
set_option maxRecDepth 100000 in
theorem put_row0 (w : World) (S : Nat → Prop) (g : Nat) (kind : Int) (b c : Nat) (st : List Int) (low high mid : Int) (vo : Value) (out : List Int) (i : Nat) (hE : EncRow w S g kind (some ⟨b, 0, none⟩) c st low high vo out) (hi : i < st.length) (hn : st.length ≤ 8192) (hs : okState kind (rd st i)) (hl0 : 0 ≤ low) (hlh : low ≤ high) (hh : high ≤ 4294967295) (hmid : midOf low high (likely kind (rd st i)) = mid) (hm0 : 0 ≤ mid) (hm1 : mid ≤ 4294967295) (hI0 : PutInv out (cutL low mid 0) (cutH high mid 0) 4 (cutL low mid 0) (cutH high mid 0) out) (hlen : out.length ≤ 1099511627776) :
    Calls Try.prog 24 #[.pointer (some ⟨g, 0, none⟩), .int .i64 i, .int .i64 0] w (PutPost w S g kind st low high mid out i 0) := by
  have HE := Aside0.mk hE
  have hSg : S g := hE.g
  have h2 := hE.real
  have k1 := hE.iv.s
  have HMID := Aside0.mk (hmid ▸ mid_calls w.drew g kind (some ⟨b, 0, none⟩) st.length c low high i (rd st i) hE.drew.iv ⟨_, rfl, by obtain ⟨b', hA, hc, _⟩ := hE.drew.cell hi; cases hA; rw [add_plain]; exact hc⟩ hi hn hs hl0 hlh hh)
  have HI := Aside0.mk hI0
  clear hE hmid hI0
  have hi1 : (0 : Int) ≤ (i : Int) := by omega
  have hi2 : (i : Int) < (st.length : Int) := by omega
  go_enter Try.func24, Try.ntmps24
  go_wp2_with (go_at_call 49; refine (enc_none _ _ _ h2).mono ?_; rintro e w' ⟨rfl, rfl⟩)
  refine start_ (n := 11) (S := fun w' => True) (ds := []) #[false, false, false, false, false, false, false, false, false, false, false] (by kernel_rfl) rfl rfl trivial (fun hHeld => ?_)
  refine pure_ (i := 0) (N := some 32) (v := ?_) (a' := ?_) #[true, false, false, false, false, false, false, false, false, false, false] rfl rfl (by kernel_rfl) (fun _ _ _ h => h) (Or.inl ⟨by rfl, ?_⟩) ?_ ?_
  rotate_left
  · intro w'
    go_simp
    with_reducible rfl
  rotate_left
  · simp only [Act.put, List.setIfInBounds_toArray, List.set_cons_zero, List.set_cons_succ, i64_w, i32_w]
    rfl
  refine pure_ (i := 1) (N := some 33) (v := ?_) (a' := ?_) #[true, true, false, false, false, false, false, false, false, false, false] rfl rfl (by kernel_rfl) (fun _ _ _ h => h) (Or.inl ⟨by rfl, ?_⟩) ?_ ?_
  rotate_left
  · intro w'
    go_simp
    with_reducible rfl
  rotate_left
  · simp only [Act.put, List.setIfInBounds_toArray, List.set_cons_zero, List.set_cons_succ, i64_w, i32_w]
    rfl
  refine pure_ (i := 2) (N := some 34) (v := ?_) (a' := ?_) #[true, true, true, false, false, false, false, false, false, false, false] rfl rfl (by kernel_rfl) (fun _ _ _ h => h) (Or.inl ⟨by rfl, ?_⟩) ?_ ?_
  rotate_left
  · intro w'
    go_simp
    with_reducible rfl
  rotate_left
  · simp only [Act.put, List.setIfInBounds_toArray, List.set_cons_zero, List.set_cons_succ, i64_w, i32_w]
    rfl
  refine pure_ (i := 3) (N := some 35) (v := ?_) (a' := ?_) #[true, true, true, true, false, false, false, false, false, false, false] rfl rfl (by kernel_rfl) (fun _ _ _ h => h) (Or.inl ⟨by rfl, ?_⟩) ?_ ?_
  rotate_left
  · intro w'
    go_simp
    with_reducible rfl
  rotate_left
  · simp only [Act.put, List.setIfInBounds_toArray, List.set_cons_zero, List.set_cons_succ, i64_w, i32_w]
    rfl
  refine pure_ (i := 4) (N := some 36) (v := ?_) (a' := ?_) #[true, true, true, true, true, false, false, false, false, false, false] rfl rfl (by kernel_rfl) (fun _ _ _ h => h) (Or.inl ⟨by rfl, ?_⟩) ?_ ?_
  rotate_left
  · intro w'
    go_simp
    with_reducible rfl
  rotate_left
  · simp only [Act.put, List.setIfInBounds_toArray, List.set_cons_zero, List.set_cons_succ, i64_w, i32_w]
    rfl
  refine pure_ (i := 5) (N := some 37) (v := ?_) (a' := ?_) #[true, true, true, true, true, true, false, false, false, false, false] rfl rfl (by kernel_rfl) (fun _ _ _ h => h) (Or.inl ⟨by rfl, ?_⟩) ?_ ?_
  rotate_left
  · intro w'
    go_simp
    with_reducible rfl
  rotate_left
  · simp only [Act.put, List.setIfInBounds_toArray, List.set_cons_zero, List.set_cons_succ, i64_w, i32_w]
    rfl
  refine pure_ (i := 6) (N := some 38) (v := ?_) (a' := ?_) #[true, true, true, true, true, true, true, false, false, false, false] rfl rfl (by kernel_rfl) (fun _ _ _ h => h) (Or.inl ⟨by rfl, ?_⟩) ?_ ?_
  rotate_left
  · intro w'
    go_simp
    with_reducible rfl
  rotate_left
  · simp only [Act.put, List.setIfInBounds_toArray, List.set_cons_zero, List.set_cons_succ, i64_w, i32_w]
    rfl
  refine pure_ (i := 7) (N := some 39) (v := ?_) (a' := ?_) #[true, true, true, true, true, true, true, true, false, false, false] rfl rfl (by kernel_rfl) (fun _ _ _ h => h) (Or.inl ⟨by rfl, ?_⟩) ?_ ?_
  rotate_left
  · intro w'
    go_simp
    with_reducible rfl
  rotate_left
  · simp only [Act.put, List.setIfInBounds_toArray, List.set_cons_zero, List.set_cons_succ, i64_w, i32_w]
    rfl
  refine pure_ (i := 8) (N := some 40) (v := ?_) (a' := ?_) #[true, true, true, true, true, true, true, true, true, false, false] rfl rfl (by kernel_rfl) (fun _ _ _ h => h) (Or.inl ⟨by rfl, ?_⟩) ?_ ?_
  rotate_left
  · intro w'
    go_simp
    with_reducible rfl
  rotate_left
  · simp only [Act.put, List.setIfInBounds_toArray, List.set_cons_zero, List.set_cons_succ, i64_w, i32_w]
    rfl
  refine one_ (i := 9) (N := some 41) #[true, true, true, true, true, true, true, true, true, true, false] rfl rfl (by kernel_rfl) (by decide) (fun K hK => ?_)
  refine goes_ Try.func51 (by kernel_rfl) rfl #[.pointer (some ⟨g, 0, none⟩), .int .i64 i] (by rfl) rfl rfl (by simp only [List.map_toArray, List.map_cons, List.map_nil]; rfl) ?_
  with_reducible refine (HMID.out).mono ?_
  rintro e w3 ⟨rfl, hb3⟩
  refine ⟨_, rfl, ?_⟩
  have HE3 := Aside0.mk (HE.out.drew.below hb3)
  have HK3 := Aside0.mk ((Mods.refl w S).below (below_undrew1 hb3))
  clear hb3
  have hT := take_calls w3 g kind st.length c low high i (rd st i) mid 0 ⟨b, 0, none⟩ HE3.out.iv
  have HT := Aside0.mk hT
  clear hT
  refine hK.out _ _ trivial (fun hHeld => ?_)
  clear hK K
  refine norm_ (a' := ?_) ?_ ?_
  rotate_left
  · show Act.put _ (some 41) _ = _
    simp only [Act.put, List.setIfInBounds_toArray, List.set_cons_zero, List.set_cons_succ, i64_w, i32_w]
    rfl
  refine one_ (i := 10) (N := some 42) #[true, true, true, true, true, true, true, true, true, true, true] rfl rfl (by kernel_rfl) (by decide) (fun K hK => ?_)
  obtain ⟨b3, hA3, hc3, hf3, hne3⟩ := HE3.out.cell hi
  cases hA3
  refine goes_ Try.func50 (by kernel_rfl) rfl #[.pointer (some ⟨g, 0, none⟩), .int .i64 i, .int .i64 0, .int .u64 mid] (by rfl) rfl rfl (by simp only [List.map_toArray, List.map_cons, List.map_nil]; rfl) ?_
  with_reducible refine (HT.out (by rw [add_plain]; exact hc3) (by rw [add_plain]; exact hf3) hne3 hi hn hs (by decide) hm0 hm1).mono ?_
  rintro e w4 ⟨rfl, w4', hb4, hw4⟩
  refine ⟨_, rfl, ?_⟩
  rw [add_plain] at hw4
  have HE4 := Aside0.mk (show EncRow w4 S g kind (some ⟨b, 0, none⟩) c (st.set i (after kind (rd st i) 0)) (cutL low mid 0) (cutH high mid 0) vo out from hw4 ▸ (((HE3.out.cut 0 mid).below (by rw [cutW_size]; exact hb4)).setst hi _))
  have hsb : S b := HE3.out.s.1 b (by simp [Value.ownBlock])
  have HK4 := Aside0.mk (show Mods w w4 S from hw4 ▸ (((HK3.out.then_ (cut_kept 0 mid HE3.out.g) (fun _ h => .inl h)).below (by rw [cutW_size]; exact hb4)).setCell (.inl hsb) _))
  clear hb4 hw4 hc3 hf3 hne3
  refine hK.out _ _ trivial (fun hHeld => ?_)
  clear hK K
  refine norm_ (a' := ?_) ?_ ?_
  rotate_left
  · show Act.put _ (some 42) _ = _
    simp only [Act.put, List.setIfInBounds_toArray, List.set_cons_zero, List.set_cons_succ, i64_w, i32_w]
    rfl
  refine done_ (by kernel_rfl) ?_

  go_wp2
  obtain ⟨S', hS'⟩ : ∃ S' : Nat → Prop, S' = fun k => S k ∨ w.heap.size ≤ k := ⟨_, rfl⟩
  have HS' : ∀ k, S' k → S k ∨ w.heap.size ≤ k := fun k hk => by rw [hS'] at hk; exact hk
  have HSf : ∀ k, S k ∨ w.heap.size ≤ k → S' k := fun k hk => by rw [hS']; exact hk
  obtain ⟨st', hst'⟩ : ∃ st' : List Int, st' = st.set i (after kind (rd st i) 0) := ⟨_, rfl⟩
  have HST := Aside0.mk hst'
  have HSS := Aside0.mk hS'
  rw [← hst'] at HE4
  clear hst' hS'
  have HS2 := Aside0.mk HS'
  have HS3 := Aside0.mk HSf
  clear HS' HSf
  clear h2 k1
  go_loopg [] 4 (fun d wr => ∃ (l h : Int) (out1 : List Int), Aside0 (∃ A c vo, EncRow wr S' g kind A c st' l h vo out1) ∧ Aside0 (Mods w wr S) ∧ Aside0 (PutInv out (cutL low mid 0) (cutH high mid 0) d l h out1))
  case atStart => exact ⟨_, _, out, ⟨_, _, _, HE4.out.mono (fun k hk => HS3.out k (.inl hk))⟩, HK4, HI⟩
  clear HE4 HK4 HI
  case round =>
    obtain ⟨l, h, out1, ⟨A1, c1, vo1, hE5⟩, HK5, HP⟩ := hrel
    have HE5 := Aside0.mk hE5
    clear hE5
    have hp0 := HP.out.l0
    have hp1 := HP.out.lh
    have hp2 := HP.out.h0
    have hs := same_calls wr g l h HE5.out.iv.l HE5.out.iv.h hp0 (by omega)
    by_cases cc : l / 16777216 = h / 16777216
    · rw [decide_eq_true cc] at hs
      have HSA := Aside0.mk hs
      clear hs
      obtain ⟨d', hd', hP'⟩ := HP.out.step cc
      have HP' := Aside0.mk hP'
      have hlen1 : out1.length ≤ 1099511627780 := by have := HP.out.len; omega
      have HD := Aside0.mk hd'
      have HCC := Aside0.mk cc
      clear hd' hP' cc
      go_wp2_with (go_at_call 52; refine HSA.out.mono ?_; rintro e w6 ⟨rfl, m6, hw6⟩; have HE6 := Aside0.mk (show EncRow w6 S' g kind A1 c1 st' l h vo1 out1 from hw6 ▸ HE5.out.drewN m6); have HK6 := Aside0.mk (show Mods w w6 S from hw6 ▸ HK5.out.drewN m6); clear hw6)
      have HLO := Aside0.mk (lose_calls w6.drew g l h HE6.out.drew.iv.l HE6.out.drew.iv.h HE6.out.drew.iv.f hp0 (by omega) (by omega) hp2)
      have HS' := HS2.out
      have p0 := HE6.out.vo_
      clear HSA HE5 HK5
      refine start_ (n := 14) (S := fun w' => w'.cell? ⟨g, 36, none⟩ = some vo1) (ds := [13]) #[false, false, false, false, false, false, false, false, false, false, false, false, false, false] (by kernel_rfl) rfl rfl (p0) (fun hHeld => ?_)
      refine pure_ (i := 0) (N := some 47) (v := ?_) (a' := ?_) #[true, false, false, false, false, false, false, false, false, false, false, false, false, false] rfl rfl (by kernel_rfl) (fun _ _ _ h => h) (Or.inl ⟨by rfl, ?_⟩) ?_ ?_
      rotate_left
      · intro w'
        go_simp
        with_reducible rfl
      rotate_left
      · simp only [Act.put, List.setIfInBounds_toArray, List.set_cons_zero, List.set_cons_succ, i64_w, i32_w]
        rfl
      refine pure_ (i := 1) (N := some 48) (v := ?_) (a' := ?_) #[true, true, false, false, false, false, false, false, false, false, false, false, false, false] rfl rfl (by kernel_rfl) (fun _ _ _ h => h) (Or.inl ⟨by rfl, ?_⟩) ?_ ?_
      rotate_left
      · intro w'
        go_simp
        with_reducible rfl
      rotate_left
      · simp only [Act.put, List.setIfInBounds_toArray, List.set_cons_zero, List.set_cons_succ, i64_w, i32_w]
        rfl
      refine pure_ (i := 2) (N := some 49) (v := ?_) (a' := ?_) #[true, true, true, false, false, false, false, false, false, false, false, false, false, false] rfl rfl (by kernel_rfl) (fun _ _ _ h => h) (Or.inl ⟨by rfl, ?_⟩) ?_ ?_
      rotate_left
      · intro w'
        go_simp
        with_reducible rfl
      rotate_left
      · simp only [Act.put, List.setIfInBounds_toArray, List.set_cons_zero, List.set_cons_succ, i64_w, i32_w]
        rfl
      refine pure_ (i := 3) (N := some 50) (v := ?_) (a' := ?_) #[true, true, true, true, false, false, false, false, false, false, false, false, false, false] rfl rfl (by kernel_rfl) (fun _ _ _ h => h) (Or.inl ⟨by rfl, ?_⟩) ?_ ?_
      rotate_left
      · intro w'
        go_simp
        with_reducible rfl
      rotate_left
      · simp only [Act.put, List.setIfInBounds_toArray, List.set_cons_zero, List.set_cons_succ, i64_w, i32_w]
        rfl
      refine pure_ (i := 5) (N := some 52) (v := ?_) (a' := ?_) #[true, true, true, true, false, true, false, false, false, false, false, false, false, false] rfl rfl (by kernel_rfl) (fun _ _ _ h => h) (Or.inl ⟨by rfl, ?_⟩) ?_ ?_
      rotate_left
      · intro w'
        go_simp
        with_reducible rfl
      rotate_left
      · simp only [Act.put, List.setIfInBounds_toArray, List.set_cons_zero, List.set_cons_succ, i64_w, i32_w]
        rfl
      refine pure_ (i := 6) (N := some 53) (v := ?_) (a' := ?_) #[true, true, true, true, false, true, true, false, false, false, false, false, false, false] rfl rfl (by kernel_rfl) (fun _ _ _ h => h) (Or.inl ⟨by rfl, ?_⟩) ?_ ?_
      rotate_left
      · intro w'
        go_simp
        with_reducible rfl
      rotate_left
      · simp only [Act.put, List.setIfInBounds_toArray, List.set_cons_zero, List.set_cons_succ, i64_w, i32_w]
        rfl
      refine pure_ (i := 7) (N := some 54) (v := ?_) (a' := ?_) #[true, true, true, true, false, true, true, true, false, false, false, false, false, false] rfl rfl (by kernel_rfl) (fun _ _ _ h => h) (Or.inl ⟨by rfl, ?_⟩) ?_ ?_
      rotate_left
      · intro w'
        go_simp
        with_reducible rfl
      rotate_left
      · simp only [Act.put, List.setIfInBounds_toArray, List.set_cons_zero, List.set_cons_succ, i64_w, i32_w]
        rfl
      refine take_ (i := 4) (N := some 51) (v := ?_) (a' := ?_) #[true, true, true, true, true, true, true, true, false, false, false, false, false, false] rfl rfl (by kernel_rfl) (fun _ _ _ h => h) (Or.inl ⟨by rfl, ?_⟩) hHeld ?_ ?_
      rotate_left
      · intro w' s0
        go_simp
        with_reducible rfl
      rotate_left
      · simp only [Act.put, List.setIfInBounds_toArray, List.set_cons_zero, List.set_cons_succ, i64_w, i32_w]
        rfl
      refine one_ (i := 8) (N := some 55) #[true, true, true, true, true, true, true, true, true, false, false, false, false, false] rfl rfl (by kernel_rfl) (by decide) (fun K hK => ?_)
      refine goes_ Try.func53 (by kernel_rfl) rfl #[.pointer (some ⟨g, 0, none⟩)] (by rfl) rfl rfl (by simp only [List.map_toArray, List.map_cons, List.map_nil]; rfl) ?_
      with_reducible refine (HLO.out).mono ?_
      rintro e w7 ⟨rfl, hw7⟩
      refine ⟨_, rfl, ?_⟩
      have HE7 := Aside0.mk (show EncRow w7 S' g kind A1 c1 st' (l % 16777216 * 256) (h % 16777216 * 256 + 255) vo1 out1 from hw7 ▸ (HE6.out.drew.lost _ _))
      have HK7 := Aside0.mk (show Mods w w7 S from hw7 ▸ ((HK6.out.drew.setCell (.inl hSg) _).setCell (.inl hSg) _))
      clear hw7
      have t0 := HE7.out.vo_
      refine hK.out _ _ (t0) (fun hHeld => ?_)
      clear hK K
      refine norm_ (a' := ?_) ?_ ?_
      rotate_left
      · show Act.put _ (some 55) _ = _
        simp only [Act.put, List.setIfInBounds_toArray, List.set_cons_zero, List.set_cons_succ, i64_w, i32_w]
        rfl
      refine one_ (i := 9) (N := some 56) #[true, true, true, true, true, true, true, true, true, true, false, false, false, false] rfl rfl (by kernel_rfl) (by decide) (fun K hK => ?_)
      refine value_ (w1 := ?_) (v := ?_) (by rfl) rfl ?_ ?_
      rotate_left 2
      · go_simp
        constructor
        · rfl
        · rfl
      refine hK.out _ _ (pw_cell_below (below_alloc (Below.refl _ _) _) t0) (fun hHeld => ?_)
      clear hK K
      refine norm_ (a' := ?_) ?_ ?_
      rotate_left
      · show Act.put _ (some 56) _ = _
        simp only [Act.put, List.setIfInBounds_toArray, List.set_cons_zero, List.set_cons_succ, i64_w, i32_w]
        rfl
      refine one_ (i := 10) (N := some 57) #[true, true, true, true, true, true, true, true, true, true, true, false, false, false] rfl rfl (by kernel_rfl) (by decide) (fun K hK => ?_)
      refine Kd.R_append_step (Kd.int .u8) 0 (by rfl) (.tmp 51) (.tmp 56) 34 5 (.int .u8 0) 1 rfl Try.underlying34 infoU8 rfl (by decide) (by decide) vo1 out1 (l / 16777216) [.int .u8 (l / 16777216)] S' (fun _ => False) rfl rfl rfl (fun _ h => h.elim) (fun k hk => HS3.out k (.inr (Nat.le_trans HK7.out.size hk))) HE7.out.o (Below.refl 0 _) (Nat.zero_le _) (by omega) ?_
      intro v8 w8 hR8 _ hg8 hat8
      obtain ⟨A8, c8, rfl⟩ := Kd.R_slice hR8
      rw [List.length_append, List.length_cons, List.length_nil, Nat.zero_add] at hR8
      have hne8 := Kd.R_ne HE7.out.o HE7.out.b (by decide)
      have t1 : w8.cell? ⟨g, 36, none⟩ = some vo1 := hg8.cell t0 hne8
      have z8 : w8.frozen? ⟨g, 36, none⟩ = false := blk_frozen (blk_grown HE7.out.b hg8 hne8) 36
      have HE8 := Aside0.mk (HE7.out.grew hg8 hR8)
      have HK8 := Aside0.mk ((HK7.out.of_grown hg8 (fun k hk => HS' k (HE7.out.o.1 k hk))).setCell (p := ⟨g, 36, none⟩) (.inl hSg) (.slice A8 (out1.length + 1) c8))
      clear hR8 hg8 hat8 hne8 HK7
      refine hK.out _ _ (t1) (fun hHeld => ?_)
      clear hK K
      refine norm_ (a' := ?_) ?_ ?_
      rotate_left
      · show Act.put _ (some 57) _ = _
        simp only [Act.put, List.setIfInBounds_toArray, List.set_cons_zero, List.set_cons_succ, i64_w, i32_w]
        rfl
      refine pure_ (i := 11) (N := some 58) (v := ?_) (a' := ?_) #[true, true, true, true, true, true, true, true, true, true, true, true, false, false] rfl rfl (by kernel_rfl) (fun _ _ _ h => h) (Or.inl ⟨by rfl, ?_⟩) ?_ ?_
      rotate_left
      · intro w'
        go_simp
        with_reducible rfl
      rotate_left
      · simp only [Act.put, List.setIfInBounds_toArray, List.set_cons_zero, List.set_cons_succ, i64_w, i32_w]
        rfl
      refine pure_ (i := 12) (N := some 59) (v := ?_) (a' := ?_) #[true, true, true, true, true, true, true, true, true, true, true, true, true, false] rfl rfl (by kernel_rfl) (fun _ _ _ h => h) (Or.inl ⟨by rfl, ?_⟩) ?_ ?_
      rotate_left
      · intro w'
        go_simp
        with_reducible rfl
      rotate_left
      · simp only [Act.put, List.setIfInBounds_toArray, List.set_cons_zero, List.set_cons_succ, i64_w, i32_w]
        rfl
      refine last_ (i := 13) (N := none) #[true, true, true, true, true, true, true, true, true, true, true, true, true, true] rfl rfl (by kernel_rfl) (by decide) (fun K hK => ?_)
      refine skip_ (w1 := ?_) (by rfl) rfl ?_ ?_
      rotate_left
      · go_simp
        rfl
      refine hK.out _ _ ?_
      clear hK K
      refine done_ (by kernel_rfl) ?_

      go_wp2
      go_roundg d'
      case measure => have := HD.out; omega
      case rel => exact ⟨_, _, _, ⟨_, _, _, HE8.out⟩, HK8, HP'⟩
    · rw [decide_eq_false cc] at hs
      have HSA := Aside0.mk hs
      clear hs
      have HCC := Aside0.mk cc
      clear cc
      go_wp2_with (go_at_call 52; refine HSA.out.mono ?_; rintro e w6 ⟨rfl, m6, hw6⟩; have HE6 := Aside0.mk (show EncRow w6 S' g kind A1 c1 st' l h vo1 out1 from hw6 ▸ HE5.out.drewN m6); have HK6 := Aside0.mk (show Mods w w6 S from hw6 ▸ HK5.out.drewN m6); clear hw6)
      go_ret
      have hd := HP.out.done HCC.out
      have hE6 := HE6.out
      rw [HSS.out, HST.out] at hE6
      exact ⟨rfl, ⟨l, h, out1, ⟨_, _, _, hE6⟩, hd.1, hd.2⟩, HK6.out⟩
set_option maxHeartbeats 4000000 in
set_option maxRecDepth 100000 in
theorem put_row1 (w : World) (S : Nat → Prop) (g : Nat) (kind : Int) (b c : Nat) (st : List Int) (low high mid : Int) (vo : Value) (out : List Int) (i : Nat) (hE : EncRow w S g kind (some ⟨b, 0, none⟩) c st low high vo out) (hi : i < st.length) (hn : st.length ≤ 8192) (hs : okState kind (rd st i)) (hl0 : 0 ≤ low) (hlh : low ≤ high) (hh : high ≤ 4294967295) (hmid : midOf low high (likely kind (rd st i)) = mid) (hm0 : 0 ≤ mid) (hm1 : mid ≤ 4294967295) (hI0 : PutInv out (cutL low mid 1) (cutH high mid 1) 4 (cutL low mid 1) (cutH high mid 1) out) (hlen : out.length ≤ 1099511627776) :
    Calls Try.prog 24 #[.pointer (some ⟨g, 0, none⟩), .int .i64 i, .int .i64 1] w (PutPost w S g kind st low high mid out i 1) := by
  have HE := Aside0.mk hE
  have hSg : S g := hE.g
  have h2 := hE.real
  have k1 := hE.iv.s
  have HMID := Aside0.mk (hmid ▸ mid_calls w.drew g kind (some ⟨b, 0, none⟩) st.length c low high i (rd st i) hE.drew.iv ⟨_, rfl, by obtain ⟨b', hA, hc, _⟩ := hE.drew.cell hi; cases hA; rw [add_plain]; exact hc⟩ hi hn hs hl0 hlh hh)
  have HI := Aside0.mk hI0
  clear hE hmid hI0
  have hi1 : (0 : Int) ≤ (i : Int) := by omega
  have hi2 : (i : Int) < (st.length : Int) := by omega
  go_enter Try.func24, Try.ntmps24
  go_wp2_with (go_at_call 49; refine (enc_none _ _ _ h2).mono ?_; rintro e w' ⟨rfl, rfl⟩)
  refine start_ (n := 11) (S := fun w' => True) (ds := []) #[false, false, false, false, false, false, false, false, false, false, false] (by kernel_rfl) rfl rfl trivial (fun hHeld => ?_)
  refine pure_ (i := 0) (N := some 32) (v := ?_) (a' := ?_) #[true, false, false, false, false, false, false, false, false, false, false] rfl rfl (by kernel_rfl) (fun _ _ _ h => h) (Or.inl ⟨by rfl, ?_⟩) ?_ ?_
  rotate_left
  · intro w'
    go_simp
    with_reducible rfl
  rotate_left
  · simp only [Act.put, List.setIfInBounds_toArray, List.set_cons_zero, List.set_cons_succ, i64_w, i32_w]
    rfl
  refine pure_ (i := 1) (N := some 33) (v := ?_) (a' := ?_) #[true, true, false, false, false, false, false, false, false, false, false] rfl rfl (by kernel_rfl) (fun _ _ _ h => h) (Or.inl ⟨by rfl, ?_⟩) ?_ ?_
  rotate_left
  · intro w'
    go_simp
    with_reducible rfl
  rotate_left
  · simp only [Act.put, List.setIfInBounds_toArray, List.set_cons_zero, List.set_cons_succ, i64_w, i32_w]
    rfl
  refine pure_ (i := 2) (N := some 34) (v := ?_) (a' := ?_) #[true, true, true, false, false, false, false, false, false, false, false] rfl rfl (by kernel_rfl) (fun _ _ _ h => h) (Or.inl ⟨by rfl, ?_⟩) ?_ ?_
  rotate_left
  · intro w'
    go_simp
    with_reducible rfl
  rotate_left
  · simp only [Act.put, List.setIfInBounds_toArray, List.set_cons_zero, List.set_cons_succ, i64_w, i32_w]
    rfl
  refine pure_ (i := 3) (N := some 35) (v := ?_) (a' := ?_) #[true, true, true, true, false, false, false, false, false, false, false] rfl rfl (by kernel_rfl) (fun _ _ _ h => h) (Or.inl ⟨by rfl, ?_⟩) ?_ ?_
  rotate_left
  · intro w'
    go_simp
    with_reducible rfl
  rotate_left
  · simp only [Act.put, List.setIfInBounds_toArray, List.set_cons_zero, List.set_cons_succ, i64_w, i32_w]
    rfl
  refine pure_ (i := 4) (N := some 36) (v := ?_) (a' := ?_) #[true, true, true, true, true, false, false, false, false, false, false] rfl rfl (by kernel_rfl) (fun _ _ _ h => h) (Or.inl ⟨by rfl, ?_⟩) ?_ ?_
  rotate_left
  · intro w'
    go_simp
    with_reducible rfl
  rotate_left
  · simp only [Act.put, List.setIfInBounds_toArray, List.set_cons_zero, List.set_cons_succ, i64_w, i32_w]
    rfl
  refine pure_ (i := 5) (N := some 37) (v := ?_) (a' := ?_) #[true, true, true, true, true, true, false, false, false, false, false] rfl rfl (by kernel_rfl) (fun _ _ _ h => h) (Or.inl ⟨by rfl, ?_⟩) ?_ ?_
  rotate_left
  · intro w'
    go_simp
    with_reducible rfl
  rotate_left
  · simp only [Act.put, List.setIfInBounds_toArray, List.set_cons_zero, List.set_cons_succ, i64_w, i32_w]
    rfl
  refine pure_ (i := 6) (N := some 38) (v := ?_) (a' := ?_) #[true, true, true, true, true, true, true, false, false, false, false] rfl rfl (by kernel_rfl) (fun _ _ _ h => h) (Or.inl ⟨by rfl, ?_⟩) ?_ ?_
  rotate_left
  · intro w'
    go_simp
    with_reducible rfl
  rotate_left
  · simp only [Act.put, List.setIfInBounds_toArray, List.set_cons_zero, List.set_cons_succ, i64_w, i32_w]
    rfl
  refine pure_ (i := 7) (N := some 39) (v := ?_) (a' := ?_) #[true, true, true, true, true, true, true, true, false, false, false] rfl rfl (by kernel_rfl) (fun _ _ _ h => h) (Or.inl ⟨by rfl, ?_⟩) ?_ ?_
  rotate_left
  · intro w'
    go_simp
    with_reducible rfl
  rotate_left
  · simp only [Act.put, List.setIfInBounds_toArray, List.set_cons_zero, List.set_cons_succ, i64_w, i32_w]
    rfl
  refine pure_ (i := 8) (N := some 40) (v := ?_) (a' := ?_) #[true, true, true, true, true, true, true, true, true, false, false] rfl rfl (by kernel_rfl) (fun _ _ _ h => h) (Or.inl ⟨by rfl, ?_⟩) ?_ ?_
  rotate_left
  · intro w'
    go_simp
    with_reducible rfl
  rotate_left
  · simp only [Act.put, List.setIfInBounds_toArray, List.set_cons_zero, List.set_cons_succ, i64_w, i32_w]
    rfl
  refine one_ (i := 9) (N := some 41) #[true, true, true, true, true, true, true, true, true, true, false] rfl rfl (by kernel_rfl) (by decide) (fun K hK => ?_)
  refine goes_ Try.func51 (by kernel_rfl) rfl #[.pointer (some ⟨g, 0, none⟩), .int .i64 i] (by rfl) rfl rfl (by simp only [List.map_toArray, List.map_cons, List.map_nil]; rfl) ?_
  with_reducible refine (HMID.out).mono ?_
  rintro e w3 ⟨rfl, hb3⟩
  refine ⟨_, rfl, ?_⟩
  have HE3 := Aside0.mk (HE.out.drew.below hb3)
  have HK3 := Aside0.mk ((Mods.refl w S).below (below_undrew1 hb3))
  clear hb3
  have hT := take_calls w3 g kind st.length c low high i (rd st i) mid 1 ⟨b, 0, none⟩ HE3.out.iv
  have HT := Aside0.mk hT
  clear hT
  refine hK.out _ _ trivial (fun hHeld => ?_)
  clear hK K
  refine norm_ (a' := ?_) ?_ ?_
  rotate_left
  · show Act.put _ (some 41) _ = _
    simp only [Act.put, List.setIfInBounds_toArray, List.set_cons_zero, List.set_cons_succ, i64_w, i32_w]
    rfl
  refine one_ (i := 10) (N := some 42) #[true, true, true, true, true, true, true, true, true, true, true] rfl rfl (by kernel_rfl) (by decide) (fun K hK => ?_)
  obtain ⟨b3, hA3, hc3, hf3, hne3⟩ := HE3.out.cell hi
  cases hA3
  refine goes_ Try.func50 (by kernel_rfl) rfl #[.pointer (some ⟨g, 0, none⟩), .int .i64 i, .int .i64 1, .int .u64 mid] (by rfl) rfl rfl (by simp only [List.map_toArray, List.map_cons, List.map_nil]; rfl) ?_
  with_reducible refine (HT.out (by rw [add_plain]; exact hc3) (by rw [add_plain]; exact hf3) hne3 hi hn hs (by decide) hm0 hm1).mono ?_
  rintro e w4 ⟨rfl, w4', hb4, hw4⟩
  refine ⟨_, rfl, ?_⟩
  rw [add_plain] at hw4
  have HE4 := Aside0.mk (show EncRow w4 S g kind (some ⟨b, 0, none⟩) c (st.set i (after kind (rd st i) 1)) (cutL low mid 1) (cutH high mid 1) vo out from hw4 ▸ (((HE3.out.cut 1 mid).below (by rw [cutW_size]; exact hb4)).setst hi _))
  have hsb : S b := HE3.out.s.1 b (by simp [Value.ownBlock])
  have HK4 := Aside0.mk (show Mods w w4 S from hw4 ▸ (((HK3.out.then_ (cut_kept 1 mid HE3.out.g) (fun _ h => .inl h)).below (by rw [cutW_size]; exact hb4)).setCell (.inl hsb) _))
  clear hb4 hw4 hc3 hf3 hne3
  refine hK.out _ _ trivial (fun hHeld => ?_)
  clear hK K
  refine norm_ (a' := ?_) ?_ ?_
  rotate_left
  · show Act.put _ (some 42) _ = _
    simp only [Act.put, List.setIfInBounds_toArray, List.set_cons_zero, List.set_cons_succ, i64_w, i32_w]
    rfl
  refine done_ (by kernel_rfl) ?_

  go_wp2
  obtain ⟨S', hS'⟩ : ∃ S' : Nat → Prop, S' = fun k => S k ∨ w.heap.size ≤ k := ⟨_, rfl⟩
  have HS' : ∀ k, S' k → S k ∨ w.heap.size ≤ k := fun k hk => by rw [hS'] at hk; exact hk
  have HSf : ∀ k, S k ∨ w.heap.size ≤ k → S' k := fun k hk => by rw [hS']; exact hk
  obtain ⟨st', hst'⟩ : ∃ st' : List Int, st' = st.set i (after kind (rd st i) 1) := ⟨_, rfl⟩
  have HST := Aside0.mk hst'
  have HSS := Aside0.mk hS'
  rw [← hst'] at HE4
  clear hst' hS'
  have HS2 := Aside0.mk HS'
  have HS3 := Aside0.mk HSf
  clear HS' HSf
  clear h2 k1
  go_loopg [] 4 (fun d wr => ∃ (l h : Int) (out1 : List Int), Aside0 (∃ A c vo, EncRow wr S' g kind A c st' l h vo out1) ∧ Aside0 (Mods w wr S) ∧ Aside0 (PutInv out (cutL low mid 1) (cutH high mid 1) d l h out1))
  case atStart => exact ⟨_, _, out, ⟨_, _, _, HE4.out.mono (fun k hk => HS3.out k (.inl hk))⟩, HK4, HI⟩
  clear HE4 HK4 HI
  case round =>
    obtain ⟨l, h, out1, ⟨A1, c1, vo1, hE5⟩, HK5, HP⟩ := hrel
    have HE5 := Aside0.mk hE5
    clear hE5
    have hp0 := HP.out.l0
    have hp1 := HP.out.lh
    have hp2 := HP.out.h0
    have hs := same_calls wr g l h HE5.out.iv.l HE5.out.iv.h hp0 (by omega)
    by_cases cc : l / 16777216 = h / 16777216
    · rw [decide_eq_true cc] at hs
      have HSA := Aside0.mk hs
      clear hs
      obtain ⟨d', hd', hP'⟩ := HP.out.step cc
      have HP' := Aside0.mk hP'
      have hlen1 : out1.length ≤ 1099511627780 := by have := HP.out.len; omega
      have HD := Aside0.mk hd'
      have HCC := Aside0.mk cc
      clear hd' hP' cc
      go_wp2_with (go_at_call 52; refine HSA.out.mono ?_; rintro e w6 ⟨rfl, m6, hw6⟩; have HE6 := Aside0.mk (show EncRow w6 S' g kind A1 c1 st' l h vo1 out1 from hw6 ▸ HE5.out.drewN m6); have HK6 := Aside0.mk (show Mods w w6 S from hw6 ▸ HK5.out.drewN m6); clear hw6)
      have HLO := Aside0.mk (lose_calls w6.drew g l h HE6.out.drew.iv.l HE6.out.drew.iv.h HE6.out.drew.iv.f hp0 (by omega) (by omega) hp2)
      have HS' := HS2.out
      have p0 := HE6.out.vo_
      clear HSA HE5 HK5
      refine start_ (n := 14) (S := fun w' => w'.cell? ⟨g, 36, none⟩ = some vo1) (ds := [13]) #[false, false, false, false, false, false, false, false, false, false, false, false, false, false] (by kernel_rfl) rfl rfl (p0) (fun hHeld => ?_)
      refine pure_ (i := 0) (N := some 47) (v := ?_) (a' := ?_) #[true, false, false, false, false, false, false, false, false, false, false, false, false, false] rfl rfl (by kernel_rfl) (fun _ _ _ h => h) (Or.inl ⟨by rfl, ?_⟩) ?_ ?_
      rotate_left
      · intro w'
        go_simp
        with_reducible rfl
      rotate_left
      · simp only [Act.put, List.setIfInBounds_toArray, List.set_cons_zero, List.set_cons_succ, i64_w, i32_w]
        rfl
      refine pure_ (i := 1) (N := some 48) (v := ?_) (a' := ?_) #[true, true, false, false, false, false, false, false, false, false, false, false, false, false] rfl rfl (by kernel_rfl) (fun _ _ _ h => h) (Or.inl ⟨by rfl, ?_⟩) ?_ ?_
      rotate_left
      · intro w'
        go_simp
        with_reducible rfl
      rotate_left
      · simp only [Act.put, List.setIfInBounds_toArray, List.set_cons_zero, List.set_cons_succ, i64_w, i32_w]
        rfl
      refine pure_ (i := 2) (N := some 49) (v := ?_) (a' := ?_) #[true, true, true, false, false, false, false, false, false, false, false, false, false, false] rfl rfl (by kernel_rfl) (fun _ _ _ h => h) (Or.inl ⟨by rfl, ?_⟩) ?_ ?_
      rotate_left
      · intro w'
        go_simp
        with_reducible rfl
      rotate_left
      · simp only [Act.put, List.setIfInBounds_toArray, List.set_cons_zero, List.set_cons_succ, i64_w, i32_w]
        rfl
      refine pure_ (i := 3) (N := some 50) (v := ?_) (a' := ?_) #[true, true, true, true, false, false, false, false, false, false, false, false, false, false] rfl rfl (by kernel_rfl) (fun _ _ _ h => h) (Or.inl ⟨by rfl, ?_⟩) ?_ ?_
      rotate_left
      · intro w'
        go_simp
        with_reducible rfl
      rotate_left
      · simp only [Act.put, List.setIfInBounds_toArray, List.set_cons_zero, List.set_cons_succ, i64_w, i32_w]
        rfl
      refine pure_ (i := 5) (N := some 52) (v := ?_) (a' := ?_) #[true, true, true, true, false, true, false, false, false, false, false, false, false, false] rfl rfl (by kernel_rfl) (fun _ _ _ h => h) (Or.inl ⟨by rfl, ?_⟩) ?_ ?_
      rotate_left
      · intro w'
        go_simp
        with_reducible rfl
      rotate_left
      · simp only [Act.put, List.setIfInBounds_toArray, List.set_cons_zero, List.set_cons_succ, i64_w, i32_w]
        rfl
      refine pure_ (i := 6) (N := some 53) (v := ?_) (a' := ?_) #[true, true, true, true, false, true, true, false, false, false, false, false, false, false] rfl rfl (by kernel_rfl) (fun _ _ _ h => h) (Or.inl ⟨by rfl, ?_⟩) ?_ ?_
      rotate_left
      · intro w'
        go_simp
        with_reducible rfl
      rotate_left
      · simp only [Act.put, List.setIfInBounds_toArray, List.set_cons_zero, List.set_cons_succ, i64_w, i32_w]
        rfl
      refine pure_ (i := 7) (N := some 54) (v := ?_) (a' := ?_) #[true, true, true, true, false, true, true, true, false, false, false, false, false, false] rfl rfl (by kernel_rfl) (fun _ _ _ h => h) (Or.inl ⟨by rfl, ?_⟩) ?_ ?_
      rotate_left
      · intro w'
        go_simp
        with_reducible rfl
      rotate_left
      · simp only [Act.put, List.setIfInBounds_toArray, List.set_cons_zero, List.set_cons_succ, i64_w, i32_w]
        rfl
      refine take_ (i := 4) (N := some 51) (v := ?_) (a' := ?_) #[true, true, true, true, true, true, true, true, false, false, false, false, false, false] rfl rfl (by kernel_rfl) (fun _ _ _ h => h) (Or.inl ⟨by rfl, ?_⟩) hHeld ?_ ?_
      rotate_left
      · intro w' s0
        go_simp
        with_reducible rfl
      rotate_left
      · simp only [Act.put, List.setIfInBounds_toArray, List.set_cons_zero, List.set_cons_succ, i64_w, i32_w]
        rfl
      refine one_ (i := 8) (N := some 55) #[true, true, true, true, true, true, true, true, true, false, false, false, false, false] rfl rfl (by kernel_rfl) (by decide) (fun K hK => ?_)
      refine goes_ Try.func53 (by kernel_rfl) rfl #[.pointer (some ⟨g, 0, none⟩)] (by rfl) rfl rfl (by simp only [List.map_toArray, List.map_cons, List.map_nil]; rfl) ?_
      with_reducible refine (HLO.out).mono ?_
      rintro e w7 ⟨rfl, hw7⟩
      refine ⟨_, rfl, ?_⟩
      have HE7 := Aside0.mk (show EncRow w7 S' g kind A1 c1 st' (l % 16777216 * 256) (h % 16777216 * 256 + 255) vo1 out1 from hw7 ▸ (HE6.out.drew.lost _ _))
      have HK7 := Aside0.mk (show Mods w w7 S from hw7 ▸ ((HK6.out.drew.setCell (.inl hSg) _).setCell (.inl hSg) _))
      clear hw7
      have t0 := HE7.out.vo_
      refine hK.out _ _ (t0) (fun hHeld => ?_)
      clear hK K
      refine norm_ (a' := ?_) ?_ ?_
      rotate_left
      · show Act.put _ (some 55) _ = _
        simp only [Act.put, List.setIfInBounds_toArray, List.set_cons_zero, List.set_cons_succ, i64_w, i32_w]
        rfl
      refine one_ (i := 9) (N := some 56) #[true, true, true, true, true, true, true, true, true, true, false, false, false, false] rfl rfl (by kernel_rfl) (by decide) (fun K hK => ?_)
      refine value_ (w1 := ?_) (v := ?_) (by rfl) rfl ?_ ?_
      rotate_left 2
      · go_simp
        constructor
        · rfl
        · rfl
      refine hK.out _ _ (pw_cell_below (below_alloc (Below.refl _ _) _) t0) (fun hHeld => ?_)
      clear hK K
      refine norm_ (a' := ?_) ?_ ?_
      rotate_left
      · show Act.put _ (some 56) _ = _
        simp only [Act.put, List.setIfInBounds_toArray, List.set_cons_zero, List.set_cons_succ, i64_w, i32_w]
        rfl
      refine one_ (i := 10) (N := some 57) #[true, true, true, true, true, true, true, true, true, true, true, false, false, false] rfl rfl (by kernel_rfl) (by decide) (fun K hK => ?_)
      refine Kd.R_append_step (Kd.int .u8) 0 (by rfl) (.tmp 51) (.tmp 56) 34 5 (.int .u8 0) 1 rfl Try.underlying34 infoU8 rfl (by decide) (by decide) vo1 out1 (l / 16777216) [.int .u8 (l / 16777216)] S' (fun _ => False) rfl rfl rfl (fun _ h => h.elim) (fun k hk => HS3.out k (.inr (Nat.le_trans HK7.out.size hk))) HE7.out.o (Below.refl 0 _) (Nat.zero_le _) (by omega) ?_
      intro v8 w8 hR8 _ hg8 hat8
      obtain ⟨A8, c8, rfl⟩ := Kd.R_slice hR8
      rw [List.length_append, List.length_cons, List.length_nil, Nat.zero_add] at hR8
      have hne8 := Kd.R_ne HE7.out.o HE7.out.b (by decide)
      have t1 : w8.cell? ⟨g, 36, none⟩ = some vo1 := hg8.cell t0 hne8
      have z8 : w8.frozen? ⟨g, 36, none⟩ = false := blk_frozen (blk_grown HE7.out.b hg8 hne8) 36
      have HE8 := Aside0.mk (HE7.out.grew hg8 hR8)
      have HK8 := Aside0.mk ((HK7.out.of_grown hg8 (fun k hk => HS' k (HE7.out.o.1 k hk))).setCell (p := ⟨g, 36, none⟩) (.inl hSg) (.slice A8 (out1.length + 1) c8))
      clear hR8 hg8 hat8 hne8 HK7
      refine hK.out _ _ (t1) (fun hHeld => ?_)
      clear hK K
      refine norm_ (a' := ?_) ?_ ?_
      rotate_left
      · show Act.put _ (some 57) _ = _
        simp only [Act.put, List.setIfInBounds_toArray, List.set_cons_zero, List.set_cons_succ, i64_w, i32_w]
        rfl
      refine pure_ (i := 11) (N := some 58) (v := ?_) (a' := ?_) #[true, true, true, true, true, true, true, true, true, true, true, true, false, false] rfl rfl (by kernel_rfl) (fun _ _ _ h => h) (Or.inl ⟨by rfl, ?_⟩) ?_ ?_
      rotate_left
      · intro w'
        go_simp
        with_reducible rfl
      rotate_left
      · simp only [Act.put, List.setIfInBounds_toArray, List.set_cons_zero, List.set_cons_succ, i64_w, i32_w]
        rfl
      refine pure_ (i := 12) (N := some 59) (v := ?_) (a' := ?_) #[true, true, true, true, true, true, true, true, true, true, true, true, true, false] rfl rfl (by kernel_rfl) (fun _ _ _ h => h) (Or.inl ⟨by rfl, ?_⟩) ?_ ?_
      rotate_left
      · intro w'
        go_simp
        with_reducible rfl
      rotate_left
      · simp only [Act.put, List.setIfInBounds_toArray, List.set_cons_zero, List.set_cons_succ, i64_w, i32_w]
        rfl
      refine last_ (i := 13) (N := none) #[true, true, true, true, true, true, true, true, true, true, true, true, true, true] rfl rfl (by kernel_rfl) (by decide) (fun K hK => ?_)
      refine skip_ (w1 := ?_) (by rfl) rfl ?_ ?_
      rotate_left
      · go_simp
        rfl
      refine hK.out _ _ ?_
      clear hK K
      refine done_ (by kernel_rfl) ?_

      go_wp2
      go_roundg d'
      case measure => have := HD.out; omega
      case rel => exact ⟨_, _, _, ⟨_, _, _, HE8.out⟩, HK8, HP'⟩
    · rw [decide_eq_false cc] at hs
      have HSA := Aside0.mk hs
      clear hs
      have HCC := Aside0.mk cc
      clear cc
      go_wp2_with (go_at_call 52; refine HSA.out.mono ?_; rintro e w6 ⟨rfl, m6, hw6⟩; have HE6 := Aside0.mk (show EncRow w6 S' g kind A1 c1 st' l h vo1 out1 from hw6 ▸ HE5.out.drewN m6); have HK6 := Aside0.mk (show Mods w w6 S from hw6 ▸ HK5.out.drewN m6); clear hw6)
      go_ret
      have hd := HP.out.done HCC.out
      have hE6 := HE6.out
      rw [HSS.out, HST.out] at hE6
      exact ⟨rfl, ⟨l, h, out1, ⟨_, _, _, hE6⟩, hd.1, hd.2⟩, HK6.out⟩
end Go.Proofs.Ytpnmedmghncpiaa.Put
