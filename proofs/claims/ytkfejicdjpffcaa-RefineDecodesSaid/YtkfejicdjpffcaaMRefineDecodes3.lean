import Derived.Test.YtkfejicdjpffcaaMRefineDecodes2
import Derived.Test.YtkfejicdjpffcaaMRefineDecodes1
import Derived.Test.YtkfejicdjpffcaaMRefineDecodes0
set_option linter.unusedVariables false
set_option linter.unusedSimpArgs false
namespace Go.Proofs.Ytkfejicdjpffcaa.Put
open Go Go.RowKit YtkfejicdjpffcaaW PrintWords PrintLast PrintMore Aid HandAid Cod1 Cod2 Cod3 Ytkfejicdjpffcaa.Mod Enc Mods EncAt
theorem cutW_size (W : World) (g : Nat) (bit mid : Int) : (cutW W g bit mid).heap.size = W.heap.size := by
 unfold cutW
 split <;> simp [World.setCell]
/-- What stands when d bytes at the most are still to be lost. -/
structure PutInv (out : List Int) (l1 h1 : Int) (d : Nat) (l h : Int) (out1 : List Int) : Prop where
 l0 : 0 ≤ l
 lh : l ≤ h
 h0 : h ≤ 4294967295
 w : (h - l + 1) * 256 ^ d ≥ 4294967296
 o : out1 ++ (normE d l h).1 = out ++ (normE 4 l1 h1).1
 n : (normE d l h).2 = (normE 4 l1 h1).2
 len : out1.length + d ≤ out.length + 4
theorem PutInv.step {out : List Int} {l1 h1 : Int} {d : Nat} {l h : Int} {out1 : List Int} (H : PutInv out l1 h1 d l h out1) (c : l / 16777216 = h / 16777216) : ∃ d', d = d' + 1 ∧ PutInv out l1 h1 d' (l % 16777216 * 256) (h % 16777216 * 256 + 255) (out1 ++ [l / 16777216]) := by
 have hl0 := H.l0
 have hlh := H.lh
 have hh0 := H.h0
 cases d with
 | zero =>
   have := H.w
   simp only [Int.pow_zero, Int.mul_one] at this
   omega
 | succ d =>
   refine ⟨d, rfl, by omega, by omega, by omega, ?_, ?_, ?_, ?_⟩
   · have hw := H.w
     rw [Int.pow_succ, Int.mul_comm (256 ^ d) 256, ← Int.mul_assoc, show (h - l + 1) * 256 = h % 16777216 * 256 + 255 - l % 16777216 * 256 + 1 by omega] at hw
     exact hw
   · have ho := H.o
     unfold normE at ho
     rw [if_pos c] at ho
     rw [List.append_assoc]
     exact ho
   · have hn := H.n
     conv at hn => lhs; unfold normE
     rw [if_pos c] at hn
     exact hn
   · have := H.len
     simp only [List.length_append, List.length_cons, List.length_nil]
     omega
theorem PutInv.done {out : List Int} {l1 h1 : Int} {d : Nat} {l h : Int} {out1 : List Int} (H : PutInv out l1 h1 d l h out1) (c : ¬ l / 16777216 = h / 16777216) : out1 = out ++ (normE 4 l1 h1).1 ∧ (normE 4 l1 h1).2 = (l, h) := by
 have hn : normE d l h = ([], l, h) := by
  cases d with
  | zero => rfl
  | succ d =>
    unfold normE
    rw [if_neg c]
 have ho := H.o
 have hn2 := H.n
 rw [hn] at ho hn2
 simp only [List.append_nil] at ho
 exact ⟨ho, hn2.symm⟩
/-- What a good Put leaves. -/
def PutPost (w : World) (S : Nat → Prop) (g : Nat) (kind : Int) (st : List Int) (low high mid : Int) (out : List Int) (i : Nat) (bit : Int) (e : Ending) (w' : World) : Prop :=
 e = .returned (.int .i64 0) ∧ (∃ l h out1, (∃ A c vo, EncRow w' (fun k => S k ∨ w.heap.size ≤ k) g kind A c (st.set i (after kind (rd st i) bit)) l h vo out1) ∧ out1 = out ++ (normE 4 (cutL low mid bit) (cutH high mid bit)).1 ∧ (normE 4 (cutL low mid bit) (cutH high mid bit)).2 = (l, h)) ∧ Mods w w' S
set_option maxHeartbeats 4000000 in
set_option maxRecDepth 100000 in
theorem put_row0 (w : World) (S : Nat → Prop) (g : Nat) (kind : Int) (b c : Nat) (st : List Int) (low high mid : Int) (vo : Value) (out : List Int) (i : Nat) (hE : EncRow w S g kind (some ⟨b, 0, none⟩) c st low high vo out) (hi : i < st.length) (hn : st.length ≤ 8192) (hs : okState kind (rd st i)) (hl0 : 0 ≤ low) (hlh : low ≤ high) (hh : high ≤ 4294967295) (hmid : midOf low high (likely kind (rd st i)) = mid) (hm0 : 0 ≤ mid) (hm1 : mid ≤ 4294967295) (hI0 : PutInv out (cutL low mid 0) (cutH high mid 0) 4 (cutL low mid 0) (cutH high mid 0) out) (hlen : out.length ≤ 1099511627776) :
 Calls Try.prog 28 #[.pointer (some ⟨g, 0, none⟩), .int .i64 i, .int .i64 0] w (PutPost w S g kind st low high mid out i 0) := by
 have HE := A' hE
 have hSg : S g := hE.g
 have h2 := hE.real
 have k1 := hE.iv.s
 have HMID := A' (hmid ▸ mid_calls w.drew g kind (some ⟨b, 0, none⟩) st.length c low high i (rd st i) hE.drew.iv ⟨_, rfl, by obtain ⟨b', hA, hc, _⟩ := hE.drew.cell hi; cases hA; rw [add_plain]; exact hc⟩ hi hn hs hl0 hlh hh)
 have HI := A' hI0
 clear hE hmid hI0
 have hi1 : (0 : Int) ≤ (i : Int) := by omega
 have hi2 : (i : Int) < (st.length : Int) := by omega
 go_enter Try.func28, Try.ntmps28
 go_wp2_with (go_at_call 70; refine (enc_none _ _ _ h2).mono ?_; rintro e w' ⟨rfl, rfl⟩)
 refine start_ (n := 11) (S := fun w' => True) (ds := []) #[false, false, false, false, false, false, false, false, false, false, false] (by kernel_rfl) rfl rfl trivial (fun hHeld => ?_)
 refine u' 0 32 (B' 11 1) ?_ rfl rfl (by kernel_rfl) (fun _ _ _ h => h) (.inl ⟨by rfl, ?_⟩) ?_ ?_ ?_; rotate_left; (intro w'; go_simp; with_reducible rfl); rotate_left; (simp only [Act.put, p1', p2', p3', i64_w, i32_w]; rfl)
 refine u' 1 33 (B' 11 3) ?_ rfl rfl (by kernel_rfl) (fun _ _ _ h => h) (.inl ⟨by rfl, ?_⟩) ?_ ?_ ?_; rotate_left; (intro w'; go_simp; with_reducible rfl); rotate_left; (simp only [Act.put, p1', p2', p3', i64_w, i32_w]; rfl)
 refine u' 2 34 (B' 11 7) ?_ rfl rfl (by kernel_rfl) (fun _ _ _ h => h) (.inl ⟨by rfl, ?_⟩) ?_ ?_ ?_; rotate_left; (intro w'; go_simp; with_reducible rfl); rotate_left; (simp only [Act.put, p1', p2', p3', i64_w, i32_w]; rfl)
 refine u' 3 35 (B' 11 15) ?_ rfl rfl (by kernel_rfl) (fun _ _ _ h => h) (.inl ⟨by rfl, ?_⟩) ?_ ?_ ?_; rotate_left; (intro w'; go_simp; with_reducible rfl); rotate_left; (simp only [Act.put, p1', p2', p3', i64_w, i32_w]; rfl)
 refine u' 4 36 (B' 11 31) ?_ rfl rfl (by kernel_rfl) (fun _ _ _ h => h) (.inl ⟨by rfl, ?_⟩) ?_ ?_ ?_; rotate_left; (intro w'; go_simp; with_reducible rfl); rotate_left; (simp only [Act.put, p1', p2', p3', i64_w, i32_w]; rfl)
 refine u' 5 37 (B' 11 63) ?_ rfl rfl (by kernel_rfl) (fun _ _ _ h => h) (.inl ⟨by rfl, ?_⟩) ?_ ?_ ?_; rotate_left; (intro w'; go_simp; with_reducible rfl); rotate_left; (simp only [Act.put, p1', p2', p3', i64_w, i32_w]; rfl)
 refine u' 6 38 (B' 11 127) ?_ rfl rfl (by kernel_rfl) (fun _ _ _ h => h) (.inl ⟨by rfl, ?_⟩) ?_ ?_ ?_; rotate_left; (intro w'; go_simp; with_reducible rfl); rotate_left; (simp only [Act.put, p1', p2', p3', i64_w, i32_w]; rfl)
 refine u' 7 39 (B' 11 255) ?_ rfl rfl (by kernel_rfl) (fun _ _ _ h => h) (.inl ⟨by rfl, ?_⟩) ?_ ?_ ?_; rotate_left; (intro w'; go_simp; with_reducible rfl); rotate_left; (simp only [Act.put, p1', p2', p3', i64_w, i32_w]; rfl)
 refine u' 8 40 (B' 11 511) ?_ rfl rfl (by kernel_rfl) (fun _ _ _ h => h) (.inl ⟨by rfl, ?_⟩) ?_ ?_ ?_; rotate_left; (intro w'; go_simp; with_reducible rfl); rotate_left; (simp only [Act.put, p1', p2', p3', i64_w, i32_w]; rfl)
 refine one_ (i := 9) (N := some 41) (B' 11 1023) rfl rfl (by kernel_rfl) (by decide) (fun K hK => ?_)
 refine goes_ Try.func72 (by kernel_rfl) rfl #[.pointer (some ⟨g, 0, none⟩), .int .i64 i] (by rfl) rfl rfl (by simp only [List.map_toArray, List.map_cons, List.map_nil]; rfl) ?_
 with_reducible refine (HMID.out).mono ?_
 rintro e w3 ⟨rfl, hb3⟩
 refine ⟨_, rfl, ?_⟩
 have HE3 := A' (HE.out.drew.below hb3)
 have HK3 := A' ((Mods.refl w S).below (below_undrew1 hb3))
 clear hb3
 have hT := take_calls w3 g kind st.length c low high i (rd st i) mid 0 ⟨b, 0, none⟩ HE3.out.iv
 have HT := A' hT
 clear hT
 refine hK.out _ _ trivial (fun hHeld => ?_)
 clear hK K
 refine norm_ (a' := ?_) ?_ ?_; rotate_left; (show Act.put _ (some 41) _ = _; simp only [Act.put, p1', p2', p3', i64_w, i32_w]; rfl)
 refine one_ (i := 10) (N := some 42) (B' 11 2047) rfl rfl (by kernel_rfl) (by decide) (fun K hK => ?_)
 obtain ⟨b3, hA3, hc3, hf3, hne3⟩ := HE3.out.cell hi
 cases hA3
 refine goes_ Try.func71 (by kernel_rfl) rfl #[.pointer (some ⟨g, 0, none⟩), .int .i64 i, .int .i64 0, .int .u64 mid] (by rfl) rfl rfl (by simp only [List.map_toArray, List.map_cons, List.map_nil]; rfl) ?_
 with_reducible refine (HT.out (by rw [add_plain]; exact hc3) (by rw [add_plain]; exact hf3) hne3 hi hn hs (by decide) hm0 hm1).mono ?_
 rintro e w4 ⟨rfl, w4', hb4, hw4⟩
 refine ⟨_, rfl, ?_⟩
 rw [add_plain] at hw4
 have HE4 := A' (show EncRow w4 S g kind (some ⟨b, 0, none⟩) c (st.set i (after kind (rd st i) 0)) (cutL low mid 0) (cutH high mid 0) vo out from hw4 ▸ (((HE3.out.cut 0 mid).below (by rw [cutW_size]; exact hb4)).setst hi _))
 have hsb : S b := HE3.out.s.1 b (by simp [Value.ownBlock])
 have HK4 := A' (show Mods w w4 S from hw4 ▸ (((HK3.out.then_ (cut_kept 0 mid HE3.out.g) (fun _ h => .inl h)).below (by rw [cutW_size]; exact hb4)).setCell (.inl hsb) _))
 clear hb4 hw4 hc3 hf3 hne3
 refine hK.out _ _ trivial (fun hHeld => ?_)
 clear hK K
 refine norm_ (a' := ?_) ?_ ?_; rotate_left; (show Act.put _ (some 42) _ = _; simp only [Act.put, p1', p2', p3', i64_w, i32_w]; rfl)
 refine done_ (by kernel_rfl) ?_
 go_wp2
 obtain ⟨S', hS'⟩ : ∃ S' : Nat → Prop, S' = fun k => S k ∨ w.heap.size ≤ k := ⟨_, rfl⟩
 have HS' : ∀ k, S' k → S k ∨ w.heap.size ≤ k := fun k hk => by rw [hS'] at hk; exact hk
 have HSf : ∀ k, S k ∨ w.heap.size ≤ k → S' k := fun k hk => by rw [hS']; exact hk
 obtain ⟨st', hst'⟩ : ∃ st' : List Int, st' = st.set i (after kind (rd st i) 0) := ⟨_, rfl⟩
 have HST := A' hst'
 have HSS := A' hS'
 rw [← hst'] at HE4
 clear hst' hS'
 have HS2 := A' HS'
 have HS3 := A' HSf
 clear HS' HSf
 clear h2 k1
 go_loopg [] 4 (fun d wr => ∃ (l h : Int) (out1 : List Int), Aside0 (∃ A c vo, EncRow wr S' g kind A c st' l h vo out1) ∧ Aside0 (Mods w wr S) ∧ Aside0 (PutInv out (cutL low mid 0) (cutH high mid 0) d l h out1))
 case atStart => exact ⟨_, _, out, ⟨_, _, _, HE4.out.mono (fun k hk => HS3.out k (.inl hk))⟩, HK4, HI⟩
 clear HE4 HK4 HI
 case round =>
  obtain ⟨l, h, out1, ⟨A1, c1, vo1, hE5⟩, HK5, HP⟩ := hrel
  have HE5 := A' hE5
  clear hE5
  have hp0 := HP.out.l0
  have hp1 := HP.out.lh
  have hp2 := HP.out.h0
  have hs := same_calls wr g l h HE5.out.iv.l HE5.out.iv.h hp0 (by omega)
  by_cases cc : l / 16777216 = h / 16777216
  · rw [decide_eq_true cc] at hs
    have HSA := A' hs
    clear hs
    obtain ⟨d', hd', hP'⟩ := HP.out.step cc
    have HP' := A' hP'
    have hlen1 : out1.length ≤ 1099511627780 := by have := HP.out.len; omega
    have HD := A' hd'
    have HCC := A' cc
    clear hd' hP' cc
    go_wp2_with (go_at_call 73; refine HSA.out.mono ?_; rintro e w6 ⟨rfl, m6, hw6⟩; have HE6 := A' (show EncRow w6 S' g kind A1 c1 st' l h vo1 out1 from hw6 ▸ HE5.out.drewN m6); have HK6 := A' (show Mods w w6 S from hw6 ▸ HK5.out.drewN m6); clear hw6)
    have HLO := A' (lose_calls w6.drew g l h HE6.out.drew.iv.l HE6.out.drew.iv.h HE6.out.drew.iv.f hp0 (by omega) (by omega) hp2)
    have HS' := HS2.out
    have p0 := HE6.out.vo_
    clear HSA HE5 HK5
    refine start_ (n := 14) (S := fun w' => w'.cell? ⟨g, 36, none⟩ = some vo1) (ds := [13]) #[false, false, false, false, false, false, false, false, false, false, false, false, false, false] (by kernel_rfl) rfl rfl (p0) (fun hHeld => ?_)
    refine u' 0 47 (B' 14 1) ?_ rfl rfl (by kernel_rfl) (fun _ _ _ h => h) (.inl ⟨by rfl, ?_⟩) ?_ ?_ ?_; rotate_left; (intro w'; go_simp; with_reducible rfl); rotate_left; (simp only [Act.put, p1', p2', p3', i64_w, i32_w]; rfl)
    refine u' 1 48 (B' 14 3) ?_ rfl rfl (by kernel_rfl) (fun _ _ _ h => h) (.inl ⟨by rfl, ?_⟩) ?_ ?_ ?_; rotate_left; (intro w'; go_simp; with_reducible rfl); rotate_left; (simp only [Act.put, p1', p2', p3', i64_w, i32_w]; rfl)
    refine u' 2 49 (B' 14 7) ?_ rfl rfl (by kernel_rfl) (fun _ _ _ h => h) (.inl ⟨by rfl, ?_⟩) ?_ ?_ ?_; rotate_left; (intro w'; go_simp; with_reducible rfl); rotate_left; (simp only [Act.put, p1', p2', p3', i64_w, i32_w]; rfl)
    refine u' 3 50 (B' 14 15) ?_ rfl rfl (by kernel_rfl) (fun _ _ _ h => h) (.inl ⟨by rfl, ?_⟩) ?_ ?_ ?_; rotate_left; (intro w'; go_simp; with_reducible rfl); rotate_left; (simp only [Act.put, p1', p2', p3', i64_w, i32_w]; rfl)
    refine u' 5 52 (B' 14 47) ?_ rfl rfl (by kernel_rfl) (fun _ _ _ h => h) (.inl ⟨by rfl, ?_⟩) ?_ ?_ ?_; rotate_left; (intro w'; go_simp; with_reducible rfl); rotate_left; (simp only [Act.put, p1', p2', p3', i64_w, i32_w]; rfl)
    refine u' 6 53 (B' 14 111) ?_ rfl rfl (by kernel_rfl) (fun _ _ _ h => h) (.inl ⟨by rfl, ?_⟩) ?_ ?_ ?_; rotate_left; (intro w'; go_simp; with_reducible rfl); rotate_left; (simp only [Act.put, p1', p2', p3', i64_w, i32_w]; rfl)
    refine u' 7 54 (B' 14 239) ?_ rfl rfl (by kernel_rfl) (fun _ _ _ h => h) (.inl ⟨by rfl, ?_⟩) ?_ ?_ ?_; rotate_left; (intro w'; go_simp; with_reducible rfl); rotate_left; (simp only [Act.put, p1', p2', p3', i64_w, i32_w]; rfl)
    refine t' 4 51 (B' 14 255) ?_ rfl rfl (by kernel_rfl) (fun _ _ _ h => h) (.inl ⟨by rfl, ?_⟩) hHeld ?_ ?_ ?_; rotate_left; (intro w' s0; go_simp; with_reducible rfl); rotate_left; (simp only [Act.put, p1', p2', p3', i64_w, i32_w]; rfl)
    refine one_ (i := 8) (N := some 55) (B' 14 511) rfl rfl (by kernel_rfl) (by decide) (fun K hK => ?_)
    refine goes_ Try.func74 (by kernel_rfl) rfl #[.pointer (some ⟨g, 0, none⟩)] (by rfl) rfl rfl (by simp only [List.map_toArray, List.map_cons, List.map_nil]; rfl) ?_
    with_reducible refine (HLO.out).mono ?_
    rintro e w7 ⟨rfl, hw7⟩
    refine ⟨_, rfl, ?_⟩
    have HE7 := A' (show EncRow w7 S' g kind A1 c1 st' (l % 16777216 * 256) (h % 16777216 * 256 + 255) vo1 out1 from hw7 ▸ (HE6.out.drew.lost _ _))
    have HK7 := A' (show Mods w w7 S from hw7 ▸ ((HK6.out.drew.setCell (.inl hSg) _).setCell (.inl hSg) _))
    clear hw7
    have t0 := HE7.out.vo_
    refine hK.out _ _ (t0) (fun hHeld => ?_)
    clear hK K
    refine norm_ (a' := ?_) ?_ ?_; rotate_left; (show Act.put _ (some 55) _ = _; simp only [Act.put, p1', p2', p3', i64_w, i32_w]; rfl)
    refine one_ (i := 9) (N := some 56) (B' 14 1023) rfl rfl (by kernel_rfl) (by decide) (fun K hK => ?_)
    refine value_ (w1 := ?_) (v := ?_) (by rfl) rfl ?_ ?_
    rotate_left 2
    · go_simp
      constructor
      · rfl
      · rfl
    refine hK.out _ _ (pw_cell_below (below_alloc (Below.refl _ _) _) t0) (fun hHeld => ?_)
    clear hK K
    refine norm_ (a' := ?_) ?_ ?_; rotate_left; (show Act.put _ (some 56) _ = _; simp only [Act.put, p1', p2', p3', i64_w, i32_w]; rfl)
    refine one_ (i := 10) (N := some 57) (B' 14 2047) rfl rfl (by kernel_rfl) (by decide) (fun K hK => ?_)
    refine Kd.R_append_step (Kd.int .u8) 0 (by rfl) (.tmp 51) (.tmp 56) 29 5 (.int .u8 0) 1 rfl Try.underlying29 infoU8 rfl (by decide) (by decide) vo1 out1 (l / 16777216) [.int .u8 (l / 16777216)] S' (fun _ => False) rfl rfl rfl (fun _ h => h.elim) (fun k hk => HS3.out k (.inr (Nat.le_trans HK7.out.size hk))) HE7.out.o (Below.refl 0 _) (Nat.zero_le _) (by omega) ?_
    intro v8 w8 hR8 _ hg8 hat8
    obtain ⟨A8, c8, rfl⟩ := Kd.R_slice hR8
    rw [List.length_append, List.length_cons, List.length_nil, Nat.zero_add] at hR8
    have hne8 := Kd.R_ne HE7.out.o HE7.out.b (by decide)
    have t1 : w8.cell? ⟨g, 36, none⟩ = some vo1 := hg8.cell t0 hne8
    have z8 : w8.frozen? ⟨g, 36, none⟩ = false := blk_frozen (blk_grown HE7.out.b hg8 hne8) 36
    have HE8 := A' (HE7.out.grew hg8 hR8)
    have HK8 := A' ((HK7.out.of_grown hg8 (fun k hk => HS' k (HE7.out.o.1 k hk))).setCell (p := ⟨g, 36, none⟩) (.inl hSg) (.slice A8 (out1.length + 1) c8))
    clear hR8 hg8 hat8 hne8 HK7
    refine hK.out _ _ (t1) (fun hHeld => ?_)
    clear hK K
    refine norm_ (a' := ?_) ?_ ?_; rotate_left; (show Act.put _ (some 57) _ = _; simp only [Act.put, p1', p2', p3', i64_w, i32_w]; rfl)
    refine u' 11 58 (B' 14 4095) ?_ rfl rfl (by kernel_rfl) (fun _ _ _ h => h) (.inl ⟨by rfl, ?_⟩) ?_ ?_ ?_; rotate_left; (intro w'; go_simp; with_reducible rfl); rotate_left; (simp only [Act.put, p1', p2', p3', i64_w, i32_w]; rfl)
    refine u' 12 59 (B' 14 8191) ?_ rfl rfl (by kernel_rfl) (fun _ _ _ h => h) (.inl ⟨by rfl, ?_⟩) ?_ ?_ ?_; rotate_left; (intro w'; go_simp; with_reducible rfl); rotate_left; (simp only [Act.put, p1', p2', p3', i64_w, i32_w]; rfl)
    refine last_ (i := 13) (N := none) (B' 14 16383) rfl rfl (by kernel_rfl) (by decide) (fun K hK => ?_)
    refine skip_ (w1 := ?_) (by rfl) rfl ?_ ?_
    rotate_left
    · go_simp
      rfl
    refine hK.out _ _ ?_
    clear hK K
    refine done_ (by kernel_rfl) ?_
    go_wp2
    go_roundg d'
    case measure => have := HD.out; omega
    case rel => exact ⟨_, _, _, ⟨_, _, _, HE8.out⟩, HK8, HP'⟩
  · rw [decide_eq_false cc] at hs
    have HSA := A' hs
    clear hs
    have HCC := A' cc
    clear cc
    go_wp2_with (go_at_call 73; refine HSA.out.mono ?_; rintro e w6 ⟨rfl, m6, hw6⟩; have HE6 := A' (show EncRow w6 S' g kind A1 c1 st' l h vo1 out1 from hw6 ▸ HE5.out.drewN m6); have HK6 := A' (show Mods w w6 S from hw6 ▸ HK5.out.drewN m6); clear hw6)
    go_ret
    have hd := HP.out.done HCC.out
    have hE6 := HE6.out
    rw [HSS.out, HST.out] at hE6
    exact ⟨rfl, ⟨l, h, out1, ⟨_, _, _, hE6⟩, hd.1, hd.2⟩, HK6.out⟩
set_option maxHeartbeats 4000000 in
set_option maxRecDepth 100000 in
theorem put_row1 (w : World) (S : Nat → Prop) (g : Nat) (kind : Int) (b c : Nat) (st : List Int) (low high mid : Int) (vo : Value) (out : List Int) (i : Nat) (hE : EncRow w S g kind (some ⟨b, 0, none⟩) c st low high vo out) (hi : i < st.length) (hn : st.length ≤ 8192) (hs : okState kind (rd st i)) (hl0 : 0 ≤ low) (hlh : low ≤ high) (hh : high ≤ 4294967295) (hmid : midOf low high (likely kind (rd st i)) = mid) (hm0 : 0 ≤ mid) (hm1 : mid ≤ 4294967295) (hI0 : PutInv out (cutL low mid 1) (cutH high mid 1) 4 (cutL low mid 1) (cutH high mid 1) out) (hlen : out.length ≤ 1099511627776) :
 Calls Try.prog 28 #[.pointer (some ⟨g, 0, none⟩), .int .i64 i, .int .i64 1] w (PutPost w S g kind st low high mid out i 1) := by
 have HE := A' hE
 have hSg : S g := hE.g
 have h2 := hE.real
 have k1 := hE.iv.s
 have HMID := A' (hmid ▸ mid_calls w.drew g kind (some ⟨b, 0, none⟩) st.length c low high i (rd st i) hE.drew.iv ⟨_, rfl, by obtain ⟨b', hA, hc, _⟩ := hE.drew.cell hi; cases hA; rw [add_plain]; exact hc⟩ hi hn hs hl0 hlh hh)
 have HI := A' hI0
 clear hE hmid hI0
 have hi1 : (0 : Int) ≤ (i : Int) := by omega
 have hi2 : (i : Int) < (st.length : Int) := by omega
 go_enter Try.func28, Try.ntmps28
 go_wp2_with (go_at_call 70; refine (enc_none _ _ _ h2).mono ?_; rintro e w' ⟨rfl, rfl⟩)
 refine start_ (n := 11) (S := fun w' => True) (ds := []) #[false, false, false, false, false, false, false, false, false, false, false] (by kernel_rfl) rfl rfl trivial (fun hHeld => ?_)
 refine u' 0 32 (B' 11 1) ?_ rfl rfl (by kernel_rfl) (fun _ _ _ h => h) (.inl ⟨by rfl, ?_⟩) ?_ ?_ ?_; rotate_left; (intro w'; go_simp; with_reducible rfl); rotate_left; (simp only [Act.put, p1', p2', p3', i64_w, i32_w]; rfl)
 refine u' 1 33 (B' 11 3) ?_ rfl rfl (by kernel_rfl) (fun _ _ _ h => h) (.inl ⟨by rfl, ?_⟩) ?_ ?_ ?_; rotate_left; (intro w'; go_simp; with_reducible rfl); rotate_left; (simp only [Act.put, p1', p2', p3', i64_w, i32_w]; rfl)
 refine u' 2 34 (B' 11 7) ?_ rfl rfl (by kernel_rfl) (fun _ _ _ h => h) (.inl ⟨by rfl, ?_⟩) ?_ ?_ ?_; rotate_left; (intro w'; go_simp; with_reducible rfl); rotate_left; (simp only [Act.put, p1', p2', p3', i64_w, i32_w]; rfl)
 refine u' 3 35 (B' 11 15) ?_ rfl rfl (by kernel_rfl) (fun _ _ _ h => h) (.inl ⟨by rfl, ?_⟩) ?_ ?_ ?_; rotate_left; (intro w'; go_simp; with_reducible rfl); rotate_left; (simp only [Act.put, p1', p2', p3', i64_w, i32_w]; rfl)
 refine u' 4 36 (B' 11 31) ?_ rfl rfl (by kernel_rfl) (fun _ _ _ h => h) (.inl ⟨by rfl, ?_⟩) ?_ ?_ ?_; rotate_left; (intro w'; go_simp; with_reducible rfl); rotate_left; (simp only [Act.put, p1', p2', p3', i64_w, i32_w]; rfl)
 refine u' 5 37 (B' 11 63) ?_ rfl rfl (by kernel_rfl) (fun _ _ _ h => h) (.inl ⟨by rfl, ?_⟩) ?_ ?_ ?_; rotate_left; (intro w'; go_simp; with_reducible rfl); rotate_left; (simp only [Act.put, p1', p2', p3', i64_w, i32_w]; rfl)
 refine u' 6 38 (B' 11 127) ?_ rfl rfl (by kernel_rfl) (fun _ _ _ h => h) (.inl ⟨by rfl, ?_⟩) ?_ ?_ ?_; rotate_left; (intro w'; go_simp; with_reducible rfl); rotate_left; (simp only [Act.put, p1', p2', p3', i64_w, i32_w]; rfl)
 refine u' 7 39 (B' 11 255) ?_ rfl rfl (by kernel_rfl) (fun _ _ _ h => h) (.inl ⟨by rfl, ?_⟩) ?_ ?_ ?_; rotate_left; (intro w'; go_simp; with_reducible rfl); rotate_left; (simp only [Act.put, p1', p2', p3', i64_w, i32_w]; rfl)
 refine u' 8 40 (B' 11 511) ?_ rfl rfl (by kernel_rfl) (fun _ _ _ h => h) (.inl ⟨by rfl, ?_⟩) ?_ ?_ ?_; rotate_left; (intro w'; go_simp; with_reducible rfl); rotate_left; (simp only [Act.put, p1', p2', p3', i64_w, i32_w]; rfl)
 refine one_ (i := 9) (N := some 41) (B' 11 1023) rfl rfl (by kernel_rfl) (by decide) (fun K hK => ?_)
 refine goes_ Try.func72 (by kernel_rfl) rfl #[.pointer (some ⟨g, 0, none⟩), .int .i64 i] (by rfl) rfl rfl (by simp only [List.map_toArray, List.map_cons, List.map_nil]; rfl) ?_
 with_reducible refine (HMID.out).mono ?_
 rintro e w3 ⟨rfl, hb3⟩
 refine ⟨_, rfl, ?_⟩
 have HE3 := A' (HE.out.drew.below hb3)
 have HK3 := A' ((Mods.refl w S).below (below_undrew1 hb3))
 clear hb3
 have hT := take_calls w3 g kind st.length c low high i (rd st i) mid 1 ⟨b, 0, none⟩ HE3.out.iv
 have HT := A' hT
 clear hT
 refine hK.out _ _ trivial (fun hHeld => ?_)
 clear hK K
 refine norm_ (a' := ?_) ?_ ?_; rotate_left; (show Act.put _ (some 41) _ = _; simp only [Act.put, p1', p2', p3', i64_w, i32_w]; rfl)
 refine one_ (i := 10) (N := some 42) (B' 11 2047) rfl rfl (by kernel_rfl) (by decide) (fun K hK => ?_)
 obtain ⟨b3, hA3, hc3, hf3, hne3⟩ := HE3.out.cell hi
 cases hA3
 refine goes_ Try.func71 (by kernel_rfl) rfl #[.pointer (some ⟨g, 0, none⟩), .int .i64 i, .int .i64 1, .int .u64 mid] (by rfl) rfl rfl (by simp only [List.map_toArray, List.map_cons, List.map_nil]; rfl) ?_
 with_reducible refine (HT.out (by rw [add_plain]; exact hc3) (by rw [add_plain]; exact hf3) hne3 hi hn hs (by decide) hm0 hm1).mono ?_
 rintro e w4 ⟨rfl, w4', hb4, hw4⟩
 refine ⟨_, rfl, ?_⟩
 rw [add_plain] at hw4
 have HE4 := A' (show EncRow w4 S g kind (some ⟨b, 0, none⟩) c (st.set i (after kind (rd st i) 1)) (cutL low mid 1) (cutH high mid 1) vo out from hw4 ▸ (((HE3.out.cut 1 mid).below (by rw [cutW_size]; exact hb4)).setst hi _))
 have hsb : S b := HE3.out.s.1 b (by simp [Value.ownBlock])
 have HK4 := A' (show Mods w w4 S from hw4 ▸ (((HK3.out.then_ (cut_kept 1 mid HE3.out.g) (fun _ h => .inl h)).below (by rw [cutW_size]; exact hb4)).setCell (.inl hsb) _))
 clear hb4 hw4 hc3 hf3 hne3
 refine hK.out _ _ trivial (fun hHeld => ?_)
 clear hK K
 refine norm_ (a' := ?_) ?_ ?_; rotate_left; (show Act.put _ (some 42) _ = _; simp only [Act.put, p1', p2', p3', i64_w, i32_w]; rfl)
 refine done_ (by kernel_rfl) ?_
 go_wp2
 obtain ⟨S', hS'⟩ : ∃ S' : Nat → Prop, S' = fun k => S k ∨ w.heap.size ≤ k := ⟨_, rfl⟩
 have HS' : ∀ k, S' k → S k ∨ w.heap.size ≤ k := fun k hk => by rw [hS'] at hk; exact hk
 have HSf : ∀ k, S k ∨ w.heap.size ≤ k → S' k := fun k hk => by rw [hS']; exact hk
 obtain ⟨st', hst'⟩ : ∃ st' : List Int, st' = st.set i (after kind (rd st i) 1) := ⟨_, rfl⟩
 have HST := A' hst'
 have HSS := A' hS'
 rw [← hst'] at HE4
 clear hst' hS'
 have HS2 := A' HS'
 have HS3 := A' HSf
 clear HS' HSf
 clear h2 k1
 go_loopg [] 4 (fun d wr => ∃ (l h : Int) (out1 : List Int), Aside0 (∃ A c vo, EncRow wr S' g kind A c st' l h vo out1) ∧ Aside0 (Mods w wr S) ∧ Aside0 (PutInv out (cutL low mid 1) (cutH high mid 1) d l h out1))
 case atStart => exact ⟨_, _, out, ⟨_, _, _, HE4.out.mono (fun k hk => HS3.out k (.inl hk))⟩, HK4, HI⟩
 clear HE4 HK4 HI
 case round =>
  obtain ⟨l, h, out1, ⟨A1, c1, vo1, hE5⟩, HK5, HP⟩ := hrel
  have HE5 := A' hE5
  clear hE5
  have hp0 := HP.out.l0
  have hp1 := HP.out.lh
  have hp2 := HP.out.h0
  have hs := same_calls wr g l h HE5.out.iv.l HE5.out.iv.h hp0 (by omega)
  by_cases cc : l / 16777216 = h / 16777216
  · rw [decide_eq_true cc] at hs
    have HSA := A' hs
    clear hs
    obtain ⟨d', hd', hP'⟩ := HP.out.step cc
    have HP' := A' hP'
    have hlen1 : out1.length ≤ 1099511627780 := by have := HP.out.len; omega
    have HD := A' hd'
    have HCC := A' cc
    clear hd' hP' cc
    go_wp2_with (go_at_call 73; refine HSA.out.mono ?_; rintro e w6 ⟨rfl, m6, hw6⟩; have HE6 := A' (show EncRow w6 S' g kind A1 c1 st' l h vo1 out1 from hw6 ▸ HE5.out.drewN m6); have HK6 := A' (show Mods w w6 S from hw6 ▸ HK5.out.drewN m6); clear hw6)
    have HLO := A' (lose_calls w6.drew g l h HE6.out.drew.iv.l HE6.out.drew.iv.h HE6.out.drew.iv.f hp0 (by omega) (by omega) hp2)
    have HS' := HS2.out
    have p0 := HE6.out.vo_
    clear HSA HE5 HK5
    refine start_ (n := 14) (S := fun w' => w'.cell? ⟨g, 36, none⟩ = some vo1) (ds := [13]) #[false, false, false, false, false, false, false, false, false, false, false, false, false, false] (by kernel_rfl) rfl rfl (p0) (fun hHeld => ?_)
    refine u' 0 47 (B' 14 1) ?_ rfl rfl (by kernel_rfl) (fun _ _ _ h => h) (.inl ⟨by rfl, ?_⟩) ?_ ?_ ?_; rotate_left; (intro w'; go_simp; with_reducible rfl); rotate_left; (simp only [Act.put, p1', p2', p3', i64_w, i32_w]; rfl)
    refine u' 1 48 (B' 14 3) ?_ rfl rfl (by kernel_rfl) (fun _ _ _ h => h) (.inl ⟨by rfl, ?_⟩) ?_ ?_ ?_; rotate_left; (intro w'; go_simp; with_reducible rfl); rotate_left; (simp only [Act.put, p1', p2', p3', i64_w, i32_w]; rfl)
    refine u' 2 49 (B' 14 7) ?_ rfl rfl (by kernel_rfl) (fun _ _ _ h => h) (.inl ⟨by rfl, ?_⟩) ?_ ?_ ?_; rotate_left; (intro w'; go_simp; with_reducible rfl); rotate_left; (simp only [Act.put, p1', p2', p3', i64_w, i32_w]; rfl)
    refine u' 3 50 (B' 14 15) ?_ rfl rfl (by kernel_rfl) (fun _ _ _ h => h) (.inl ⟨by rfl, ?_⟩) ?_ ?_ ?_; rotate_left; (intro w'; go_simp; with_reducible rfl); rotate_left; (simp only [Act.put, p1', p2', p3', i64_w, i32_w]; rfl)
    refine u' 5 52 (B' 14 47) ?_ rfl rfl (by kernel_rfl) (fun _ _ _ h => h) (.inl ⟨by rfl, ?_⟩) ?_ ?_ ?_; rotate_left; (intro w'; go_simp; with_reducible rfl); rotate_left; (simp only [Act.put, p1', p2', p3', i64_w, i32_w]; rfl)
    refine u' 6 53 (B' 14 111) ?_ rfl rfl (by kernel_rfl) (fun _ _ _ h => h) (.inl ⟨by rfl, ?_⟩) ?_ ?_ ?_; rotate_left; (intro w'; go_simp; with_reducible rfl); rotate_left; (simp only [Act.put, p1', p2', p3', i64_w, i32_w]; rfl)
    refine u' 7 54 (B' 14 239) ?_ rfl rfl (by kernel_rfl) (fun _ _ _ h => h) (.inl ⟨by rfl, ?_⟩) ?_ ?_ ?_; rotate_left; (intro w'; go_simp; with_reducible rfl); rotate_left; (simp only [Act.put, p1', p2', p3', i64_w, i32_w]; rfl)
    refine t' 4 51 (B' 14 255) ?_ rfl rfl (by kernel_rfl) (fun _ _ _ h => h) (.inl ⟨by rfl, ?_⟩) hHeld ?_ ?_ ?_; rotate_left; (intro w' s0; go_simp; with_reducible rfl); rotate_left; (simp only [Act.put, p1', p2', p3', i64_w, i32_w]; rfl)
    refine one_ (i := 8) (N := some 55) (B' 14 511) rfl rfl (by kernel_rfl) (by decide) (fun K hK => ?_)
    refine goes_ Try.func74 (by kernel_rfl) rfl #[.pointer (some ⟨g, 0, none⟩)] (by rfl) rfl rfl (by simp only [List.map_toArray, List.map_cons, List.map_nil]; rfl) ?_
    with_reducible refine (HLO.out).mono ?_
    rintro e w7 ⟨rfl, hw7⟩
    refine ⟨_, rfl, ?_⟩
    have HE7 := A' (show EncRow w7 S' g kind A1 c1 st' (l % 16777216 * 256) (h % 16777216 * 256 + 255) vo1 out1 from hw7 ▸ (HE6.out.drew.lost _ _))
    have HK7 := A' (show Mods w w7 S from hw7 ▸ ((HK6.out.drew.setCell (.inl hSg) _).setCell (.inl hSg) _))
    clear hw7
    have t0 := HE7.out.vo_
    refine hK.out _ _ (t0) (fun hHeld => ?_)
    clear hK K
    refine norm_ (a' := ?_) ?_ ?_; rotate_left; (show Act.put _ (some 55) _ = _; simp only [Act.put, p1', p2', p3', i64_w, i32_w]; rfl)
    refine one_ (i := 9) (N := some 56) (B' 14 1023) rfl rfl (by kernel_rfl) (by decide) (fun K hK => ?_)
    refine value_ (w1 := ?_) (v := ?_) (by rfl) rfl ?_ ?_
    rotate_left 2
    · go_simp
      constructor
      · rfl
      · rfl
    refine hK.out _ _ (pw_cell_below (below_alloc (Below.refl _ _) _) t0) (fun hHeld => ?_)
    clear hK K
    refine norm_ (a' := ?_) ?_ ?_; rotate_left; (show Act.put _ (some 56) _ = _; simp only [Act.put, p1', p2', p3', i64_w, i32_w]; rfl)
    refine one_ (i := 10) (N := some 57) (B' 14 2047) rfl rfl (by kernel_rfl) (by decide) (fun K hK => ?_)
    refine Kd.R_append_step (Kd.int .u8) 0 (by rfl) (.tmp 51) (.tmp 56) 29 5 (.int .u8 0) 1 rfl Try.underlying29 infoU8 rfl (by decide) (by decide) vo1 out1 (l / 16777216) [.int .u8 (l / 16777216)] S' (fun _ => False) rfl rfl rfl (fun _ h => h.elim) (fun k hk => HS3.out k (.inr (Nat.le_trans HK7.out.size hk))) HE7.out.o (Below.refl 0 _) (Nat.zero_le _) (by omega) ?_
    intro v8 w8 hR8 _ hg8 hat8
    obtain ⟨A8, c8, rfl⟩ := Kd.R_slice hR8
    rw [List.length_append, List.length_cons, List.length_nil, Nat.zero_add] at hR8
    have hne8 := Kd.R_ne HE7.out.o HE7.out.b (by decide)
    have t1 : w8.cell? ⟨g, 36, none⟩ = some vo1 := hg8.cell t0 hne8
    have z8 : w8.frozen? ⟨g, 36, none⟩ = false := blk_frozen (blk_grown HE7.out.b hg8 hne8) 36
    have HE8 := A' (HE7.out.grew hg8 hR8)
    have HK8 := A' ((HK7.out.of_grown hg8 (fun k hk => HS' k (HE7.out.o.1 k hk))).setCell (p := ⟨g, 36, none⟩) (.inl hSg) (.slice A8 (out1.length + 1) c8))
    clear hR8 hg8 hat8 hne8 HK7
    refine hK.out _ _ (t1) (fun hHeld => ?_)
    clear hK K
    refine norm_ (a' := ?_) ?_ ?_; rotate_left; (show Act.put _ (some 57) _ = _; simp only [Act.put, p1', p2', p3', i64_w, i32_w]; rfl)
    refine u' 11 58 (B' 14 4095) ?_ rfl rfl (by kernel_rfl) (fun _ _ _ h => h) (.inl ⟨by rfl, ?_⟩) ?_ ?_ ?_; rotate_left; (intro w'; go_simp; with_reducible rfl); rotate_left; (simp only [Act.put, p1', p2', p3', i64_w, i32_w]; rfl)
    refine u' 12 59 (B' 14 8191) ?_ rfl rfl (by kernel_rfl) (fun _ _ _ h => h) (.inl ⟨by rfl, ?_⟩) ?_ ?_ ?_; rotate_left; (intro w'; go_simp; with_reducible rfl); rotate_left; (simp only [Act.put, p1', p2', p3', i64_w, i32_w]; rfl)
    refine last_ (i := 13) (N := none) (B' 14 16383) rfl rfl (by kernel_rfl) (by decide) (fun K hK => ?_)
    refine skip_ (w1 := ?_) (by rfl) rfl ?_ ?_
    rotate_left
    · go_simp
      rfl
    refine hK.out _ _ ?_
    clear hK K
    refine done_ (by kernel_rfl) ?_
    go_wp2
    go_roundg d'
    case measure => have := HD.out; omega
    case rel => exact ⟨_, _, _, ⟨_, _, _, HE8.out⟩, HK8, HP'⟩
  · rw [decide_eq_false cc] at hs
    have HSA := A' hs
    clear hs
    have HCC := A' cc
    clear cc
    go_wp2_with (go_at_call 73; refine HSA.out.mono ?_; rintro e w6 ⟨rfl, m6, hw6⟩; have HE6 := A' (show EncRow w6 S' g kind A1 c1 st' l h vo1 out1 from hw6 ▸ HE5.out.drewN m6); have HK6 := A' (show Mods w w6 S from hw6 ▸ HK5.out.drewN m6); clear hw6)
    go_ret
    have hd := HP.out.done HCC.out
    have hE6 := HE6.out
    rw [HSS.out, HST.out] at hE6
    exact ⟨rfl, ⟨l, h, out1, ⟨_, _, _, hE6⟩, hd.1, hd.2⟩, HK6.out⟩
end Go.Proofs.Ytkfejicdjpffcaa.Put
namespace Go.Proofs.Ytkfejicdjpffcaa.End
open Go Go.RowKit YtkfejicdjpffcaaW PrintWords PrintLast PrintMore Aid HandAid Cod1 Cod2 Cod3 Ytkfejicdjpffcaa.Mod Enc Mods EncAt Put
theorem put_calls (w : World) (S : Nat → Prop) (g : Nat) (s : ES) (i bit : Int) (hE : EncAt w S g s) (hok : s.ok) (hlen : s.out.length ≤ 1099511627776) :
 Calls Try.prog 28 #[.pointer (some ⟨g, 0, none⟩), .int .i64 i, .int .i64 bit] w fun e w' => e = .returned (.int .i64 (s.err i bit)) ∧ EncAt w' (fun k => (S k ∨ w.heap.size ≤ k) ∧ k < w'.heap.size) g (s.putI i bit) ∧ Mods w w' S := by
 obtain ⟨A, c, vo, hR⟩ := hE
 by_cases hg : s.good i bit = true
 · have e1 : s.err i bit = 0 := if_pos hg
   have e2 : s.putI i bit = s.put i.toNat bit := if_pos hg
   rw [e1, e2]
   simp only [ES.good, Bool.and_eq_true, Bool.or_eq_true, decide_eq_true_eq] at hg
   obtain ⟨⟨h0, h1⟩, hb⟩ := hg
   obtain ⟨j, rfl⟩ : ∃ j : Nat, i = (j : Int) := ⟨i.toNat, by omega⟩
   rw [Int.toNat_natCast]
   have hj : j < s.st.length := by omega
   obtain ⟨b, rfl, _⟩ := hR.cell hj
   have hm := ES.mid_ hok hj
   have hc := ES.cut_ hok hj (bit := bit)
   have := hok.l
   have := hok.h
   have hI : PutInv s.out (cutL s.low (s.mid j) bit) (cutH s.high (s.mid j) bit) 4 (cutL s.low (s.mid j) bit) (cutH s.high (s.mid j) bit) s.out := ⟨hc.1, hc.2.1, hc.2.2, by rw [show (256 : Int) ^ 4 = 4294967296 from rfl]; omega, rfl, rfl, Nat.le_refl _⟩
   have key : Calls Try.prog 28 #[.pointer (some ⟨g, 0, none⟩), .int .i64 j, .int .i64 bit] w (PutPost w S g s.kind s.st s.low s.high (s.mid j) s.out j bit) := by
    rcases hb with rfl | rfl
    · exact put_row0 w S g s.kind b c s.st s.low s.high (s.mid j) vo s.out j hR hj hok.m.2.1 (ES.at_ hok hj) hok.l hok.lh hok.h rfl (by omega) (by omega) hI hlen
    · exact put_row1 w S g s.kind b c s.st s.low s.high (s.mid j) vo s.out j hR hj hok.m.2.1 (ES.at_ hok hj) hok.l hok.lh hok.h rfl (by omega) (by omega) hI hlen
   refine key.mono ?_
   rintro e w' ⟨he, ⟨l, h, out1, hE', ho, hn⟩, hk⟩
   refine ⟨he, ?_, hk⟩
   have hE2 : EncAt w' (fun k => S k ∨ w.heap.size ≤ k) g (s.put j bit) := by
    obtain ⟨A', c', vo', h'⟩ := hE'
    refine ⟨A', c', vo', ?_⟩
    have hn' : s.norm j bit = (out1.drop s.out.length, l, h) := by
     show normE 4 _ _ = _
     rw [ho, List.drop_left, ← hn]
    simp only [ES.put]
    rw [show (s.norm j bit).2.1 = l by rw [hn'], show (s.norm j bit).2.2 = h by rw [hn'], show s.out ++ (s.norm j bit).1 = out1 from ho.symm]
    exact h'
   exact hE2.bound
 · have e1 : s.err i bit = 2 := if_neg hg
   have e2 : s.putI i bit = s := if_neg hg
   rw [e1, e2]
   have hbad : i < 0 ∨ (s.st.length : Int) ≤ i ∨ (bit ≠ 0 ∧ bit ≠ 1) := by
    simp only [ES.good, Bool.and_eq_true, Bool.or_eq_true, decide_eq_true_eq] at hg
    omega
   refine (enc_put_arg w g A s.st.length c i bit hR.iv.s hR.real hbad).mono ?_
   rintro e w' ⟨rfl, rfl⟩
   exact ⟨rfl, ⟨A, c, vo, hR.bound.mono (fun k hk => ⟨.inl hk.1, hk.2⟩)⟩, Mods.refl _ _⟩
def EndPost (w : World) (l : List Int) (e : Ending) (w' : World) : Prop := ∃ A c, e = .returned (.slice A l.length c) ∧ Kd.R (Kd.int .u8) 5 w' w.heap.size (fun _ => True) (.slice A l.length c) l ∧ Below w.heap.size w w'
set_option maxHeartbeats 4000000 in
set_option maxRecDepth 100000 in
theorem end_row (w : World) (S : Nat → Prop) (g : Nat) (kind : Int) (A : Option Addr) (c : Nat) (st : List Int) (low high : Int) (vo : Value) (out : List Int) (hE : EncRow w S g kind A c st low high vo out) (hl0 : 0 ≤ low) (hlh : low ≤ high) (hh : high ≤ 4294967295) (hlen : out.length ≤ 1099511627880) :
 Calls Try.prog 29 #[.pointer (some ⟨g, 0, none⟩)] w (EndPost w (out ++ endOf low high)) := by
 have HE := A' hE
 have h2 := hE.real
 have hh0 : 0 ≤ high := by omega
 clear hE
 have HE1 := A' (HE.out.below (below_alloc (Below.refl _ _) (.cells #[] 5)))
 have HB1 := A' (below_alloc (Below.refl w.heap.size w) (.cells #[] 5))
 have HR1 : Aside0 (Kd.R (Kd.int .u8) 5 (w.alloc (.cells #[] 5)) w.heap.size (fun _ => True) (.slice (some ⟨w.heap.size, 0, none⟩) 0 0) []) := ⟨Kd.R_of_own (enc := Value.int .u8) (World.ownsRow_lit w #[] 0 (Nat.le_refl _) (by decide) rfl) (fun _ _ => trivial)⟩
 have hcv : (w.alloc (.cells #[] 5)).cell? ⟨g, 36, none⟩ = some vo := HE1.out.vo_
 obtain ⟨Ao, co, hvo⟩ := Kd.R_slice HE.out.o
 subst hvo
 have HCo := A' (Kd.R_reads' HE1.out.o).2.2
 go_enter Try.func29, Try.ntmps29
 go_wp2_with (first
  | (go_at_call 70; refine (enc_none _ _ _ h2).mono ?_; rintro e w' ⟨rfl, rfl⟩)
  | (at_builtin; refine Kd.R_append_rows (Kd.int .u8) (w0 := w) w.heap.size (by rfl) (.tmp 9) (.tmp 13) 29 5 (.int .u8 0) 1 rfl Try.underlying29 infoU8 rfl (by decide) (by omega) (.slice (some ⟨w.heap.size, 0, none⟩) 0 0) [] out _ _ _ (fun _ => True) (fun _ => False) rfl rfl HR1.out HCo.out (fun _ _ h => h) (fun _ h => h.elim) (fun _ _ => trivial) HB1.out (Nat.le_of_lt (by simp)) (by simp only [List.length_nil]; omega) ?_; intro v3 w3 hR3 hB3 hg3 hat3; have HR3 := A' hR3; have HB3 := A' hB3; clear hR3 hB3 hg3 hat3))
 clear HR1 HB1 HE1 HCo hcv
 rw [List.nil_append] at HR3
 obtain ⟨A3, c3, hv3⟩ := Kd.R_slice HR3.out
 subst hv3
 go_loopw [3, 15] (fun o i wr => ∃ (k : Nat), k ≤ 4 ∧ i = .int .i64 k ∧ o = .slice A3 out.length c3 ∧ Aside0 (k ≤ endN low high) ∧ Aside0 (Kd.R (Kd.int .u8) 5 wr w.heap.size (fun _ => True) (.slice A3 out.length c3) out) ∧ Aside0 (Below w.heap.size w wr)) (fun _ i _ => 5 - (intOf i).toNat)
 case atStart => exact ⟨0, by omega, rfl, rfl, ⟨Nat.zero_le _⟩, HR3, HB3⟩
 clear HR3 HB3 h2
 case round =>
  obtain ⟨k, hk, rfl, rfl, HK, HR4, HB4⟩ := hrel
  have k34 := (HE.out.below HB4.out).iv.l
  have k35 := (HE.out.below HB4.out).iv.h
  have hcase : k = 0 ∨ k = 1 ∨ k = 2 ∨ k = 3 ∨ k = 4 := by omega
  rcases hcase with rfl | rfl | rfl | rfl | rfl
  · by_cases ct : low ≤ high / 4294967296 * 4294967296
    · have hEN : endN low high = 0 := by
        have := HK.out
        unfold endN at this ⊢
        repeat' split
        all_goals (first | rfl | omega | (split at this <;> omega))
      have hend : out ++ endOf low high = out ++ (hiBytes high).take 0 := by unfold endOf; rw [hEN]
      have HEND := A' hend
      clear hEN hend
      go_wp2
      go_quiet (fail)
      go_wp2
      clear k34 k35 HK
      go_loopg [3, 38] 0 (fun d o i w5 => ∃ (j : Nat), j ≤ 0 ∧ Aside0 (j + d = 0) ∧ i = .int .i64 j ∧ ∃ A5 c5, o = .slice A5 (out.length + j) c5 ∧ Aside0 (Kd.R (Kd.int .u8) 5 w5 w.heap.size (fun _ => True) (.slice A5 (out.length + j) c5) (out ++ (hiBytes high).take j)) ∧ Aside0 (Below w.heap.size w w5))
      case atStart => exact ⟨0, by omega, ⟨by omega⟩, rfl, A3, c3, rfl, ⟨by rw [List.take_zero, List.append_nil]; exact Kd.R_drewN HR4.out _⟩, ⟨pw_below_drewN HB4.out _⟩⟩
      clear HR4 HB4
      case round =>
       obtain ⟨j, hj, HD, rfl, A5, c5, rfl, HR6, HB6⟩ := hrel
       have k35 := (HE.out.below HB6.out).iv.h
       have hcase : j = 0 := by omega
       subst hcase
       · go_wp2
         go_ret
         refine ⟨A5, c5, ?_, ?_, HB6.out⟩
         · rw [HEND.out]; simp [hiBytes]
         · have := HR6.out
           rw [HEND.out]
           simp [hiBytes] at this ⊢
           exact this
    · have HN : 1 ≤ endN low high := by
        have := HK.out
        unfold endN at this ⊢
        repeat' split
        all_goals (first | omega | (split at this <;> omega))
      go_wp2
      go_quiet (fail)
      go_wp2
      go_roundw
      case rel => exact ⟨1, by omega, rfl, rfl, ⟨HN⟩, ⟨Kd.R_drewN HR4.out _⟩, ⟨pw_below_drewN HB4.out _⟩⟩
      case measure => simp [intOf]
  · by_cases ct : low ≤ high / 16777216 * 16777216
    · have hEN : endN low high = 1 := by
        have := HK.out
        unfold endN at this ⊢
        repeat' split
        all_goals (first | rfl | omega | (split at this <;> omega))
      have hend : out ++ endOf low high = out ++ (hiBytes high).take 1 := by unfold endOf; rw [hEN]
      have HEND := A' hend
      clear hEN hend
      go_wp2
      go_quiet (fail)
      go_wp2
      clear k34 k35 HK
      go_loopg [3, 38] 1 (fun d o i w5 => ∃ (j : Nat), j ≤ 1 ∧ Aside0 (j + d = 1) ∧ i = .int .i64 j ∧ ∃ A5 c5, o = .slice A5 (out.length + j) c5 ∧ Aside0 (Kd.R (Kd.int .u8) 5 w5 w.heap.size (fun _ => True) (.slice A5 (out.length + j) c5) (out ++ (hiBytes high).take j)) ∧ Aside0 (Below w.heap.size w w5))
      case atStart => exact ⟨0, by omega, ⟨by omega⟩, rfl, A3, c3, rfl, ⟨by rw [List.take_zero, List.append_nil]; exact Kd.R_drewN HR4.out _⟩, ⟨pw_below_drewN HB4.out _⟩⟩
      clear HR4 HB4
      case round =>
       obtain ⟨j, hj, HD, rfl, A5, c5, rfl, HR6, HB6⟩ := hrel
       have k35 := (HE.out.below HB6.out).iv.h
       have hcase : j = 0 ∨ j = 1 := by omega
       rcases hcase with rfl | rfl
       · have HB7 := A' (below_alloc HB6.out (.cells #[.int .u8 (high / 16777216)] 5))
         have hle := HB6.out.size
         go_wp2_with (at_builtin; refine Kd.R_append (Kd.int .u8) (w0 := w) w.heap.size (by rfl) (.tmp 41) (.tmp 52) 29 5 (.int .u8 0) 1 rfl Try.underlying29 infoU8 rfl (by decide) (by decide) (.slice A5 (out.length + 0) c5) (out ++ (hiBytes high).take 0) (high / 16777216) [.int .u8 (high / 16777216)] (fun _ => True) (fun _ => False) rfl rfl rfl (fun _ h => h.elim) (fun _ _ => trivial) HR6.out HB6.out hle (by simp only [hiBytes, List.length_append, List.length_take, List.length_cons, List.length_nil]; omega) ?_; intro v8 w8 hR8 hB8 hg8 hat8; obtain ⟨A8, c8, hv8⟩ := Kd.R_slice hR8; rw [show (out ++ (hiBytes high).take 0 ++ [high / 16777216]).length = out.length + 1 by simp [hiBytes]] at hv8; subst hv8; have HR8 := A' (show Kd.R (Kd.int .u8) 5 w8 w.heap.size (fun _ => True) (.slice A8 (out.length + 1) c8) (out ++ (hiBytes high).take 1) from by simpa [hiBytes] using hR8); have HB8 := A' hB8; clear hR8 hB8 hg8 hat8)
         go_roundg 0
         case measure => have := HD.out; omega
         case rel => exact ⟨1, by omega, ⟨by omega⟩, rfl, A8, c8, rfl, HR8, HB8⟩
       · go_wp2
         go_ret
         refine ⟨A5, c5, ?_, ?_, HB6.out⟩
         · rw [HEND.out]; simp [hiBytes]
         · have := HR6.out
           rw [HEND.out]
           simp [hiBytes] at this ⊢
           exact this
    · have HN : 2 ≤ endN low high := by
        have := HK.out
        unfold endN at this ⊢
        repeat' split
        all_goals (first | omega | (split at this <;> omega))
      go_wp2
      go_quiet (fail)
      go_wp2
      go_roundw
      case rel => exact ⟨2, by omega, rfl, rfl, ⟨HN⟩, ⟨Kd.R_drewN HR4.out _⟩, ⟨pw_below_drewN HB4.out _⟩⟩
      case measure => simp [intOf]
  · by_cases ct : low ≤ high / 65536 * 65536
    · have hEN : endN low high = 2 := by
        have := HK.out
        unfold endN at this ⊢
        repeat' split
        all_goals (first | rfl | omega | (split at this <;> omega))
      have hend : out ++ endOf low high = out ++ (hiBytes high).take 2 := by unfold endOf; rw [hEN]
      have HEND := A' hend
      clear hEN hend
      go_wp2
      go_quiet (fail)
      go_wp2
      clear k34 k35 HK
      go_loopg [3, 38] 2 (fun d o i w5 => ∃ (j : Nat), j ≤ 2 ∧ Aside0 (j + d = 2) ∧ i = .int .i64 j ∧ ∃ A5 c5, o = .slice A5 (out.length + j) c5 ∧ Aside0 (Kd.R (Kd.int .u8) 5 w5 w.heap.size (fun _ => True) (.slice A5 (out.length + j) c5) (out ++ (hiBytes high).take j)) ∧ Aside0 (Below w.heap.size w w5))
      case atStart => exact ⟨0, by omega, ⟨by omega⟩, rfl, A3, c3, rfl, ⟨by rw [List.take_zero, List.append_nil]; exact Kd.R_drewN HR4.out _⟩, ⟨pw_below_drewN HB4.out _⟩⟩
      clear HR4 HB4
      case round =>
       obtain ⟨j, hj, HD, rfl, A5, c5, rfl, HR6, HB6⟩ := hrel
       have k35 := (HE.out.below HB6.out).iv.h
       have hcase : j = 0 ∨ j = 1 ∨ j = 2 := by omega
       rcases hcase with rfl | rfl | rfl
       · have HB7 := A' (below_alloc HB6.out (.cells #[.int .u8 (high / 16777216)] 5))
         have hle := HB6.out.size
         go_wp2_with (at_builtin; refine Kd.R_append (Kd.int .u8) (w0 := w) w.heap.size (by rfl) (.tmp 41) (.tmp 52) 29 5 (.int .u8 0) 1 rfl Try.underlying29 infoU8 rfl (by decide) (by decide) (.slice A5 (out.length + 0) c5) (out ++ (hiBytes high).take 0) (high / 16777216) [.int .u8 (high / 16777216)] (fun _ => True) (fun _ => False) rfl rfl rfl (fun _ h => h.elim) (fun _ _ => trivial) HR6.out HB6.out hle (by simp only [hiBytes, List.length_append, List.length_take, List.length_cons, List.length_nil]; omega) ?_; intro v8 w8 hR8 hB8 hg8 hat8; obtain ⟨A8, c8, hv8⟩ := Kd.R_slice hR8; rw [show (out ++ (hiBytes high).take 0 ++ [high / 16777216]).length = out.length + 1 by simp [hiBytes]] at hv8; subst hv8; have HR8 := A' (show Kd.R (Kd.int .u8) 5 w8 w.heap.size (fun _ => True) (.slice A8 (out.length + 1) c8) (out ++ (hiBytes high).take 1) from by simpa [hiBytes] using hR8); have HB8 := A' hB8; clear hR8 hB8 hg8 hat8)
         go_roundg 1
         case measure => have := HD.out; omega
         case rel => exact ⟨1, by omega, ⟨by omega⟩, rfl, A8, c8, rfl, HR8, HB8⟩
       · have HB7 := A' (below_alloc HB6.out (.cells #[.int .u8 (high / 65536 % 256)] 5))
         have hle := HB6.out.size
         go_wp2_with (at_builtin; refine Kd.R_append (Kd.int .u8) (w0 := w) w.heap.size (by rfl) (.tmp 41) (.tmp 52) 29 5 (.int .u8 0) 1 rfl Try.underlying29 infoU8 rfl (by decide) (by decide) (.slice A5 (out.length + 1) c5) (out ++ (hiBytes high).take 1) (high / 65536 % 256) [.int .u8 (high / 65536 % 256)] (fun _ => True) (fun _ => False) rfl rfl rfl (fun _ h => h.elim) (fun _ _ => trivial) HR6.out HB6.out hle (by simp only [hiBytes, List.length_append, List.length_take, List.length_cons, List.length_nil]; omega) ?_; intro v8 w8 hR8 hB8 hg8 hat8; obtain ⟨A8, c8, hv8⟩ := Kd.R_slice hR8; rw [show (out ++ (hiBytes high).take 1 ++ [high / 65536 % 256]).length = out.length + 2 by simp [hiBytes]] at hv8; subst hv8; have HR8 := A' (show Kd.R (Kd.int .u8) 5 w8 w.heap.size (fun _ => True) (.slice A8 (out.length + 2) c8) (out ++ (hiBytes high).take 2) from by simpa [hiBytes] using hR8); have HB8 := A' hB8; clear hR8 hB8 hg8 hat8)
         go_roundg 0
         case measure => have := HD.out; omega
         case rel => exact ⟨2, by omega, ⟨by omega⟩, rfl, A8, c8, rfl, HR8, HB8⟩
       · go_wp2
         go_ret
         refine ⟨A5, c5, ?_, ?_, HB6.out⟩
         · rw [HEND.out]; simp [hiBytes]
         · have := HR6.out
           rw [HEND.out]
           simp [hiBytes] at this ⊢
           exact this
    · have HN : 3 ≤ endN low high := by
        have := HK.out
        unfold endN at this ⊢
        repeat' split
        all_goals (first | omega | (split at this <;> omega))
      go_wp2
      go_quiet (fail)
      go_wp2
      go_roundw
      case rel => exact ⟨3, by omega, rfl, rfl, ⟨HN⟩, ⟨Kd.R_drewN HR4.out _⟩, ⟨pw_below_drewN HB4.out _⟩⟩
      case measure => simp [intOf]
  · by_cases ct : low ≤ high / 256 * 256
    · have hEN : endN low high = 3 := by
        have := HK.out
        unfold endN at this ⊢
        repeat' split
        all_goals (first | rfl | omega | (split at this <;> omega))
      have hend : out ++ endOf low high = out ++ (hiBytes high).take 3 := by unfold endOf; rw [hEN]
      have HEND := A' hend
      clear hEN hend
      go_wp2
      go_quiet (fail)
      go_wp2
      clear k34 k35 HK
      go_loopg [3, 38] 3 (fun d o i w5 => ∃ (j : Nat), j ≤ 3 ∧ Aside0 (j + d = 3) ∧ i = .int .i64 j ∧ ∃ A5 c5, o = .slice A5 (out.length + j) c5 ∧ Aside0 (Kd.R (Kd.int .u8) 5 w5 w.heap.size (fun _ => True) (.slice A5 (out.length + j) c5) (out ++ (hiBytes high).take j)) ∧ Aside0 (Below w.heap.size w w5))
      case atStart => exact ⟨0, by omega, ⟨by omega⟩, rfl, A3, c3, rfl, ⟨by rw [List.take_zero, List.append_nil]; exact Kd.R_drewN HR4.out _⟩, ⟨pw_below_drewN HB4.out _⟩⟩
      clear HR4 HB4
      case round =>
       obtain ⟨j, hj, HD, rfl, A5, c5, rfl, HR6, HB6⟩ := hrel
       have k35 := (HE.out.below HB6.out).iv.h
       have hcase : j = 0 ∨ j = 1 ∨ j = 2 ∨ j = 3 := by omega
       rcases hcase with rfl | rfl | rfl | rfl
       · have HB7 := A' (below_alloc HB6.out (.cells #[.int .u8 (high / 16777216)] 5))
         have hle := HB6.out.size
         go_wp2_with (at_builtin; refine Kd.R_append (Kd.int .u8) (w0 := w) w.heap.size (by rfl) (.tmp 41) (.tmp 52) 29 5 (.int .u8 0) 1 rfl Try.underlying29 infoU8 rfl (by decide) (by decide) (.slice A5 (out.length + 0) c5) (out ++ (hiBytes high).take 0) (high / 16777216) [.int .u8 (high / 16777216)] (fun _ => True) (fun _ => False) rfl rfl rfl (fun _ h => h.elim) (fun _ _ => trivial) HR6.out HB6.out hle (by simp only [hiBytes, List.length_append, List.length_take, List.length_cons, List.length_nil]; omega) ?_; intro v8 w8 hR8 hB8 hg8 hat8; obtain ⟨A8, c8, hv8⟩ := Kd.R_slice hR8; rw [show (out ++ (hiBytes high).take 0 ++ [high / 16777216]).length = out.length + 1 by simp [hiBytes]] at hv8; subst hv8; have HR8 := A' (show Kd.R (Kd.int .u8) 5 w8 w.heap.size (fun _ => True) (.slice A8 (out.length + 1) c8) (out ++ (hiBytes high).take 1) from by simpa [hiBytes] using hR8); have HB8 := A' hB8; clear hR8 hB8 hg8 hat8)
         go_roundg 2
         case measure => have := HD.out; omega
         case rel => exact ⟨1, by omega, ⟨by omega⟩, rfl, A8, c8, rfl, HR8, HB8⟩
       · have HB7 := A' (below_alloc HB6.out (.cells #[.int .u8 (high / 65536 % 256)] 5))
         have hle := HB6.out.size
         go_wp2_with (at_builtin; refine Kd.R_append (Kd.int .u8) (w0 := w) w.heap.size (by rfl) (.tmp 41) (.tmp 52) 29 5 (.int .u8 0) 1 rfl Try.underlying29 infoU8 rfl (by decide) (by decide) (.slice A5 (out.length + 1) c5) (out ++ (hiBytes high).take 1) (high / 65536 % 256) [.int .u8 (high / 65536 % 256)] (fun _ => True) (fun _ => False) rfl rfl rfl (fun _ h => h.elim) (fun _ _ => trivial) HR6.out HB6.out hle (by simp only [hiBytes, List.length_append, List.length_take, List.length_cons, List.length_nil]; omega) ?_; intro v8 w8 hR8 hB8 hg8 hat8; obtain ⟨A8, c8, hv8⟩ := Kd.R_slice hR8; rw [show (out ++ (hiBytes high).take 1 ++ [high / 65536 % 256]).length = out.length + 2 by simp [hiBytes]] at hv8; subst hv8; have HR8 := A' (show Kd.R (Kd.int .u8) 5 w8 w.heap.size (fun _ => True) (.slice A8 (out.length + 2) c8) (out ++ (hiBytes high).take 2) from by simpa [hiBytes] using hR8); have HB8 := A' hB8; clear hR8 hB8 hg8 hat8)
         go_roundg 1
         case measure => have := HD.out; omega
         case rel => exact ⟨2, by omega, ⟨by omega⟩, rfl, A8, c8, rfl, HR8, HB8⟩
       · have HB7 := A' (below_alloc HB6.out (.cells #[.int .u8 (high / 256 % 256)] 5))
         have hle := HB6.out.size
         go_wp2_with (at_builtin; refine Kd.R_append (Kd.int .u8) (w0 := w) w.heap.size (by rfl) (.tmp 41) (.tmp 52) 29 5 (.int .u8 0) 1 rfl Try.underlying29 infoU8 rfl (by decide) (by decide) (.slice A5 (out.length + 2) c5) (out ++ (hiBytes high).take 2) (high / 256 % 256) [.int .u8 (high / 256 % 256)] (fun _ => True) (fun _ => False) rfl rfl rfl (fun _ h => h.elim) (fun _ _ => trivial) HR6.out HB6.out hle (by simp only [hiBytes, List.length_append, List.length_take, List.length_cons, List.length_nil]; omega) ?_; intro v8 w8 hR8 hB8 hg8 hat8; obtain ⟨A8, c8, hv8⟩ := Kd.R_slice hR8; rw [show (out ++ (hiBytes high).take 2 ++ [high / 256 % 256]).length = out.length + 3 by simp [hiBytes]] at hv8; subst hv8; have HR8 := A' (show Kd.R (Kd.int .u8) 5 w8 w.heap.size (fun _ => True) (.slice A8 (out.length + 3) c8) (out ++ (hiBytes high).take 3) from by simpa [hiBytes] using hR8); have HB8 := A' hB8; clear hR8 hB8 hg8 hat8)
         go_roundg 0
         case measure => have := HD.out; omega
         case rel => exact ⟨3, by omega, ⟨by omega⟩, rfl, A8, c8, rfl, HR8, HB8⟩
       · go_wp2
         go_ret
         refine ⟨A5, c5, ?_, ?_, HB6.out⟩
         · rw [HEND.out]; simp [hiBytes]
         · have := HR6.out
           rw [HEND.out]
           simp [hiBytes] at this ⊢
           exact this
    · have HN : 4 ≤ endN low high := by
        have := HK.out
        unfold endN at this ⊢
        repeat' split
        all_goals (first | omega | (split at this <;> omega))
      go_wp2
      go_quiet (fail)
      go_wp2
      go_roundw
      case rel => exact ⟨4, by omega, rfl, rfl, ⟨HN⟩, ⟨Kd.R_drewN HR4.out _⟩, ⟨pw_below_drewN HB4.out _⟩⟩
      case measure => simp [intOf]
  · by_cases ct : low ≤ high / 1 * 1
    · have hEN : endN low high = 4 := by
        have := HK.out
        unfold endN at this ⊢
        repeat' split
        all_goals (first | rfl | omega | (split at this <;> omega))
      have hend : out ++ endOf low high = out ++ (hiBytes high).take 4 := by unfold endOf; rw [hEN]
      have HEND := A' hend
      clear hEN hend
      go_wp2
      go_quiet (fail)
      go_wp2
      clear k34 k35 HK
      go_loopg [3, 38] 4 (fun d o i w5 => ∃ (j : Nat), j ≤ 4 ∧ Aside0 (j + d = 4) ∧ i = .int .i64 j ∧ ∃ A5 c5, o = .slice A5 (out.length + j) c5 ∧ Aside0 (Kd.R (Kd.int .u8) 5 w5 w.heap.size (fun _ => True) (.slice A5 (out.length + j) c5) (out ++ (hiBytes high).take j)) ∧ Aside0 (Below w.heap.size w w5))
      case atStart => exact ⟨0, by omega, ⟨by omega⟩, rfl, A3, c3, rfl, ⟨by rw [List.take_zero, List.append_nil]; exact Kd.R_drewN HR4.out _⟩, ⟨pw_below_drewN HB4.out _⟩⟩
      clear HR4 HB4
      case round =>
       obtain ⟨j, hj, HD, rfl, A5, c5, rfl, HR6, HB6⟩ := hrel
       have k35 := (HE.out.below HB6.out).iv.h
       have hcase : j = 0 ∨ j = 1 ∨ j = 2 ∨ j = 3 ∨ j = 4 := by omega
       rcases hcase with rfl | rfl | rfl | rfl | rfl
       · have HB7 := A' (below_alloc HB6.out (.cells #[.int .u8 (high / 16777216)] 5))
         have hle := HB6.out.size
         go_wp2_with (at_builtin; refine Kd.R_append (Kd.int .u8) (w0 := w) w.heap.size (by rfl) (.tmp 41) (.tmp 52) 29 5 (.int .u8 0) 1 rfl Try.underlying29 infoU8 rfl (by decide) (by decide) (.slice A5 (out.length + 0) c5) (out ++ (hiBytes high).take 0) (high / 16777216) [.int .u8 (high / 16777216)] (fun _ => True) (fun _ => False) rfl rfl rfl (fun _ h => h.elim) (fun _ _ => trivial) HR6.out HB6.out hle (by simp only [hiBytes, List.length_append, List.length_take, List.length_cons, List.length_nil]; omega) ?_; intro v8 w8 hR8 hB8 hg8 hat8; obtain ⟨A8, c8, hv8⟩ := Kd.R_slice hR8; rw [show (out ++ (hiBytes high).take 0 ++ [high / 16777216]).length = out.length + 1 by simp [hiBytes]] at hv8; subst hv8; have HR8 := A' (show Kd.R (Kd.int .u8) 5 w8 w.heap.size (fun _ => True) (.slice A8 (out.length + 1) c8) (out ++ (hiBytes high).take 1) from by simpa [hiBytes] using hR8); have HB8 := A' hB8; clear hR8 hB8 hg8 hat8)
         go_roundg 3
         case measure => have := HD.out; omega
         case rel => exact ⟨1, by omega, ⟨by omega⟩, rfl, A8, c8, rfl, HR8, HB8⟩
       · have HB7 := A' (below_alloc HB6.out (.cells #[.int .u8 (high / 65536 % 256)] 5))
         have hle := HB6.out.size
         go_wp2_with (at_builtin; refine Kd.R_append (Kd.int .u8) (w0 := w) w.heap.size (by rfl) (.tmp 41) (.tmp 52) 29 5 (.int .u8 0) 1 rfl Try.underlying29 infoU8 rfl (by decide) (by decide) (.slice A5 (out.length + 1) c5) (out ++ (hiBytes high).take 1) (high / 65536 % 256) [.int .u8 (high / 65536 % 256)] (fun _ => True) (fun _ => False) rfl rfl rfl (fun _ h => h.elim) (fun _ _ => trivial) HR6.out HB6.out hle (by simp only [hiBytes, List.length_append, List.length_take, List.length_cons, List.length_nil]; omega) ?_; intro v8 w8 hR8 hB8 hg8 hat8; obtain ⟨A8, c8, hv8⟩ := Kd.R_slice hR8; rw [show (out ++ (hiBytes high).take 1 ++ [high / 65536 % 256]).length = out.length + 2 by simp [hiBytes]] at hv8; subst hv8; have HR8 := A' (show Kd.R (Kd.int .u8) 5 w8 w.heap.size (fun _ => True) (.slice A8 (out.length + 2) c8) (out ++ (hiBytes high).take 2) from by simpa [hiBytes] using hR8); have HB8 := A' hB8; clear hR8 hB8 hg8 hat8)
         go_roundg 2
         case measure => have := HD.out; omega
         case rel => exact ⟨2, by omega, ⟨by omega⟩, rfl, A8, c8, rfl, HR8, HB8⟩
       · have HB7 := A' (below_alloc HB6.out (.cells #[.int .u8 (high / 256 % 256)] 5))
         have hle := HB6.out.size
         go_wp2_with (at_builtin; refine Kd.R_append (Kd.int .u8) (w0 := w) w.heap.size (by rfl) (.tmp 41) (.tmp 52) 29 5 (.int .u8 0) 1 rfl Try.underlying29 infoU8 rfl (by decide) (by decide) (.slice A5 (out.length + 2) c5) (out ++ (hiBytes high).take 2) (high / 256 % 256) [.int .u8 (high / 256 % 256)] (fun _ => True) (fun _ => False) rfl rfl rfl (fun _ h => h.elim) (fun _ _ => trivial) HR6.out HB6.out hle (by simp only [hiBytes, List.length_append, List.length_take, List.length_cons, List.length_nil]; omega) ?_; intro v8 w8 hR8 hB8 hg8 hat8; obtain ⟨A8, c8, hv8⟩ := Kd.R_slice hR8; rw [show (out ++ (hiBytes high).take 2 ++ [high / 256 % 256]).length = out.length + 3 by simp [hiBytes]] at hv8; subst hv8; have HR8 := A' (show Kd.R (Kd.int .u8) 5 w8 w.heap.size (fun _ => True) (.slice A8 (out.length + 3) c8) (out ++ (hiBytes high).take 3) from by simpa [hiBytes] using hR8); have HB8 := A' hB8; clear hR8 hB8 hg8 hat8)
         go_roundg 1
         case measure => have := HD.out; omega
         case rel => exact ⟨3, by omega, ⟨by omega⟩, rfl, A8, c8, rfl, HR8, HB8⟩
       · have HB7 := A' (below_alloc HB6.out (.cells #[.int .u8 (high % 256)] 5))
         have hle := HB6.out.size
         go_wp2_with (at_builtin; refine Kd.R_append (Kd.int .u8) (w0 := w) w.heap.size (by rfl) (.tmp 41) (.tmp 52) 29 5 (.int .u8 0) 1 rfl Try.underlying29 infoU8 rfl (by decide) (by decide) (.slice A5 (out.length + 3) c5) (out ++ (hiBytes high).take 3) (high % 256) [.int .u8 (high % 256)] (fun _ => True) (fun _ => False) rfl rfl rfl (fun _ h => h.elim) (fun _ _ => trivial) HR6.out HB6.out hle (by simp only [hiBytes, List.length_append, List.length_take, List.length_cons, List.length_nil]; omega) ?_; intro v8 w8 hR8 hB8 hg8 hat8; obtain ⟨A8, c8, hv8⟩ := Kd.R_slice hR8; rw [show (out ++ (hiBytes high).take 3 ++ [high % 256]).length = out.length + 4 by simp [hiBytes]] at hv8; subst hv8; have HR8 := A' (show Kd.R (Kd.int .u8) 5 w8 w.heap.size (fun _ => True) (.slice A8 (out.length + 4) c8) (out ++ (hiBytes high).take 4) from by simpa [hiBytes] using hR8); have HB8 := A' hB8; clear hR8 hB8 hg8 hat8)
         go_roundg 0
         case measure => have := HD.out; omega
         case rel => exact ⟨4, by omega, ⟨by omega⟩, rfl, A8, c8, rfl, HR8, HB8⟩
       · go_wp2
         go_ret
         refine ⟨A5, c5, ?_, ?_, HB6.out⟩
         · rw [HEND.out]; simp [hiBytes]
         · have := HR6.out
           rw [HEND.out]
           simp [hiBytes] at this ⊢
           exact this
    · exact absurd ct (by omega)
theorem end_calls (w : World) (S : Nat → Prop) (g : Nat) (s : ES) (hE : EncAt w S g s) (hok : s.ok) (hlen : s.out.length ≤ 1099511627880) :
 Calls Try.prog 29 #[.pointer (some ⟨g, 0, none⟩)] w (EndPost w s.end_) := by
 obtain ⟨A, c, vo, hR⟩ := hE
 exact end_row w S g s.kind A c s.st s.low s.high vo s.out hR hok.l hok.lh hok.h hlen
end Go.Proofs.Ytkfejicdjpffcaa.End
namespace Go.Proofs.Ytkfejicdjpffcaa.Snc
open Go Go.RowKit YtkfejicdjpffcaaW PrintWords PrintLast PrintMore Aid HandAid Cod1 Cod2 Cod3 Ytkfejicdjpffcaa.Mod Enc Mods EncAt Put End U
/-- A new encoder's state. -/
def newES (kind : Int) (st : List Int) : ES := ⟨kind, st, 0, 4294967295, []⟩
theorem newES_ok {kind : Int} {st : List Int} (h : okModel kind st) : (newES kind st).ok := ⟨h, show (0 : Int) ≤ 0 by decide, show (0 : Int) ≤ 4294967295 by decide, show (4294967295 : Int) ≤ 4294967295 by decide, show (0 : Int) / 16777216 ≠ 4294967295 / 16777216 by decide⟩
/-- The blocks from B on, as far as they go. -/
def Since (B : Nat) (W : World) (k : Nat) : Prop := B ≤ k ∧ k < W.heap.size
theorem new_enc (A : Option Addr) (c : Nat) (kind : Int) (st : List Int) (w : World) (hC : Kd.C (Kd.int .i64) w A st.length st) (hc : st.length ≤ c) (hm : okModel kind st) :
 Calls Try.prog 23 #[.agg #[.int .i64 kind, .slice A st.length c]] w fun e w' => ∃ g, e = .returned (.tuple #[.pointer (some ⟨g, 0, none⟩), .int .i64 0]) ∧ EncAt w' (Since w.heap.size w') g (newES kind st) ∧ Below w.heap.size w w' := by
 refine (newenc_calls A c kind st w hC hc hm).mono ?_
 rintro e w' ⟨g, rfl, hE, hb⟩
 refine ⟨g, rfl, ?_, hb⟩
 obtain ⟨A', n', c', vo, hh, hs, ho⟩ := hE.ex
 obtain ⟨hn, _, _⟩ := Kd.R_reads' hs
 subst hn
 exact ⟨A', c', vo, hh, Kd.R_lower hs (Nat.zero_le _), Kd.R_lower ho (Nat.zero_le _), hE.og⟩
end Go.Proofs.Ytkfejicdjpffcaa.Snc
namespace Go.Proofs.Ytkfejicdjpffcaa.Dec
open Go Go.RowKit YtkfejicdjpffcaaW PrintWords PrintLast PrintMore Aid HandAid Cod1 Cod2 Cod3 Ytkfejicdjpffcaa.Mod Enc Mods EncAt Put End Snc
theorem u64_orb {x y : Int} (h : 0 ≤ x) (hm : x % 256 = 0) (h' : x < 2 ^ 64) (hy : 0 ≤ y) (hy' : y < 256) : Go.bits .or .u64 x y = x + y := bits_join .u64 64 (by decide) wraps_u64 8 x y h hm h' hy (by omega) (by omega)
/-- A model's copy. -/
def MPost (w : World) (kind : Int) (st : List Int) (e : Ending) (w' : World) : Prop := ∃ A c, e = .returned (.agg #[.int .i64 kind, .slice A st.length c]) ∧ Kd.R (Kd.int .i64) 3 w' w.heap.size (fun _ => True) (.slice A st.length c) st ∧ Below w.heap.size w w'
/-- A decoder's state: how many bytes beyond the code were taken is a's business. -/
structure DS where
 kind : Int
 st : List Int
 low : Int
 high : Int
 code : List Int
 a : Nat
 value : Int
 ended : Bool
/-- A byte of the code, 0 behind its end. -/
def byteOf (code : List Int) (i : Nat) : Int := if i < code.length then rd code i else 0
/-- The value behind n shifts. -/
def shV (code : List Int) : Nat → Int → Nat → Int
 | 0, v, _ => v
 | n + 1, v, a => shV code n (v % 16777216 * 256 + byteOf code a) (a + 1)
structure DS.ok (s : DS) : Prop where
 m : okModel s.kind s.st
 l : 0 ≤ s.low
 lh : s.low ≤ s.high
 h : s.high ≤ 4294967295
 n : s.low / 16777216 ≠ s.high / 16777216
 v0 : 0 ≤ s.value
 v1 : s.value ≤ 4294967295
 by_ : Bytes s.code
 len : s.code.length ≤ 1099511627776
 be : s.a - s.code.length ≤ 4
def DS.mid (s : DS) (i : Nat) : Int := midOf s.low s.high (likely s.kind (rd s.st i))
def DS.bit (s : DS) (i : Nat) : Int := if s.value ≤ s.mid i then 1 else 0
def DS.norm (s : DS) (i : Nat) : List Int × Int × Int := normE 4 (cutL s.low (s.mid i) (s.bit i)) (cutH s.high (s.mid i) (s.bit i))
/-- The state behind a bit that is got. -/
def DS.next (s : DS) (i : Nat) : DS := ⟨s.kind, s.st.set i (after s.kind (rd s.st i) (s.bit i)), (s.norm i).2.1, (s.norm i).2.2, s.code, s.a + (s.norm i).1.length, shV s.code (s.norm i).1.length s.value s.a, false⟩
def DS.dead (s : DS) : DS := { s with ended := true }
/-- Get: the state, the bit, the error. -/
def DS.getI (s : DS) (i : Int) : DS × Int × Int :=
 if 0 ≤ i ∧ i < s.st.length then (if s.ended = true then (s, 0, 6) else if s.a + (s.norm i.toNat).1.length - s.code.length > 4 then (s.dead, 0, 6) else (s.next i.toNat, s.bit i.toNat, 0)) else (s, 0, 2)
theorem byteOf_range {code : List Int} (h : Bytes code) (i : Nat) : 0 ≤ byteOf code i ∧ byteOf code i ≤ 255 := by
 unfold byteOf
 split
 · exact bytes_rd h (by assumption)
 · omega
theorem shV_range {code : List Int} (h : Bytes code) : ∀ (n : Nat) (v : Int) (a : Nat), 0 ≤ v → v ≤ 4294967295 → 0 ≤ shV code n v a ∧ shV code n v a ≤ 4294967295
 | 0, v, a, h0, h1 => ⟨h0, h1⟩
 | n + 1, v, a, h0, h1 => by
   have := byteOf_range h a
   exact shV_range h n _ _ (by omega) (by omega)
theorem shV_succ (code : List Int) : ∀ (n : Nat) (v : Int) (a : Nat), shV code (n + 1) v a = shV code n v a % 16777216 * 256 + byteOf code (a + n)
 | 0, v, a => rfl
 | n + 1, v, a => by
   show shV code (n + 1) (v % 16777216 * 256 + byteOf code a) (a + 1) = _
   rw [shV_succ code n, show a + 1 + n = a + (n + 1) by omega]
   rfl
theorem DS.at_ {s : DS} (h : s.ok) {i : Nat} (hi : i < s.st.length) : okState s.kind (rd s.st i) := h.m.2.2 _ (rd_mem (by omega) (by omega))
theorem DS.mid_ {s : DS} (h : s.ok) {i : Nat} (hi : i < s.st.length) : s.low ≤ s.mid i ∧ s.mid i < s.high := by
 have hr := likely_range _ _ (DS.at_ h hi)
 have hm := mid_range s.low s.high _ h.lh hr.1 hr.2
 have hlt : s.low < s.high := by
  have := h.lh
  rcases Int.lt_or_le s.low s.high with c | c
  · exact c
  · exact absurd (by rw [show s.low = s.high by omega]) h.n
 exact ⟨hm.1, hm.2.1 hlt⟩
theorem DS.cut_ {s : DS} (h : s.ok) {i : Nat} (hi : i < s.st.length) : 0 ≤ cutL s.low (s.mid i) (s.bit i) ∧ cutL s.low (s.mid i) (s.bit i) ≤ cutH s.high (s.mid i) (s.bit i) ∧ cutH s.high (s.mid i) (s.bit i) ≤ 4294967295 := by
 have hm := DS.mid_ h hi
 have := h.l
 have := h.h
 unfold cutL cutH
 split <;> omega
theorem DS.bit_ (s : DS) (i : Nat) : s.bit i = 0 ∨ s.bit i = 1 := by unfold DS.bit; split <;> simp
theorem DS.getI_ok {s : DS} (h : s.ok) (i : Int) : (s.getI i).1.ok := by
 unfold DS.getI
 by_cases c : 0 ≤ i ∧ i < s.st.length
 · rw [if_pos c]
   by_cases e : s.ended = true
   · rw [if_pos e]
     exact h
   rw [if_neg e]
   by_cases b : s.a + (s.norm i.toNat).1.length - s.code.length > 4
   · rw [if_pos b]
     exact ⟨h.m, h.l, h.lh, h.h, h.n, h.v0, h.v1, h.by_, h.len, h.be⟩
   · rw [if_neg b]
     have hi : i.toNat < s.st.length := by omega
     obtain ⟨h0, h1, h2⟩ := DS.cut_ h hi
     have hd := norm_done 4 _ _ h0 h1 h2 (by rw [show (256 : Int) ^ 4 = 4294967296 from rfl]; omega)
     have hv := shV_range h.by_ (s.norm i.toNat).1.length s.value s.a h.v0 h.v1
     refine ⟨⟨h.m.1, ?_, fun x hx => ?_⟩, hd.2.1, hd.2.2.1, hd.2.2.2, hd.1, hv.1, hv.2, h.by_, h.len, by show s.a + (s.norm i.toNat).1.length - s.code.length ≤ 4; omega⟩
     · show (s.st.set _ _).length ≤ 8192
       rw [List.length_set]
       exact h.m.2.1
     · rcases List.mem_or_eq_of_mem_set hx with hx | rfl
       · exact h.m.2.2 x hx
       · exact after_ok _ _ _ (DS.at_ h hi) (DS.bit_ s _)
 · rw [if_neg c]
   exact h
/-- A decoder's cells. -/
def dec42 (kind : Int) (v : Value) (low high : Int) (vc : Value) (a value be : Int) (ended real : Bool) : Array Value := #[.int .i64 kind, v, .int .i64 2048, .int .i64 1792, .int .i64 1568, .int .i64 1372, .int .i64 1201, .int .i64 1051, .int .i64 920, .int .i64 805, .int .i64 705, .int .i64 617, .int .i64 540, .int .i64 473, .int .i64 414, .int .i64 363, .int .i64 318, .int .i64 279, .int .i64 245, .int .i64 215, .int .i64 189, .int .i64 166, .int .i64 146, .int .i64 128, .int .i64 112, .int .i64 98, .int .i64 86, .int .i64 76, .int .i64 67, .int .i64 59, .int .i64 52, .int .i64 46, .int .i64 41, .int .i64 36, .int .u64 low, .int .u64 high, vc, .int .i64 a, .int .u64 value, .int .i64 be, .bool ended, .bool real]
structure DecRow (W : World) (S : Nat → Prop) (g : Nat) (kind : Int) (A : Option Addr) (c : Nat) (st : List Int) (low high : Int) (vc : Value) (code : List Int) (a : Nat) (value : Int) (ended : Bool) : Prop where
 b : W.heap[g]? = some (.cells (dec42 kind (.slice A st.length c) low high vc a value ((a - code.length : Nat) : Int) ended true) 121 (0, 0))
 s : Kd.R (Kd.int .i64) 3 W 0 S (.slice A st.length c) st
 o : Kd.R (Kd.int .u8) 5 W 0 S vc code
 g : S g
section
variable {W W' : World} {S S' : Nat → Prop} {g : Nat} {kind : Int} {A : Option Addr} {c : Nat} {st : List Int} {low high : Int} {vc : Value} {code : List Int} {a : Nat} {value : Int} {ended : Bool}
theorem DecRow.kept (h : DecRow W S g kind A c st low high vc code a value ended) (hk : Mods W W' S') (hne : ∀ k, S k → ¬ S' k) : DecRow W' S g kind A c st low high vc code a value ended :=
 ⟨blk_kept h.b hk.kept (hne g h.g), Kd.R_kept h.s hk.kept hne, Kd.R_kept h.o hk.kept hne, h.g⟩
theorem DecRow.below (h : DecRow W S g kind A c st low high vc code a value ended) (hb : Below W.heap.size W W') : DecRow W' S g kind A c st low high vc code a value ended :=
 ⟨blk_below h.b hb, Kd.R_below h.s hb, Kd.R_below h.o hb, h.g⟩
theorem DecRow.drewN (h : DecRow W S g kind A c st low high vc code a value ended) (m : Nat) : DecRow (W.drewN m) S g kind A c st low high vc code a value ended := h.below (pw_below_drewN (Below.refl _ _) m)
theorem DecRow.drew (h : DecRow W S g kind A c st low high vc code a value ended) : DecRow W.drew S g kind A c st low high vc code a value ended := h.below (below_drew (Below.refl _ _))
theorem DecRow.mono (h : DecRow W S g kind A c st low high vc code a value ended) (hs : ∀ k, S k → S' k) : DecRow W S' g kind A c st low high vc code a value ended :=
 ⟨h.b, Kd.R_mono h.s hs, Kd.R_mono h.o hs, hs g h.g⟩
theorem DecRow.iv (h : DecRow W S g kind A c st low high vc code a value ended) : Iv W g kind A st.length c low high :=
 ⟨(blk_cell h.b 0).trans rfl, (blk_cell h.b 1).trans rfl, range_of (r := [.int .u64 low, .int .u64 high, vc, .int .i64 a, .int .u64 value, .int .i64 ((a - code.length : Nat) : Int), .bool ended, .bool true]) (by rw [qlist]; exact h.b), (blk_cell h.b 34).trans rfl, (blk_cell h.b 35).trans rfl, fun i => blk_frozen h.b i⟩
theorem DecRow.c36 (h : DecRow W S g kind A c st low high vc code a value ended) : W.cell? ⟨g, 36, none⟩ = some vc := (blk_cell h.b 36).trans rfl
theorem DecRow.c37 (h : DecRow W S g kind A c st low high vc code a value ended) : W.cell? ⟨g, 37, none⟩ = some (.int .i64 a) := (blk_cell h.b 37).trans rfl
theorem DecRow.c38 (h : DecRow W S g kind A c st low high vc code a value ended) : W.cell? ⟨g, 38, none⟩ = some (.int .u64 value) := (blk_cell h.b 38).trans rfl
theorem DecRow.c39 (h : DecRow W S g kind A c st low high vc code a value ended) : W.cell? ⟨g, 39, none⟩ = some (.int .i64 ((a - code.length : Nat) : Int)) := (blk_cell h.b 39).trans rfl
theorem DecRow.c40 (h : DecRow W S g kind A c st low high vc code a value ended) : W.cell? ⟨g, 40, none⟩ = some (.bool ended) := (blk_cell h.b 40).trans rfl
theorem DecRow.c41 (h : DecRow W S g kind A c st low high vc code a value ended) : W.cell? ⟨g, 41, none⟩ = some (.bool true) := (blk_cell h.b 41).trans rfl
theorem DecRow.fz (h : DecRow W S g kind A c st low high vc code a value ended) (i : Nat) : W.frozen? ⟨g, i, none⟩ = false := blk_frozen h.b i
theorem DecRow.cell (h : DecRow W S g kind A c st low high vc code a value ended) {i : Nat} (hi : i < st.length) : ∃ b, A = some ⟨b, 0, none⟩ ∧ W.cell? ⟨b, i, none⟩ = some (.int .i64 (rd st i)) ∧ W.frozen? ⟨b, i, none⟩ = false ∧ b ≠ g := by
 obtain ⟨b, cap, hv, _, _, cells, hc⟩ := Kd.R_form h.s (by omega)
 injection hv with hA _ hcap
 subst hA hcap
 have h1 := Kd.R_cell (0 : Int) h.s (i : Int) (by omega) (by omega)
 have hne : b ≠ g := blk_ne hc h.b (by decide)
 exact ⟨b, rfl, h1.1, h1.2, hne⟩
theorem DecRow.put (h : DecRow W S g kind A c st low high vc code a value ended) (j : Nat) (u : Value) {kind' low' high' value' : Int} {a' : Nat} {ended' : Bool} (e : (dec42 kind (.slice A st.length c) low high vc a value ((a - code.length : Nat) : Int) ended true).setIfInBounds j u = dec42 kind' (.slice A st.length c) low' high' vc a' value' ((a' - code.length : Nat) : Int) ended' true) : DecRow (W.setCell ⟨g, j, none⟩ u) S g kind' A c st low' high' vc code a' value' ended' :=
 ⟨blk_put h.b j u e, Kd.R_set h.s h.b (by decide) _ _, Kd.R_set h.o h.b (by decide) _ _, h.g⟩
theorem DecRow.cut (h : DecRow W S g kind A c st low high vc code a value ended) (bit mid : Int) : DecRow (cutW W g bit mid) S g kind A c st (cutL low mid bit) (cutH high mid bit) vc code a value ended := by
 unfold cutW cutL cutH
 split
 · exact h.put 35 _ rfl
 · exact h.put 34 _ rfl
theorem DecRow.lost (h : DecRow W S g kind A c st low high vc code a value ended) (l' h' : Int) : DecRow ((W.setCell ⟨g, 34, none⟩ (.int .u64 l')).setCell ⟨g, 35, none⟩ (.int .u64 h')) S g kind A c st l' h' vc code a value ended :=
 DecRow.put (h.put (low' := l') 34 (.int .u64 l') rfl) 35 _ rfl
theorem DecRow.setst {b : Nat} (h : DecRow W S g kind (some ⟨b, 0, none⟩) c st low high vc code a value ended) {i : Nat} (hi : i < st.length) (x : Int) : DecRow (W.setCell ⟨b, i, none⟩ (.int .i64 x)) S g kind (some ⟨b, 0, none⟩) c (st.set i x) low high vc code a value ended := by
 obtain ⟨b', hA, _, _, hne⟩ := h.cell hi
 injection hA with hA
 injection hA with hA _ _
 subst hA
 obtain ⟨cells, hty⟩ := Kd.R_typed h.s b (by simp [Value.ownBlock])
 have hp := (Kd.R_put (enc := Value.int .i64) h.s (i : Int) x).1
 rw [Int.toNat_natCast] at hp
 have hl : (st.set i x).length = st.length := List.length_set
 refine ⟨?_, ?_, Kd.R_set h.o hty (by decide) _ _, h.g⟩
 · rw [hl]
   exact blk_far h.b (Ne.symm hne) _
 · rw [hl]
   exact hp
/-- A shift, where the code goes on. -/
theorem DecRow.adv (h : DecRow W S g kind A c st low high vc code a value ended) (ha : a < code.length) (v : Int) : DecRow ((W.setCell ⟨g, 37, none⟩ (.int .i64 ((a : Int) + 1))).setCell ⟨g, 38, none⟩ (.int .u64 v)) S g kind A c st low high vc code (a + 1) v ended := by
 have e1 : a + 1 - code.length = a - code.length := by omega
 exact DecRow.put (h.put (a' := a + 1) 37 (.int .i64 ((a : Int) + 1)) (by rw [e1]; rfl)) 38 _ rfl
/-- A shift behind the code's end. -/
theorem DecRow.advB (h : DecRow W S g kind A c st low high vc code a value ended) (ha : ¬ a < code.length) (v : Int) : DecRow (((W.setCell ⟨g, 39, none⟩ (.int .i64 (((a - code.length : Nat) : Int) + 1))).setCell ⟨g, 37, none⟩ (.int .i64 ((a : Int) + 1))).setCell ⟨g, 38, none⟩ (.int .u64 v)) S g kind A c st low high vc code (a + 1) v ended := by
 have e1 : ((a + 1 - code.length : Nat) : Int) = ((a - code.length : Nat) : Int) + 1 := by omega
 have h1 : (W.setCell ⟨g, 39, none⟩ (.int .i64 (((a - code.length : Nat) : Int) + 1))).heap[g]? = some (.cells (dec42 kind (.slice A st.length c) low high vc a value (((a - code.length : Nat) : Int) + 1) ended true) 121 (0, 0)) := blk_put h.b 39 _ rfl
 have h2 := blk_put (cs' := dec42 kind (.slice A st.length c) low high vc ((a : Int) + 1) value (((a - code.length : Nat) : Int) + 1) ended true) h1 37 (.int .i64 ((a : Int) + 1)) rfl
 have h3 := blk_put (cs' := dec42 kind (.slice A st.length c) low high vc ((a : Int) + 1) v (((a - code.length : Nat) : Int) + 1) ended true) h2 38 (.int .u64 v) rfl
 refine ⟨?_, Kd.R_set (Kd.R_set (Kd.R_set h.s h.b (by decide) _ _) h1 (by decide) _ _) h2 (by decide) _ _, Kd.R_set (Kd.R_set (Kd.R_set h.o h.b (by decide) _ _) h1 (by decide) _ _) h2 (by decide) _ _, h.g⟩
 rw [e1]
 exact h3
end
def ShiftPost (w : World) (S : Nat → Prop) (g : Nat) (kind : Int) (A : Option Addr) (c : Nat) (st : List Int) (low high : Int) (vc : Value) (code : List Int) (a : Nat) (value : Int) (ended : Bool) (e : Ending) (w' : World) : Prop :=
 e = .returned (.tuple #[]) ∧ DecRow w' S g kind A c st low high vc code (a + 1) (value % 16777216 * 256 + byteOf code a) ended ∧ Mods w w' S
set_option maxHeartbeats 2000000 in
theorem shift_row (w : World) (S : Nat → Prop) (g : Nat) (kind : Int) (A : Option Addr) (c : Nat) (st : List Int) (low high : Int) (vc : Value) (code : List Int) (a : Nat) (value : Int) (ended : Bool) (hE : DecRow w S g kind A c st low high vc code a value ended) (hv0 : 0 ≤ value) (hv1 : value ≤ 4294967295) (hby : Bytes code) (hlen : code.length ≤ 1099511627776) (ha : a ≤ 2199023255552) :
 Calls Try.prog 78 #[.pointer (some ⟨g, 0, none⟩)] w (ShiftPost w S g kind A c st low high vc code a value ended) := by
 have HE := A' hE
 have hSg : S g := hE.g
 obtain ⟨Ac, cc, hvc⟩ := Kd.R_slice hE.o
 subst hvc
 have k36 := hE.c36
 have k37 := hE.c37
 have k38 := hE.c38
 have f37 := hE.fz 37
 have f38 := hE.fz 38
 have f39 := hE.fz 39
 have hbr := byteOf_range hby a
 have e1 : Go.bits .and .u64 (value * 256) 4294967295 = value % 16777216 * 256 := (u64_low32 (x := value * 256) (by omega) (by omega)).trans (by omega)
 by_cases hlt : a < code.length
 · have hb : byteOf code a = rd code a := if_pos hlt
   rw [hb] at hbr
   obtain ⟨ad, hA, hx⟩ := Kd.at_int (Kd.R_reads' hE.o).2.2 (a : Int) (by omega) (by omega)
   subst hA
   rw [Int.toNat_natCast] at hx
   have e2 : Go.bits .or .u64 (value % 16777216 * 256) (rd code a) = value % 16777216 * 256 + rd code a := u64_orb (by omega) (by omega) (by omega) hbr.1 (by omega)
   have hi : (a : Int) < (code.length : Int) := by omega
   have HL := A' hlt
   have HBB := A' hb
   clear hE hby hb hlt
   go_enter Try.func78, Try.ntmps78
   go_wp2
   go_quiet (fail)
   go_wp2
   go_quiet (fail)
   go_wp2
   go_end0
   refine ⟨rfl, ?_, ?_⟩
   · rw [HBB.out]
     exact (HE.out.adv HL.out _).drewN _
   · exact (((Mods.refl w S).setCell (.inl hSg) _).setCell (.inl hSg) _).drewN _
 · have hb : byteOf code a = 0 := if_neg hlt
   have k39 := hE.c39
   have hi : ¬ (a : Int) < (code.length : Int) := by omega
   obtain ⟨d, hd⟩ : ∃ d : Nat, a - code.length = d := ⟨_, rfl⟩
   rw [hd] at k39
   have hdd : (d : Int) ≤ 2199023255552 := by omega
   have HD := A' hd
   have e2 : Go.bits .or .u64 (value % 16777216 * 256) 0 = value % 16777216 * 256 := (u64_orb (x := value % 16777216 * 256) (y := 0) (by omega) (by omega) (by omega) (by omega) (by omega)).trans (by omega)
   have HL := A' hlt
   have HBB := A' hb
   clear hE hby hb hlt hd hbr
   go_enter Try.func78, Try.ntmps78
   go_wp2
   go_quiet (fail)
   go_wp2
   go_end0
   refine ⟨rfl, ?_, ?_⟩
   · rw [HBB.out, Int.add_zero]
     have h9 := HE.out.advB HL.out (value % 16777216 * 256)
     rw [HD.out] at h9
     exact h9.drewN _
   · exact ((((Mods.refl w S).setCell (.inl hSg) _).setCell (.inl hSg) _).setCell (.inl hSg) _).drewN _
theorem dec_none (w : World) (g : Nat) (real : Bool) (h2 : w.cell? ⟨g, 41, none⟩ = some (.bool real)) : Calls Try.prog 79 #[.pointer (some ⟨g, 0, none⟩)] w fun e w' => e = .returned (.bool (!real)) ∧ w = w' := by
 go_enter Try.func79, Try.ntmps79
 go_wp2
 go_ret
 exact ⟨rfl, rfl⟩
end Go.Proofs.Ytkfejicdjpffcaa.Dec
namespace Go.Proofs.Ytkfejicdjpffcaa.Get
open Go Go.RowKit YtkfejicdjpffcaaW PrintWords PrintLast PrintMore Aid HandAid Cod1 Cod2 Cod3 Ytkfejicdjpffcaa.Mod Enc Mods EncAt Put End Snc Dec
theorem exec_load_row {P : Program} {o : Oper} {a : Act} {w : World} (ty : TypeId) (x : Operand) (ho : o.op = .load ty x)
 (g : Nat) (hx : a.eval x = .pointer (some ⟨g, 0, none⟩)) (t : TypeId) (cs : Array Value) (fr : Nat × Nat) (d : TypeDesc) (hg : w.heap[g]? = some (.cells cs t fr))
 (hu : P.underlying ty = some d) (hd : (match d with | .struct _ | .array _ _ => true | _ => false) = true) (hi : (P.info? ty).map (·.size) = some cs.size) : (execOp a.eval o).run P w = .ok (.value (.agg cs)) w := by
 unfold execOp
 simp only [ho, hx, Instr.loadAt, Instr.sureAddr, Sem.run_bind, Sem.run_pure, Result.andThen_ok, run_loadVar_row w g t ty cs fr d hg hu hd hi]
theorem exec_store_row {P : Program} {o : Oper} {a : Act} {w : World} (ty : TypeId) (x y : Operand) (ho : o.op = .store ty x y)
 (g : Nat) (cells : Array Value) (hx : a.eval x = .pointer (some ⟨g, 0, none⟩)) (hy : a.eval y = .agg cells)
 (t : TypeId) (old : Array Value) (hg : w.heap[g]? = some (.cells old t (0, 0))) (hi : (P.info? ty).map (·.size) = some cells.size)
 (hold : old.size = cells.size) (h1 : cells.all (·.oneCell') = true) : (execOp a.eval o).run P w = .ok .skip (w.setRow g cells) := by
 unfold execOp
 simp only [ho, hx, hy, Instr.storeAt, Instr.sureAddr, Sem.run_bind, Sem.run_pure, Result.andThen_ok, run_storeVar_row w g t ty old cells hg hi hold h1]
theorem info42 {row : Array Value} (h : row.size = 42) : (Try.prog.info? 121).map (·.size) = some row.size := by rw [h]; kernel_rfl
theorem dec42_size (kind : Int) (v : Value) (low high : Int) (vc : Value) (a value be : Int) (ended real : Bool) : (dec42 kind v low high vc a value be ended real).size = 42 := rfl
theorem one42 (kind : Int) (A : Option Addr) (n c : Nat) (low high : Int) (Ac : Option Addr) (nc cc : Nat) (a value be : Int) (ended real : Bool) : (dec42 kind (.slice A n c) low high (.slice Ac nc cc) a value be ended real).all (·.oneCell') = true := by simp [dec42, Value.oneCell']
def z42 : Array Value := #[.int .i64 0, .slice none 0 0, .int .i64 0, .int .i64 0, .int .i64 0, .int .i64 0, .int .i64 0, .int .i64 0, .int .i64 0, .int .i64 0, .int .i64 0, .int .i64 0, .int .i64 0, .int .i64 0, .int .i64 0, .int .i64 0, .int .i64 0, .int .i64 0, .int .i64 0, .int .i64 0, .int .i64 0, .int .i64 0, .int .i64 0, .int .i64 0, .int .i64 0, .int .i64 0, .int .i64 0, .int .i64 0, .int .i64 0, .int .i64 0, .int .i64 0, .int .i64 0, .int .i64 0, .int .i64 0, .int .u64 0, .int .u64 0, .slice none 0 0, .int .i64 0, .int .u64 0, .int .i64 0, .bool false, .bool false]
theorem z42_def : z42 = #[.int .i64 0, .slice none 0 0, .int .i64 0, .int .i64 0, .int .i64 0, .int .i64 0, .int .i64 0, .int .i64 0, .int .i64 0, .int .i64 0, .int .i64 0, .int .i64 0, .int .i64 0, .int .i64 0, .int .i64 0, .int .i64 0, .int .i64 0, .int .i64 0, .int .i64 0, .int .i64 0, .int .i64 0, .int .i64 0, .int .i64 0, .int .i64 0, .int .i64 0, .int .i64 0, .int .i64 0, .int .i64 0, .int .i64 0, .int .i64 0, .int .i64 0, .int .i64 0, .int .i64 0, .int .i64 0, .int .u64 0, .int .u64 0, .slice none 0 0, .int .i64 0, .int .u64 0, .int .i64 0, .bool false, .bool false] := rfl
theorem set_back {st : List Int} {i : Nat} (y : Int) (hi : i < st.length) : (st.set i y).set i (rd st i) = st := by
 rw [List.set_set]
 apply List.ext_getElem?
 intro k
 rw [List.getElem?_set]
 by_cases hk : i = k
 · subst hk
   rw [if_pos rfl, if_pos hi, List.getElem?_eq_getElem hi]
   simp [rd, List.getD_eq_getElem?_getD, List.getElem?_eq_getElem hi]
 · rw [if_neg hk]
theorem setRow_size (W : World) (g : Nat) (cs : Array Value) : (W.setRow g cs).heap.size = W.heap.size := by
 simp [World.setRow]
theorem mods_setRow {w W : World} {S : Nat → Prop} (h : Mods w W S) {g : Nat} (hg : S g) (cs : Array Value) : Mods w (W.setRow g cs) S :=
 h.then_ (S2 := fun k => k = g) ⟨rfl, rfl, rfl, by rw [setRow_size]; exact Nat.le_refl _, fun i _ hn => setRow_other _ _ _ _ hn⟩ (fun k hk => by rw [hk]; exact .inl hg)
theorem dec_setRow {W : World} {S : Nat → Prop} {g : Nat} {kind : Int} {A : Option Addr} {c : Nat} {st : List Int} {low high : Int} {vc : Value} {code : List Int} {a : Nat} {value : Int} {ended : Bool} (h : DecRow W S g kind A c st low high vc code a value ended) {st' : List Int} (hst : st'.length = st.length) (kind' low' high' : Int) (a' : Nat) (value' : Int) (ended' : Bool) : DecRow (W.setRow g (dec42 kind' (.slice A st'.length c) low' high' vc a' value' ((a' - code.length : Nat) : Int) ended' true)) S g kind' A c st low' high' vc code a' value' ended' :=
 ⟨hst ▸ setRow_heap W g _ _ _ _ h.b, Kd.R_mono (Kd.R_step (Kd.R_types h.s h.b (by decide)) fun k hk _ => setRow_other _ _ _ _ hk.2) (fun _ hk => hk.1), Kd.R_mono (Kd.R_step (Kd.R_types h.o h.b (by decide)) fun k hk _ => setRow_other _ _ _ _ hk.2) (fun _ hk => hk.1), h.g⟩
/-- What a Get that takes a bit leaves. -/
def GetPost (w : World) (S : Nat → Prop) (g : Nat) (kind : Int) (b c : Nat) (st : List Int) (low high mid : Int) (vc : Value) (code : List Int) (a : Nat) (value : Int) (i : Nat) (bit : Int) (e : Ending) (w' : World) : Prop :=
 (∃ l h n, normE 4 (cutL low mid bit) (cutH high mid bit) = (n, l, h) ∧ ((a + n.length - code.length > 4 ∧ e = .returned (.tuple #[.int .i64 0, .int .i64 6]) ∧ DecRow w' S g kind (some ⟨b, 0, none⟩) c st low high vc code a value true) ∨ (¬ a + n.length - code.length > 4 ∧ e = .returned (.tuple #[.int .i64 bit, .int .i64 0]) ∧ DecRow w' S g kind (some ⟨b, 0, none⟩) c (st.set i (after kind (rd st i) bit)) l h vc code (a + n.length) (shV code n.length value a) false))) ∧ Mods w w' S
set_option maxHeartbeats 4000000 in
set_option maxRecDepth 100000 in
theorem get_row0 (w : World) (S : Nat → Prop) (g : Nat) (kind : Int) (b c : Nat) (st : List Int) (low high mid : Int) (vc : Value) (code : List Int) (a : Nat) (value : Int) (i : Nat) (hE : DecRow w S g kind (some ⟨b, 0, none⟩) c st low high vc code a value false) (hSb : ∀ k, S k → k < w.heap.size) (hi : i < st.length) (hn : st.length ≤ 8192) (hs : okState kind (rd st i)) (hl0 : 0 ≤ low) (hlh : low ≤ high) (hh : high ≤ 4294967295) (hmid : midOf low high (likely kind (rd st i)) = mid) (hm0 : 0 ≤ mid) (hm1 : mid ≤ 4294967295) (hI0 : PutInv [] (cutL low mid 0) (cutH high mid 0) 4 (cutL low mid 0) (cutH high mid 0) []) (hv0 : 0 ≤ value) (hv1 : value ≤ 4294967295) (hby : Bytes code) (hlen : code.length ≤ 1099511627776) (ha : a - code.length ≤ 4) (hvb : ¬ value ≤ mid) :
 Calls Try.prog 35 #[.pointer (some ⟨g, 0, none⟩), .int .i64 i] w (GetPost w S g kind b c st low high mid vc code a value i 0) := by
 have HE := A' hE
 have hSg : S g := hE.g
 obtain ⟨Ac, cc, hvc⟩ := Kd.R_slice hE.o
 subst hvc
 have h2 := hE.c41
 have k40 := hE.c40
 have k1 := hE.iv.s
 have HMID := A' (hmid ▸ mid_calls w g kind (some ⟨b, 0, none⟩) st.length c low high i (rd st i) hE.iv ⟨_, rfl, by obtain ⟨b', hA, hc, _⟩ := hE.cell hi; cases hA; rw [add_plain]; exact hc⟩ hi hn hs hl0 hlh hh)
 have HI := A' hI0
 have HBY := A' hby
 have HSB := A' hSb
 clear hE hmid hI0 hby hSb
 have hi1 : (0 : Int) ≤ (i : Int) := by omega
 have hi2 : (i : Int) < (st.length : Int) := by omega
 go_enter Try.func35, Try.ntmps35
 go_wp2_with (first
  | (go_at_call 79; refine (dec_none _ _ _ h2).mono ?_; rintro e w' ⟨rfl, rfl⟩)
  | (go_at_call 72; refine HMID.out.mono ?_; rintro e w3 ⟨rfl, hb3⟩; have HE3 := A' (HE.out.below hb3); have HK3 := A' ((Mods.refl w S).below hb3); clear hb3; have k38 := HE3.out.c38))
 clear h2 k40 k1 k38
 obtain ⟨row, hrow⟩ : ∃ row, (dec42 kind (.slice (some ⟨b, 0, none⟩) st.length c) low high (.slice Ac code.length cc) a value ((a - code.length : Nat) : Int) false true) = row := ⟨_, rfl⟩
 have hsz : row.size = 42 := by rw [← hrow]; rfl
 have hone : row.all (·.oneCell') = true := by rw [← hrow]; exact one42 _ _ _ _ _ _ _ _ _ _ _ _ _ _
 have p0 : w3.drew.heap[g]? = some (.cells row 121 (0, 0)) := by rw [← hrow]; exact HE3.out.b
 have p1 := HE3.out.drew.iv.s
 have p2 : w3.drew.cell? ⟨b, i, none⟩ = some (.int .i64 (rd st i)) := by
  obtain ⟨b3, hA3, hc3, _⟩ := HE3.out.cell hi
  cases hA3
  exact hc3
 have HROW := A' hrow
 have HE3 := A' HE3.out.drew
 have HK3 := A' HK3.out.drew
 clear hrow
 refine start_ (n := 15) (S := fun w' => w'.heap[g]? = some (.cells row 121 (0, 0)) ∧ w'.cell? ⟨g, 1, none⟩ = some (.slice (some ⟨b, 0, none⟩) st.length c) ∧ w'.cell? ⟨b, i, none⟩ = some (.int .i64 (rd st i))) (ds := []) #[false, false, false, false, false, false, false, false, false, false, false, false, false, false, false] (by kernel_rfl) rfl rfl ⟨p0, p1, p2⟩ (fun hHeld => ?_)
 generalize w3.drew = wd at p0 p1 p2 HE3 HK3 hHeld ⊢
 refine u' 0 43 (B' 15 1) ?_ rfl rfl (by kernel_rfl) (fun _ _ _ h => h) (.inl ⟨by rfl, ?_⟩) ?_ ?_ ?_; rotate_left; (intro w'; go_simp; with_reducible rfl); rotate_left; (simp only [Act.put, p1', p2', p3', i64_w, i32_w]; rfl)
 refine u' 1 44 (B' 15 3) ?_ rfl rfl (by kernel_rfl) (fun _ _ _ h => h) (.inl ⟨by rfl, ?_⟩) ?_ ?_ ?_; rotate_left; (intro w'; go_simp; with_reducible rfl); rotate_left; (simp only [Act.put, p1', p2', p3', i64_w, i32_w]; rfl)
 refine u' 3 46 (B' 15 11) ?_ rfl rfl (by kernel_rfl) (fun _ _ _ h => h) (.inl ⟨by rfl, ?_⟩) ?_ ?_ ?_; rotate_left; (intro w'; go_simp; with_reducible rfl); rotate_left; (simp only [Act.put, p1', p2', p3', i64_w, i32_w]; rfl)
 refine u' 4 47 (B' 15 27) ?_ rfl rfl (by kernel_rfl) (fun _ _ _ h => h) (.inl ⟨by rfl, ?_⟩) ?_ ?_ ?_; rotate_left; (intro w'; go_simp; with_reducible rfl); rotate_left; (simp only [Act.put, p1', p2', p3', i64_w, i32_w]; rfl)
 refine u' 5 48 (B' 15 59) ?_ rfl rfl (by kernel_rfl) (fun _ _ _ h => h) (.inl ⟨by rfl, ?_⟩) ?_ ?_ ?_; rotate_left; (intro w'; go_simp; with_reducible rfl); rotate_left; (simp only [Act.put, p1', p2', p3', i64_w, i32_w]; rfl)
 refine u' 6 49 (B' 15 123) ?_ rfl rfl (by kernel_rfl) (fun _ _ _ h => h) (.inl ⟨by rfl, ?_⟩) ?_ ?_ ?_; rotate_left; (intro w'; go_simp; with_reducible rfl); rotate_left; (simp only [Act.put, p1', p2', p3', i64_w, i32_w]; rfl)
 refine u' 7 50 (B' 15 251) ?_ rfl rfl (by kernel_rfl) (fun _ _ _ h => h) (.inl ⟨by rfl, ?_⟩) ?_ ?_ ?_; rotate_left; (intro w'; go_simp; with_reducible rfl); rotate_left; (simp only [Act.put, p1', p2', p3', i64_w, i32_w]; rfl)
 refine u' 9 52 (B' 15 763) ?_ rfl rfl (by kernel_rfl) (fun _ _ _ h => h) (.inl ⟨by rfl, ?_⟩) ?_ ?_ ?_; rotate_left; (intro w'; go_simp; with_reducible rfl); rotate_left; (simp only [Act.put, p1', p2', p3', i64_w, i32_w]; rfl)
 refine take_ (i := 2) (N := some 45) (v := ?_) (a' := ?_) (B' 15 767) rfl rfl (by kernel_rfl) (fun _ _ _ h => h) (Or.inl ⟨by rfl, ?_⟩) hHeld ?_ ?_
 rotate_left
 · rintro w' ⟨s0, s1, s2⟩
   refine exec_load_row _ (.tmp 44) ?_ g ?_ 121 row (0, 0) _ s0 Try.underlying121 rfl (info42 hsz)
   · rfl
   · rfl
 rotate_left
 · simp only [Act.put, p1', p2', p3', i64_w, i32_w]
   rfl
 refine t' 8 51 (B' 15 1023) ?_ rfl rfl (by kernel_rfl) (fun _ _ _ h => h) (.inl ⟨by rfl, ?_⟩) hHeld ?_ ?_ ?_; rotate_left; (rintro w' ⟨s0, s1, s2⟩; go_simp; with_reducible rfl); rotate_left; (simp only [Act.put, p1', p2', p3', i64_w, i32_w]; rfl)
 refine u' 10 53 (B' 15 2047) ?_ rfl rfl (by kernel_rfl) (fun _ _ _ h => h) (.inl ⟨by rfl, ?_⟩) ?_ ?_ ?_; rotate_left; (intro w'; go_simp; with_reducible rfl); rotate_left; (simp only [Act.put, p1', p2', p3', i64_w, i32_w]; rfl)
 refine t' 11 54 (B' 15 4095) ?_ rfl rfl (by kernel_rfl) (fun _ _ _ h => h) (.inl ⟨by rfl, ?_⟩) hHeld ?_ ?_ ?_; rotate_left; (rintro w' ⟨s0, s1, s2⟩; go_simp; with_reducible rfl); rotate_left; (simp only [Act.put, p1', p2', p3', i64_w, i32_w]; rfl)
 refine one_ (i := 12) (N := some 8) (B' 15 8191) rfl rfl (by kernel_rfl) (by decide) (fun K hK => ?_)
 refine value_ (w1 := ?_) (v := ?_) (by rfl) rfl ?_ ?_
 rotate_left 2
 · go_simp
   constructor
   · rfl
   · rfl
 refine hK.out _ _ ⟨blk_alloc p0 _, pw_cell_below (below_alloc (Below.refl _ _) _) p1, pw_cell_below (below_alloc (Below.refl _ _) _) p2⟩ (fun hHeld => ?_)
 clear hK K
 refine norm_ (a' := ?_) ?_ ?_; rotate_left; (show Act.put _ (some 8) _ = _; simp only [Act.put, p1', p2', p3', i64_w, i32_w]; rfl)
 refine one_ (i := 13) (N := none) (B' 15 16383) rfl rfl (by kernel_rfl) (by decide) (fun K hK => ?_)
 refine skip_ (w1 := ?_) (by rfl) rfl ?_ ?_
 rotate_left
 · refine exec_store_row _ (.tmp 8) (.tmp 45) ?_ wd.heap.size row ?_ ?_ 121 _ (heap_new wd _) (info42 hsz) ?_ hone
   · rfl
   · rfl
   · rfl
   · exact hsz.symm
 refine hK.out _ _ ⟨blk_below p0 (below_setRow (below_alloc (Below.refl _ _) _) (Nat.le_refl _) _), pw_cell_below (below_setRow (below_alloc (Below.refl _ _) _) (Nat.le_refl _) _) p1, pw_cell_below (below_setRow (below_alloc (Below.refl _ _) _) (Nat.le_refl _) _) p2⟩ (fun hHeld => ?_)
 clear hK K
 refine u' 14 9 (B' 15 32767) ?_ rfl rfl (by kernel_rfl) (fun _ _ _ h => h) (.inl ⟨by rfl, ?_⟩) ?_ ?_ ?_; rotate_left; (intro w'; go_simp; with_reducible rfl); rotate_left; (simp only [Act.put, p1', p2', p3', i64_w, i32_w]; rfl)
 refine done_ (by kernel_rfl) ?_
 rw [← z42_def]
 obtain ⟨q, hq⟩ : ∃ q, wd.heap.size = q := ⟨_, rfl⟩
 have HQ0 := A' (setRow_heap (wd.alloc (.cells z42 121)) wd.heap.size z42 row 121 (0, 0) (heap_new wd _))
 have HB0 := A' (below_setRow (below_alloc (Below.refl wd.heap.size wd) (.cells z42 121)) (Nat.le_refl _) row)
 generalize hW5 : (wd.alloc (.cells z42 121)).setRow wd.heap.size row = w5 at HQ0 HB0 ⊢
 rw [hq] at HQ0 ⊢
 have HE5 := A' (HE3.out.below HB0.out)
 have HK5 := A' (HK3.out.below HB0.out)
 have HQS := A' (show ¬ S q from fun hk => by have h1 := HSB.out q hk; have h2 := HK3.out.size; omega)
 clear hW5 hq HB0 HE3 HK3 p0 p1 p2
 have HT := A' (take_calls w5 g kind st.length c low high i (rd st i) mid 0 ⟨b, 0, none⟩ HE5.out.iv)
 go_wp2_with (go_at_call 71; obtain ⟨b3, hA3, hc3, hf3, hne3⟩ := HE5.out.cell hi; cases hA3; refine (HT.out (by rw [add_plain]; exact hc3) (by rw [add_plain]; exact hf3) hne3 hi hn hs (by decide) hm0 hm1).mono ?_; rintro e w4 ⟨rfl, w4', hb4, hw4⟩; rw [add_plain] at hw4; have HE4 := A' (show DecRow w4 S g kind (some ⟨b, 0, none⟩) c (st.set i (after kind (rd st i) 0)) (cutL low mid 0) (cutH high mid 0) (.slice Ac code.length cc) code a value false from hw4 ▸ (((HE5.out.cut 0 mid).below (by rw [cutW_size]; exact hb4)).setst hi _)); have hsb : S b := HE5.out.s.1 b (by simp [Value.ownBlock]); have HK4 := A' (show Mods w5 w4 S from hw4 ▸ ((((Mods.refl w5 S).then_ (cut_kept 0 mid HE5.out.g) (fun _ h => .inl h)).below (by rw [cutW_size]; exact hb4)).setCell (.inl hsb) _)); clear hb4 hw4 hc3 hf3 hne3)
 clear HT HE5
 obtain ⟨st', hst'⟩ : ∃ st' : List Int, st.set i (after kind (rd st i) 0) = st' := ⟨_, rfl⟩
 have HST := A' hst'
 have HSL := A' (show st'.length = st.length by rw [← hst']; exact List.length_set)
 rw [hst'] at HE4
 clear hst'
 go_loopg [] 4 (fun d wr => ∃ (l h : Int) (n : List Int), Aside0 (DecRow wr S g kind (some ⟨b, 0, none⟩) c st' l h (.slice Ac code.length cc) code (a + n.length) (shV code n.length value a) false) ∧ Aside0 (Mods w5 wr S) ∧ Aside0 (PutInv [] (cutL low mid 0) (cutH high mid 0) d l h n))
 case atStart => exact ⟨_, _, [], HE4, HK4, HI⟩
 clear HE4 HK4 HI
 case round =>
  obtain ⟨l, h, n, HE6, HK6, HP⟩ := hrel
  have hp0 := HP.out.l0
  have hp1 := HP.out.lh
  have hp2 := HP.out.h0
  have hp3 := HP.out.len
  rw [List.length_nil] at hp3
  have hs6 := same_calls wr g l h HE6.out.iv.l HE6.out.iv.h hp0 (by omega)
  by_cases cx : l / 16777216 = h / 16777216
  · rw [decide_eq_true cx] at hs6
    have HSA := A' hs6
    clear hs6
    obtain ⟨d', hd', hP'⟩ := HP.out.step cx
    have HP' := A' hP'
    have HD := A' hd'
    have hv := shV_range HBY.out n.length value a hv0 hv1
    have HV := A' hv
    have hap : a + n.length ≤ 2199023255552 := by omega
    clear hd' hP' cx hv
    go_wp2_with (first
     | (go_at_call 73; refine HSA.out.mono ?_; rintro e w6 ⟨rfl, m6, hw6⟩; have HE7 := A' (show DecRow w6 S g kind (some ⟨b, 0, none⟩) c st' l h (.slice Ac code.length cc) code (a + n.length) (shV code n.length value a) false from hw6 ▸ HE6.out.drewN m6); have HK7 := A' (show Mods w5 w6 S from hw6 ▸ HK6.out.drewN m6); clear hw6; have HLO := A' (lose_calls w6 g l h HE7.out.iv.l HE7.out.iv.h HE7.out.iv.f hp0 (by omega) (by omega) hp2))
     | (go_at_call 74; refine HLO.out.mono ?_; rintro e w7 ⟨rfl, hw7⟩; have HE8 := A' (show DecRow w7 S g kind (some ⟨b, 0, none⟩) c st' (l % 16777216 * 256) (h % 16777216 * 256 + 255) (.slice Ac code.length cc) code (a + n.length) (shV code n.length value a) false from hw7 ▸ HE7.out.lost _ _); have HK8 := A' (show Mods w5 w7 S from hw7 ▸ ((HK7.out.setCell (.inl hSg) _).setCell (.inl hSg) _)); clear hw7)
     | (go_at_call 78; refine (shift_row _ S g kind _ c st' _ _ _ code _ _ false HE8.out HV.out.1 HV.out.2 HBY.out hlen hap).mono ?_; rintro e w8 ⟨rfl, hE9, hK9⟩; have HE9 := A' hE9; have HK9 := A' (HK8.out.then_ hK9 (fun _ h => .inl h)); clear hE9 hK9))
    go_roundg d'
    case measure => have := HD.out; omega
    case rel =>
     refine ⟨_, _, _, ⟨?_⟩, HK9, HP'⟩
     have h9 := HE9.out
     rw [← shV_succ] at h9
     rw [List.length_append, List.length_cons, List.length_nil, Nat.zero_add]
     exact h9
  · rw [decide_eq_false cx] at hs6
    have HSA := A' hs6
    clear hs6
    have HCC := A' (HP.out.done cx)
    clear cx
    obtain ⟨be, hbe⟩ : ∃ be : Nat, a + n.length - code.length = be := ⟨_, rfl⟩
    have HBE := A' hbe
    clear hbe
    have HN := A' (show normE 4 (cutL low mid 0) (cutH high mid 0) = (n, l, h) from by
     have h1 := HCC.out
     rw [List.nil_append] at h1
     exact Prod.ext h1.1.symm h1.2)
    by_cases hb4 : (be : Int) > 4
    · have HB4 := A' hb4
      go_wp2_with (first
       | (go_at_call 73; refine HSA.out.mono ?_; rintro e w6 ⟨rfl, m6, hw6⟩; have HE7 := A' (show DecRow w6 S g kind (some ⟨b, 0, none⟩) c st' l h (.slice Ac code.length cc) code (a + n.length) (shV code n.length value a) false from hw6 ▸ HE6.out.drewN m6); have HK7 := A' (show Mods w5 w6 S from hw6 ▸ HK6.out.drewN m6); clear hw6; have k39 := HE7.out.c39; rw [HBE.out] at k39; have HQ7 := A' (blk_mods HQ0.out HK7.out HQS.out))
       | (with_reducible refine wpList_load_row rfl _ _ rfl _ rfl _ _ _ _ HQ7.out Try.underlying121 rfl (info42 hsz) ?_)
       | (with_reducible refine wpList_store_row rfl _ _ _ rfl _ row rfl rfl _ _ HE7.out.b (info42 hsz) ((dec42_size _ _ _ _ _ _ _ _ _ _).trans hsz.symm) hone ?_; have HE8 := A' (show DecRow (w6.setRow g row) S g kind (some ⟨b, 0, none⟩) c st' low high (.slice Ac code.length cc) code a value false from HROW.out ▸ dec_setRow (st' := st) HE7.out HSL.out.symm kind low high a value false); have HK8 := A' (mods_setRow HK7.out hSg row); generalize w6.setRow g row = w8 at HE8 HK8 ⊢; have q1 := HE8.out.iv.s; rw [HSL.out] at q1; obtain ⟨b8, hA8, q2, q3, q4⟩ := HE8.out.cell (i := i) (by rw [HSL.out]; exact hi); cases hA8; have q5 := HE8.out.fz 40; have q6 := HE8.out.c40))
      go_ret2
      refine ⟨⟨l, h, n, HN.out, .inl ⟨by rw [HBE.out]; have := HB4.out; omega, rfl, ?_⟩⟩, (HK5.out.then_ HK8.out (fun _ h => .inl h)).setCell (.inl (HE8.out.s.1 b (by simp [Value.ownBlock]))) _ |>.setCell (.inl hSg) _⟩
      have h9 := HE8.out.setst (i := i) (by rw [HSL.out]; exact hi) (rd st i)
      rw [← HST.out, set_back _ hi] at h9
      exact h9.put 40 (.bool true) rfl
    · have HB4 := A' hb4
      go_wp2_with (go_at_call 73; refine HSA.out.mono ?_; rintro e w6 ⟨rfl, m6, hw6⟩; have HE7 := A' (show DecRow w6 S g kind (some ⟨b, 0, none⟩) c st' l h (.slice Ac code.length cc) code (a + n.length) (shV code n.length value a) false from hw6 ▸ HE6.out.drewN m6); have HK7 := A' (show Mods w5 w6 S from hw6 ▸ HK6.out.drewN m6); clear hw6; have k39 := HE7.out.c39; rw [HBE.out] at k39)
      go_ret2
      refine ⟨⟨l, h, n, HN.out, .inr ⟨by rw [HBE.out]; have := HB4.out; omega, rfl, ?_⟩⟩, HK5.out.then_ HK7.out (fun _ h => .inl h)⟩
      rw [HST.out]
      exact HE7.out
set_option maxHeartbeats 4000000 in
set_option maxRecDepth 100000 in
theorem get_row1 (w : World) (S : Nat → Prop) (g : Nat) (kind : Int) (b c : Nat) (st : List Int) (low high mid : Int) (vc : Value) (code : List Int) (a : Nat) (value : Int) (i : Nat) (hE : DecRow w S g kind (some ⟨b, 0, none⟩) c st low high vc code a value false) (hSb : ∀ k, S k → k < w.heap.size) (hi : i < st.length) (hn : st.length ≤ 8192) (hs : okState kind (rd st i)) (hl0 : 0 ≤ low) (hlh : low ≤ high) (hh : high ≤ 4294967295) (hmid : midOf low high (likely kind (rd st i)) = mid) (hm0 : 0 ≤ mid) (hm1 : mid ≤ 4294967295) (hI0 : PutInv [] (cutL low mid 1) (cutH high mid 1) 4 (cutL low mid 1) (cutH high mid 1) []) (hv0 : 0 ≤ value) (hv1 : value ≤ 4294967295) (hby : Bytes code) (hlen : code.length ≤ 1099511627776) (ha : a - code.length ≤ 4) (hvb : value ≤ mid) :
 Calls Try.prog 35 #[.pointer (some ⟨g, 0, none⟩), .int .i64 i] w (GetPost w S g kind b c st low high mid vc code a value i 1) := by
 have HE := A' hE
 have hSg : S g := hE.g
 obtain ⟨Ac, cc, hvc⟩ := Kd.R_slice hE.o
 subst hvc
 have h2 := hE.c41
 have k40 := hE.c40
 have k1 := hE.iv.s
 have HMID := A' (hmid ▸ mid_calls w g kind (some ⟨b, 0, none⟩) st.length c low high i (rd st i) hE.iv ⟨_, rfl, by obtain ⟨b', hA, hc, _⟩ := hE.cell hi; cases hA; rw [add_plain]; exact hc⟩ hi hn hs hl0 hlh hh)
 have HI := A' hI0
 have HBY := A' hby
 have HSB := A' hSb
 clear hE hmid hI0 hby hSb
 have hi1 : (0 : Int) ≤ (i : Int) := by omega
 have hi2 : (i : Int) < (st.length : Int) := by omega
 go_enter Try.func35, Try.ntmps35
 go_wp2_with (first
  | (go_at_call 79; refine (dec_none _ _ _ h2).mono ?_; rintro e w' ⟨rfl, rfl⟩)
  | (go_at_call 72; refine HMID.out.mono ?_; rintro e w3 ⟨rfl, hb3⟩; have HE3 := A' (HE.out.below hb3); have HK3 := A' ((Mods.refl w S).below hb3); clear hb3; have k38 := HE3.out.c38))
 clear h2 k40 k1 k38
 obtain ⟨row, hrow⟩ : ∃ row, (dec42 kind (.slice (some ⟨b, 0, none⟩) st.length c) low high (.slice Ac code.length cc) a value ((a - code.length : Nat) : Int) false true) = row := ⟨_, rfl⟩
 have hsz : row.size = 42 := by rw [← hrow]; rfl
 have hone : row.all (·.oneCell') = true := by rw [← hrow]; exact one42 _ _ _ _ _ _ _ _ _ _ _ _ _ _
 have p0 : w3.drew.heap[g]? = some (.cells row 121 (0, 0)) := by rw [← hrow]; exact HE3.out.b
 have p1 := HE3.out.drew.iv.s
 have p2 : w3.drew.cell? ⟨b, i, none⟩ = some (.int .i64 (rd st i)) := by
  obtain ⟨b3, hA3, hc3, _⟩ := HE3.out.cell hi
  cases hA3
  exact hc3
 have HROW := A' hrow
 have HE3 := A' HE3.out.drew
 have HK3 := A' HK3.out.drew
 clear hrow
 refine start_ (n := 15) (S := fun w' => w'.heap[g]? = some (.cells row 121 (0, 0)) ∧ w'.cell? ⟨g, 1, none⟩ = some (.slice (some ⟨b, 0, none⟩) st.length c) ∧ w'.cell? ⟨b, i, none⟩ = some (.int .i64 (rd st i))) (ds := []) #[false, false, false, false, false, false, false, false, false, false, false, false, false, false, false] (by kernel_rfl) rfl rfl ⟨p0, p1, p2⟩ (fun hHeld => ?_)
 generalize w3.drew = wd at p0 p1 p2 HE3 HK3 hHeld ⊢
 refine u' 0 43 (B' 15 1) ?_ rfl rfl (by kernel_rfl) (fun _ _ _ h => h) (.inl ⟨by rfl, ?_⟩) ?_ ?_ ?_; rotate_left; (intro w'; go_simp; with_reducible rfl); rotate_left; (simp only [Act.put, p1', p2', p3', i64_w, i32_w]; rfl)
 refine u' 1 44 (B' 15 3) ?_ rfl rfl (by kernel_rfl) (fun _ _ _ h => h) (.inl ⟨by rfl, ?_⟩) ?_ ?_ ?_; rotate_left; (intro w'; go_simp; with_reducible rfl); rotate_left; (simp only [Act.put, p1', p2', p3', i64_w, i32_w]; rfl)
 refine u' 3 46 (B' 15 11) ?_ rfl rfl (by kernel_rfl) (fun _ _ _ h => h) (.inl ⟨by rfl, ?_⟩) ?_ ?_ ?_; rotate_left; (intro w'; go_simp; with_reducible rfl); rotate_left; (simp only [Act.put, p1', p2', p3', i64_w, i32_w]; rfl)
 refine u' 4 47 (B' 15 27) ?_ rfl rfl (by kernel_rfl) (fun _ _ _ h => h) (.inl ⟨by rfl, ?_⟩) ?_ ?_ ?_; rotate_left; (intro w'; go_simp; with_reducible rfl); rotate_left; (simp only [Act.put, p1', p2', p3', i64_w, i32_w]; rfl)
 refine u' 5 48 (B' 15 59) ?_ rfl rfl (by kernel_rfl) (fun _ _ _ h => h) (.inl ⟨by rfl, ?_⟩) ?_ ?_ ?_; rotate_left; (intro w'; go_simp; with_reducible rfl); rotate_left; (simp only [Act.put, p1', p2', p3', i64_w, i32_w]; rfl)
 refine u' 6 49 (B' 15 123) ?_ rfl rfl (by kernel_rfl) (fun _ _ _ h => h) (.inl ⟨by rfl, ?_⟩) ?_ ?_ ?_; rotate_left; (intro w'; go_simp; with_reducible rfl); rotate_left; (simp only [Act.put, p1', p2', p3', i64_w, i32_w]; rfl)
 refine u' 7 50 (B' 15 251) ?_ rfl rfl (by kernel_rfl) (fun _ _ _ h => h) (.inl ⟨by rfl, ?_⟩) ?_ ?_ ?_; rotate_left; (intro w'; go_simp; with_reducible rfl); rotate_left; (simp only [Act.put, p1', p2', p3', i64_w, i32_w]; rfl)
 refine u' 9 52 (B' 15 763) ?_ rfl rfl (by kernel_rfl) (fun _ _ _ h => h) (.inl ⟨by rfl, ?_⟩) ?_ ?_ ?_; rotate_left; (intro w'; go_simp; with_reducible rfl); rotate_left; (simp only [Act.put, p1', p2', p3', i64_w, i32_w]; rfl)
 refine take_ (i := 2) (N := some 45) (v := ?_) (a' := ?_) (B' 15 767) rfl rfl (by kernel_rfl) (fun _ _ _ h => h) (Or.inl ⟨by rfl, ?_⟩) hHeld ?_ ?_
 rotate_left
 · rintro w' ⟨s0, s1, s2⟩
   refine exec_load_row _ (.tmp 44) ?_ g ?_ 121 row (0, 0) _ s0 Try.underlying121 rfl (info42 hsz)
   · rfl
   · rfl
 rotate_left
 · simp only [Act.put, p1', p2', p3', i64_w, i32_w]
   rfl
 refine t' 8 51 (B' 15 1023) ?_ rfl rfl (by kernel_rfl) (fun _ _ _ h => h) (.inl ⟨by rfl, ?_⟩) hHeld ?_ ?_ ?_; rotate_left; (rintro w' ⟨s0, s1, s2⟩; go_simp; with_reducible rfl); rotate_left; (simp only [Act.put, p1', p2', p3', i64_w, i32_w]; rfl)
 refine u' 10 53 (B' 15 2047) ?_ rfl rfl (by kernel_rfl) (fun _ _ _ h => h) (.inl ⟨by rfl, ?_⟩) ?_ ?_ ?_; rotate_left; (intro w'; go_simp; with_reducible rfl); rotate_left; (simp only [Act.put, p1', p2', p3', i64_w, i32_w]; rfl)
 refine t' 11 54 (B' 15 4095) ?_ rfl rfl (by kernel_rfl) (fun _ _ _ h => h) (.inl ⟨by rfl, ?_⟩) hHeld ?_ ?_ ?_; rotate_left; (rintro w' ⟨s0, s1, s2⟩; go_simp; with_reducible rfl); rotate_left; (simp only [Act.put, p1', p2', p3', i64_w, i32_w]; rfl)
 refine one_ (i := 12) (N := some 8) (B' 15 8191) rfl rfl (by kernel_rfl) (by decide) (fun K hK => ?_)
 refine value_ (w1 := ?_) (v := ?_) (by rfl) rfl ?_ ?_
 rotate_left 2
 · go_simp
   constructor
   · rfl
   · rfl
 refine hK.out _ _ ⟨blk_alloc p0 _, pw_cell_below (below_alloc (Below.refl _ _) _) p1, pw_cell_below (below_alloc (Below.refl _ _) _) p2⟩ (fun hHeld => ?_)
 clear hK K
 refine norm_ (a' := ?_) ?_ ?_; rotate_left; (show Act.put _ (some 8) _ = _; simp only [Act.put, p1', p2', p3', i64_w, i32_w]; rfl)
 refine one_ (i := 13) (N := none) (B' 15 16383) rfl rfl (by kernel_rfl) (by decide) (fun K hK => ?_)
 refine skip_ (w1 := ?_) (by rfl) rfl ?_ ?_
 rotate_left
 · refine exec_store_row _ (.tmp 8) (.tmp 45) ?_ wd.heap.size row ?_ ?_ 121 _ (heap_new wd _) (info42 hsz) ?_ hone
   · rfl
   · rfl
   · rfl
   · exact hsz.symm
 refine hK.out _ _ ⟨blk_below p0 (below_setRow (below_alloc (Below.refl _ _) _) (Nat.le_refl _) _), pw_cell_below (below_setRow (below_alloc (Below.refl _ _) _) (Nat.le_refl _) _) p1, pw_cell_below (below_setRow (below_alloc (Below.refl _ _) _) (Nat.le_refl _) _) p2⟩ (fun hHeld => ?_)
 clear hK K
 refine u' 14 9 (B' 15 32767) ?_ rfl rfl (by kernel_rfl) (fun _ _ _ h => h) (.inl ⟨by rfl, ?_⟩) ?_ ?_ ?_; rotate_left; (intro w'; go_simp; with_reducible rfl); rotate_left; (simp only [Act.put, p1', p2', p3', i64_w, i32_w]; rfl)
 refine done_ (by kernel_rfl) ?_
 rw [← z42_def]
 obtain ⟨q, hq⟩ : ∃ q, wd.heap.size = q := ⟨_, rfl⟩
 have HQ0 := A' (setRow_heap (wd.alloc (.cells z42 121)) wd.heap.size z42 row 121 (0, 0) (heap_new wd _))
 have HB0 := A' (below_setRow (below_alloc (Below.refl wd.heap.size wd) (.cells z42 121)) (Nat.le_refl _) row)
 generalize hW5 : (wd.alloc (.cells z42 121)).setRow wd.heap.size row = w5 at HQ0 HB0 ⊢
 rw [hq] at HQ0 ⊢
 have HE5 := A' (HE3.out.below HB0.out)
 have HK5 := A' (HK3.out.below HB0.out)
 have HQS := A' (show ¬ S q from fun hk => by have h1 := HSB.out q hk; have h2 := HK3.out.size; omega)
 clear hW5 hq HB0 HE3 HK3 p0 p1 p2
 have HT := A' (take_calls w5 g kind st.length c low high i (rd st i) mid 1 ⟨b, 0, none⟩ HE5.out.iv)
 go_wp2_with (go_at_call 71; obtain ⟨b3, hA3, hc3, hf3, hne3⟩ := HE5.out.cell hi; cases hA3; refine (HT.out (by rw [add_plain]; exact hc3) (by rw [add_plain]; exact hf3) hne3 hi hn hs (by decide) hm0 hm1).mono ?_; rintro e w4 ⟨rfl, w4', hb4, hw4⟩; rw [add_plain] at hw4; have HE4 := A' (show DecRow w4 S g kind (some ⟨b, 0, none⟩) c (st.set i (after kind (rd st i) 1)) (cutL low mid 1) (cutH high mid 1) (.slice Ac code.length cc) code a value false from hw4 ▸ (((HE5.out.cut 1 mid).below (by rw [cutW_size]; exact hb4)).setst hi _)); have hsb : S b := HE5.out.s.1 b (by simp [Value.ownBlock]); have HK4 := A' (show Mods w5 w4 S from hw4 ▸ ((((Mods.refl w5 S).then_ (cut_kept 1 mid HE5.out.g) (fun _ h => .inl h)).below (by rw [cutW_size]; exact hb4)).setCell (.inl hsb) _)); clear hb4 hw4 hc3 hf3 hne3)
 clear HT HE5
 obtain ⟨st', hst'⟩ : ∃ st' : List Int, st.set i (after kind (rd st i) 1) = st' := ⟨_, rfl⟩
 have HST := A' hst'
 have HSL := A' (show st'.length = st.length by rw [← hst']; exact List.length_set)
 rw [hst'] at HE4
 clear hst'
 go_loopg [] 4 (fun d wr => ∃ (l h : Int) (n : List Int), Aside0 (DecRow wr S g kind (some ⟨b, 0, none⟩) c st' l h (.slice Ac code.length cc) code (a + n.length) (shV code n.length value a) false) ∧ Aside0 (Mods w5 wr S) ∧ Aside0 (PutInv [] (cutL low mid 1) (cutH high mid 1) d l h n))
 case atStart => exact ⟨_, _, [], HE4, HK4, HI⟩
 clear HE4 HK4 HI
 case round =>
  obtain ⟨l, h, n, HE6, HK6, HP⟩ := hrel
  have hp0 := HP.out.l0
  have hp1 := HP.out.lh
  have hp2 := HP.out.h0
  have hp3 := HP.out.len
  rw [List.length_nil] at hp3
  have hs6 := same_calls wr g l h HE6.out.iv.l HE6.out.iv.h hp0 (by omega)
  by_cases cx : l / 16777216 = h / 16777216
  · rw [decide_eq_true cx] at hs6
    have HSA := A' hs6
    clear hs6
    obtain ⟨d', hd', hP'⟩ := HP.out.step cx
    have HP' := A' hP'
    have HD := A' hd'
    have hv := shV_range HBY.out n.length value a hv0 hv1
    have HV := A' hv
    have hap : a + n.length ≤ 2199023255552 := by omega
    clear hd' hP' cx hv
    go_wp2_with (first
     | (go_at_call 73; refine HSA.out.mono ?_; rintro e w6 ⟨rfl, m6, hw6⟩; have HE7 := A' (show DecRow w6 S g kind (some ⟨b, 0, none⟩) c st' l h (.slice Ac code.length cc) code (a + n.length) (shV code n.length value a) false from hw6 ▸ HE6.out.drewN m6); have HK7 := A' (show Mods w5 w6 S from hw6 ▸ HK6.out.drewN m6); clear hw6; have HLO := A' (lose_calls w6 g l h HE7.out.iv.l HE7.out.iv.h HE7.out.iv.f hp0 (by omega) (by omega) hp2))
     | (go_at_call 74; refine HLO.out.mono ?_; rintro e w7 ⟨rfl, hw7⟩; have HE8 := A' (show DecRow w7 S g kind (some ⟨b, 0, none⟩) c st' (l % 16777216 * 256) (h % 16777216 * 256 + 255) (.slice Ac code.length cc) code (a + n.length) (shV code n.length value a) false from hw7 ▸ HE7.out.lost _ _); have HK8 := A' (show Mods w5 w7 S from hw7 ▸ ((HK7.out.setCell (.inl hSg) _).setCell (.inl hSg) _)); clear hw7)
     | (go_at_call 78; refine (shift_row _ S g kind _ c st' _ _ _ code _ _ false HE8.out HV.out.1 HV.out.2 HBY.out hlen hap).mono ?_; rintro e w8 ⟨rfl, hE9, hK9⟩; have HE9 := A' hE9; have HK9 := A' (HK8.out.then_ hK9 (fun _ h => .inl h)); clear hE9 hK9))
    go_roundg d'
    case measure => have := HD.out; omega
    case rel =>
     refine ⟨_, _, _, ⟨?_⟩, HK9, HP'⟩
     have h9 := HE9.out
     rw [← shV_succ] at h9
     rw [List.length_append, List.length_cons, List.length_nil, Nat.zero_add]
     exact h9
  · rw [decide_eq_false cx] at hs6
    have HSA := A' hs6
    clear hs6
    have HCC := A' (HP.out.done cx)
    clear cx
    obtain ⟨be, hbe⟩ : ∃ be : Nat, a + n.length - code.length = be := ⟨_, rfl⟩
    have HBE := A' hbe
    clear hbe
    have HN := A' (show normE 4 (cutL low mid 1) (cutH high mid 1) = (n, l, h) from by
     have h1 := HCC.out
     rw [List.nil_append] at h1
     exact Prod.ext h1.1.symm h1.2)
    by_cases hb4 : (be : Int) > 4
    · have HB4 := A' hb4
      go_wp2_with (first
       | (go_at_call 73; refine HSA.out.mono ?_; rintro e w6 ⟨rfl, m6, hw6⟩; have HE7 := A' (show DecRow w6 S g kind (some ⟨b, 0, none⟩) c st' l h (.slice Ac code.length cc) code (a + n.length) (shV code n.length value a) false from hw6 ▸ HE6.out.drewN m6); have HK7 := A' (show Mods w5 w6 S from hw6 ▸ HK6.out.drewN m6); clear hw6; have k39 := HE7.out.c39; rw [HBE.out] at k39; have HQ7 := A' (blk_mods HQ0.out HK7.out HQS.out))
       | (with_reducible refine wpList_load_row rfl _ _ rfl _ rfl _ _ _ _ HQ7.out Try.underlying121 rfl (info42 hsz) ?_)
       | (with_reducible refine wpList_store_row rfl _ _ _ rfl _ row rfl rfl _ _ HE7.out.b (info42 hsz) ((dec42_size _ _ _ _ _ _ _ _ _ _).trans hsz.symm) hone ?_; have HE8 := A' (show DecRow (w6.setRow g row) S g kind (some ⟨b, 0, none⟩) c st' low high (.slice Ac code.length cc) code a value false from HROW.out ▸ dec_setRow (st' := st) HE7.out HSL.out.symm kind low high a value false); have HK8 := A' (mods_setRow HK7.out hSg row); generalize w6.setRow g row = w8 at HE8 HK8 ⊢; have q1 := HE8.out.iv.s; rw [HSL.out] at q1; obtain ⟨b8, hA8, q2, q3, q4⟩ := HE8.out.cell (i := i) (by rw [HSL.out]; exact hi); cases hA8; have q5 := HE8.out.fz 40; have q6 := HE8.out.c40))
      go_ret2
      refine ⟨⟨l, h, n, HN.out, .inl ⟨by rw [HBE.out]; have := HB4.out; omega, rfl, ?_⟩⟩, (HK5.out.then_ HK8.out (fun _ h => .inl h)).setCell (.inl (HE8.out.s.1 b (by simp [Value.ownBlock]))) _ |>.setCell (.inl hSg) _⟩
      have h9 := HE8.out.setst (i := i) (by rw [HSL.out]; exact hi) (rd st i)
      rw [← HST.out, set_back _ hi] at h9
      exact h9.put 40 (.bool true) rfl
    · have HB4 := A' hb4
      go_wp2_with (go_at_call 73; refine HSA.out.mono ?_; rintro e w6 ⟨rfl, m6, hw6⟩; have HE7 := A' (show DecRow w6 S g kind (some ⟨b, 0, none⟩) c st' l h (.slice Ac code.length cc) code (a + n.length) (shV code n.length value a) false from hw6 ▸ HE6.out.drewN m6); have HK7 := A' (show Mods w5 w6 S from hw6 ▸ HK6.out.drewN m6); clear hw6; have k39 := HE7.out.c39; rw [HBE.out] at k39)
      go_ret2
      refine ⟨⟨l, h, n, HN.out, .inr ⟨by rw [HBE.out]; have := HB4.out; omega, rfl, ?_⟩⟩, HK5.out.then_ HK7.out (fun _ h => .inl h)⟩
      rw [HST.out]
      exact HE7.out
/-- A decoder in memory. -/
def DecAt (W : World) (S : Nat → Prop) (g : Nat) (s : DS) : Prop := ∃ A c vc, DecRow W S g s.kind A c s.st s.low s.high vc s.code s.a s.value s.ended
theorem DecAt.kept {W W' : World} {S S' : Nat → Prop} {g : Nat} {s : DS} (h : DecAt W S g s) (hk : Mods W W' S') (hne : ∀ k, S k → ¬ S' k) : DecAt W' S g s := by
 obtain ⟨A, c, vo, h⟩ := h
 exact ⟨A, c, vo, h.kept hk hne⟩
theorem DecAt.below {W W' : World} {S : Nat → Prop} {g : Nat} {s : DS} (h : DecAt W S g s) (hb : Below W.heap.size W W') : DecAt W' S g s := by
 obtain ⟨A, c, vo, h⟩ := h
 exact ⟨A, c, vo, h.below hb⟩
theorem DecAt.mono {W : World} {S S' : Nat → Prop} {g : Nat} {s : DS} (h : DecAt W S g s) (hs : ∀ k, S k → S' k) : DecAt W S' g s := by
 obtain ⟨A, c, vo, h⟩ := h
 exact ⟨A, c, vo, h.mono hs⟩
theorem get_end (w : World) (g : Nat) (i : Nat) (n : Nat) (A : Option Addr) (c : Nat) (hi : i < n) (h1 : w.cell? ⟨g, 1, none⟩ = some (.slice A n c)) (h2 : w.cell? ⟨g, 41, none⟩ = some (.bool true)) (h3 : w.cell? ⟨g, 40, none⟩ = some (.bool true)) :
 Calls Try.prog 35 #[.pointer (some ⟨g, 0, none⟩), .int .i64 i] w fun e w' => e = .returned (.tuple #[.int .i64 0, .int .i64 6]) ∧ w = w' := by
 have hi1 : (0 : Int) ≤ (i : Int) := by omega
 have hi2 : (i : Int) < (n : Int) := by omega
 go_enter Try.func35, Try.ntmps35
 go_wp2_with (go_at_call 79; refine (dec_none _ _ _ h2).mono ?_; rintro e w' ⟨rfl, rfl⟩)
 go_ret2
 exact ⟨rfl, rfl⟩
theorem get_bad (w : World) (g : Nat) (i : Int) (n : Nat) (A : Option Addr) (c : Nat) (hi : ¬ (0 ≤ i ∧ i < n)) (h1 : w.cell? ⟨g, 1, none⟩ = some (.slice A n c)) (h2 : w.cell? ⟨g, 41, none⟩ = some (.bool true)) :
 Calls Try.prog 35 #[.pointer (some ⟨g, 0, none⟩), .int .i64 i] w fun e w' => e = .returned (.tuple #[.int .i64 0, .int .i64 2]) ∧ w = w' := by
 have hi' : i < 0 ∨ (i ≥ n ∧ ¬ i < 0) := by omega
 clear hi
 rcases hi' with h | ⟨h, h0⟩
 · go_enter Try.func35, Try.ntmps35
   go_wp2_with (go_at_call 79; refine (dec_none _ _ _ h2).mono ?_; rintro e w' ⟨rfl, rfl⟩)
   go_ret2
   exact ⟨rfl, rfl⟩
 · go_enter Try.func35, Try.ntmps35
   go_wp2_with (go_at_call 79; refine (dec_none _ _ _ h2).mono ?_; rintro e w' ⟨rfl, rfl⟩)
   go_ret2
   exact ⟨rfl, rfl⟩
theorem get_calls (w : World) (S : Nat → Prop) (g : Nat) (s : DS) (i : Int) (hE : DecAt w S g s) (hS : ∀ k, S k → k < w.heap.size) (hok : s.ok) :
 Calls Try.prog 35 #[.pointer (some ⟨g, 0, none⟩), .int .i64 i] w fun e w' => e = .returned (.tuple #[.int .i64 (s.getI i).2.1, .int .i64 (s.getI i).2.2]) ∧ DecAt w' S g (s.getI i).1 ∧ Mods w w' S := by
 obtain ⟨A, c, vo, hR⟩ := hE
 unfold DS.getI
 by_cases hi : 0 ≤ i ∧ i < s.st.length
 · rw [if_pos hi]
   obtain ⟨j, rfl⟩ : ∃ j : Nat, i = (j : Int) := ⟨i.toNat, by omega⟩
   rw [Int.toNat_natCast]
   have hj : j < s.st.length := by omega
   by_cases he : s.ended = true
   · rw [if_pos he]
     have h40 := hR.c40
     rw [he] at h40
     refine (get_end w g j s.st.length A c hj hR.iv.s hR.c41 h40).mono ?_
     rintro e w' ⟨rfl, rfl⟩
     exact ⟨rfl, ⟨A, c, vo, hR⟩, Mods.refl _ _⟩
   · rw [if_neg he]
     have hef : s.ended = false := by simpa using he
     obtain ⟨b, rfl, _⟩ := hR.cell hj
     have hm := DS.mid_ hok hj
     have hc := DS.cut_ hok hj
     have hl := hok.l
     have hh := hok.h
     have hI : PutInv [] (cutL s.low (s.mid j) (s.bit j)) (cutH s.high (s.mid j) (s.bit j)) 4 (cutL s.low (s.mid j) (s.bit j)) (cutH s.high (s.mid j) (s.bit j)) [] := ⟨hc.1, hc.2.1, hc.2.2, by rw [show (256 : Int) ^ 4 = 4294967296 from rfl]; omega, rfl, rfl, Nat.le_refl _⟩
     have key : Calls Try.prog 35 #[.pointer (some ⟨g, 0, none⟩), .int .i64 j] w (GetPost w S g s.kind b c s.st s.low s.high (s.mid j) vo s.code s.a s.value j (s.bit j)) := by
      rw [hef] at hR
      by_cases hv : s.value ≤ s.mid j
      · have hb : s.bit j = 1 := if_pos hv
        rw [hb] at hI ⊢
        exact get_row1 w S g s.kind b c s.st s.low s.high (s.mid j) vo s.code s.a s.value j hR hS hj hok.m.2.1 (DS.at_ hok hj) hl hok.lh hh rfl (by omega) (by omega) hI hok.v0 hok.v1 hok.by_ hok.len hok.be hv
      · have hb : s.bit j = 0 := if_neg hv
        rw [hb] at hI ⊢
        exact get_row0 w S g s.kind b c s.st s.low s.high (s.mid j) vo s.code s.a s.value j hR hS hj hok.m.2.1 (DS.at_ hok hj) hl hok.lh hh rfl (by omega) (by omega) hI hok.v0 hok.v1 hok.by_ hok.len hok.be hv
     refine key.mono ?_
     rintro e w' ⟨⟨l, h, n, hn, hq⟩, hk⟩
     have hn' : s.norm j = (n, l, h) := hn
     rw [hn']
     rcases hq with ⟨hb, rfl, hD⟩ | ⟨hb, rfl, hD⟩
     · rw [if_pos hb]
       exact ⟨rfl, ⟨_, c, vo, hD⟩, hk⟩
     · rw [if_neg hb]
       refine ⟨rfl, ⟨some ⟨b, 0, none⟩, c, vo, ?_⟩, hk⟩
       have e1 : s.next j = ⟨s.kind, s.st.set j (after s.kind (rd s.st j) (s.bit j)), l, h, s.code, s.a + n.length, shV s.code n.length s.value s.a, false⟩ := by
        unfold DS.next
        rw [hn']
       rw [e1]
       exact hD
 · rw [if_neg hi]
   refine (get_bad w g i s.st.length A c hi hR.iv.s hR.c41).mono ?_
   rintro e w' ⟨rfl, rfl⟩
   exact ⟨rfl, ⟨A, c, vo, hR⟩, Mods.refl _ _⟩
end Go.Proofs.Ytkfejicdjpffcaa.Get
namespace Go.Proofs.Ytkfejicdjpffcaa.DecNew
open Go Go.RowKit YtkfejicdjpffcaaW PrintWords PrintLast PrintMore Aid HandAid Cod1 Cod2 Cod3 Ytkfejicdjpffcaa.Mod Enc Mods EncAt Put End Snc Dec Get
/-- A fresh decoder. -/
def newDS (kind : Int) (st code : List Int) : DS := ⟨kind, st, 0, 4294967295, code, 4, shV code 4 0 0, false⟩
theorem newDS_ok {kind : Int} {st code : List Int} (h : okModel kind st) (hb : Bytes code) (hl : code.length ≤ 1099511627776) : (newDS kind st code).ok := by
 have hv := shV_range hb 4 0 0 (by omega) (by omega)
 exact ⟨h, show (0 : Int) ≤ 0 by decide, show (0 : Int) ≤ 4294967295 by decide, show (4294967295 : Int) ≤ 4294967295 by decide, show (0 : Int) / 16777216 ≠ 4294967295 / 16777216 by decide, hv.1, hv.2, hb, hl, show 4 - code.length ≤ 4 by omega⟩
theorem dec42_new (kind : Int) (v vc : Value) : dec42 kind v 0 4294967295 vc 0 0 0 false true = #[.int .i64 kind, v, .int .i64 2048, .int .i64 1792, .int .i64 1568, .int .i64 1372, .int .i64 1201, .int .i64 1051, .int .i64 920, .int .i64 805, .int .i64 705, .int .i64 617, .int .i64 540, .int .i64 473, .int .i64 414, .int .i64 363, .int .i64 318, .int .i64 279, .int .i64 245, .int .i64 215, .int .i64 189, .int .i64 166, .int .i64 146, .int .i64 128, .int .i64 112, .int .i64 98, .int .i64 86, .int .i64 76, .int .i64 67, .int .i64 59, .int .i64 52, .int .i64 46, .int .i64 41, .int .i64 36, .int .u64 0, .int .u64 4294967295, vc, .int .i64 0, .int .u64 0, .int .i64 0, .bool false, .bool true] := rfl
def NewDecPost (w : World) (kind : Int) (st code : List Int) (e : Ending) (w' : World) : Prop := ∃ g, e = .returned (.tuple #[.pointer (some ⟨g, 0, none⟩), .int .i64 0]) ∧ DecAt w' (Since w.heap.size w') g (newDS kind st code) ∧ Below w.heap.size w w'
set_option maxHeartbeats 4000000 in
set_option maxRecDepth 100000 in
theorem new_dec (A : Option Addr) (c : Nat) (kind : Int) (st : List Int) (Ac : Option Addr) (cc : Nat) (code : List Int) (w : World) (hC : Kd.C (Kd.int .i64) w A st.length st) (hc : st.length ≤ c) (hm : okModel kind st) (hCc : Kd.C (Kd.int .u8) w Ac code.length code) (hcc : code.length ≤ cc) (hby : Bytes code) (hlen : code.length ≤ 1099511627776) :
 Calls Try.prog 34 #[.agg #[.int .i64 kind, .slice A st.length c], .slice Ac code.length cc] w (NewDecPost w kind st code) := by
 have HC := A' hC
 have HCc := A' hCc
 have hv := valid_calls A c kind st
 rw [decide_eq_true hm] at hv
 have HV := A' hv
 have HM := A' hm
 have HBY := A' hby
 have hl := hm.2.1
 clear hC hv hm hCc hby
 have hb0 := A' (below_alloc (Below.refl w.heap.size w) (.cells #[.int .i64 kind, .slice A st.length c] 45))
 have hq0 : Aside0 ((w.alloc (.cells #[.int .i64 kind, .slice A st.length c] 45)).heap[w.heap.size]? = some (.cells #[.int .i64 kind, .slice A st.length c] 45 (0, 0))) := ⟨heap_new _ _⟩
 go_enter Try.func34, Try.ntmps34
 go_wp2_with (first
  | (go_at_call 51; refine (HV.out _ (Kd.C_below HC.out hb0.out) hc).mono ?_; rintro e w1 ⟨rfl, hB⟩; have HB := A' (below_then hb0.out hb0.out.size hB); have hq1 : Aside0 (w1.heap[w.heap.size]? = some (.cells #[.int .i64 kind, .slice A st.length c] 45 (0, 0))) := ⟨(hB.block _ (blk_lt hq0.out)).trans hq0.out⟩; have k0 : w1.cell? ⟨w.heap.size, 0, none⟩ = some (.int .i64 kind) := (blk_cell hq1.out 0).trans rfl; have k1 : w1.cell? ⟨w.heap.size, 1, none⟩ = some (.slice A st.length c) := (blk_cell hq1.out 1).trans rfl; clear hB)
  | (go_at_call 52; refine (begin_calls A c kind st _ (Kd.C_below HC.out HB.out) hc (by omega)).mono ?_; rintro e w2 ⟨A2, c2, rfl, hR, hB⟩; have HB2 := A' (below_then HB.out HB.out.size hB); have HR := A' (Kd.R_alloc (Kd.R_lower hR HB.out.size) (.cells #[] 5)); have HR1 : Aside0 (Kd.R (Kd.int .u8) 5 (w2.alloc (.cells #[] 5)) w.heap.size (fun _ => True) (.slice (some ⟨w2.heap.size, 0, none⟩) 0 0) []) := ⟨Kd.R_of_own (enc := Value.int .u8) (World.ownsRow_lit w2 #[] 0 HB2.out.size (by decide) rfl) (fun _ _ => trivial)⟩; have HB2' := A' (below_alloc HB2.out (.cells #[] 5)); have HCo := A' (Kd.C_below HCc.out HB2'.out); clear hR hB; unfold iv36)
  | (at_builtin; refine Kd.R_append_rows (Kd.int .u8) (w0 := w) w.heap.size (by rfl) (.tmp 12) (.tmp 13) 29 5 (.int .u8 0) 1 rfl Try.underlying29 infoU8 rfl (by decide) (by omega) (.slice (some ⟨w2.heap.size, 0, none⟩) 0 0) [] code _ _ _ (fun _ => True) (fun _ => False) rfl rfl HR1.out HCo.out (fun _ _ h => h) (fun _ h => h.elim) (fun _ _ => trivial) HB2'.out HB2'.out.size (by simp only [List.length_nil]; omega) ?_; intro v3 w3 hR3 hB3 hg3 hat3; rw [List.nil_append] at hR3; obtain ⟨A3, c3, hv3⟩ := Kd.R_slice hR3; subst hv3; have HS3 := A' (Kd.R_over HR.out HR1.out (by decide) hg3); have HR3 := A' hR3; have HB3 := A' hB3; clear hR3 hB3 hg3 hat3))
 clear HR1 HR HCo HB2' HV
 rw [← dec42_new]
 have HR0 := A' (heap_new w3 (.cells (dec42 kind (.slice A2 st.length c2) 0 4294967295 (.slice A3 code.length c3) 0 0 0 false true) 121))
 have HB4 := A' (below_alloc HB3.out (.cells (dec42 kind (.slice A2 st.length c2) 0 4294967295 (.slice A3 code.length c3) 0 0 0 false true) 121))
 have HRS := A' (Kd.R_alloc HS3.out (.cells (dec42 kind (.slice A2 st.length c2) 0 4294967295 (.slice A3 code.length c3) 0 0 0 false true) 121))
 have HRO := A' (Kd.R_alloc HR3.out (.cells (dec42 kind (.slice A2 st.length c2) 0 4294967295 (.slice A3 code.length c3) 0 0 0 false true) 121))
 generalize w3.alloc (.cells (dec42 kind (.slice A2 st.length c2) 0 4294967295 (.slice A3 code.length c3) 0 0 0 false true) 121) = w4 at HR0 HB4 HRS HRO ⊢
 have HQ3 := A' HB3.out.size
 obtain ⟨q, hq⟩ : ∃ q, w3.heap.size = q := ⟨_, rfl⟩
 rw [hq] at HR0 HQ3 ⊢
 obtain ⟨S, hS⟩ : ∃ S : Nat → Prop, S = Since w.heap.size w4 := ⟨_, rfl⟩
 have HE0 : Aside0 (DecRow w4 S q kind A2 c2 st 0 4294967295 (.slice A3 code.length c3) code 0 0 false) := ⟨by
  subst hS
  refine ⟨?_, Kd.R_lower (Kd.R_mono (Kd.R_bound HRS.out) fun k hk => ⟨hk.2.1, hk.2.2.1⟩) (Nat.zero_le _), Kd.R_lower (Kd.R_mono (Kd.R_bound HRO.out) fun k hk => ⟨hk.2.1, hk.2.2.1⟩) (Nat.zero_le _), ⟨HQ3.out, blk_lt HR0.out⟩⟩
  rw [Nat.zero_sub]
  exact HR0.out⟩
 have HS := A' hS
 clear hS HR0 HRS HRO HS3 HR3 HB3 HB2 HB hq hq0 hq1 hb0 k0 k1
 go_loopw [17] (fun i wr => ∃ (k : Nat), k ≤ 4 ∧ i = .int .i64 k ∧ Aside0 (DecRow wr S q kind A2 c2 st 0 4294967295 (.slice A3 code.length c3) code k (shV code k 0 0) false) ∧ Aside0 (Mods w4 wr S)) (fun i _ => 5 - (intOf i).toNat)
 case atStart => exact ⟨0, by omega, rfl, HE0, ⟨Mods.refl _ _⟩⟩
 clear HE0
 case round =>
  obtain ⟨k, hk, rfl, HE, HK⟩ := hrel
  by_cases h4 : (k : Int) < 4
  · have HV := A' (shV_range HBY.out k 0 0 (by omega) (by omega))
    go_wp2_with (go_at_call 78; refine (shift_row _ S q kind _ c2 st _ _ _ code _ _ false HE.out HV.out.1 HV.out.2 HBY.out hlen (by omega)).mono ?_; rintro e w8 ⟨rfl, hE9, hK9⟩; have HE9 := A' hE9; have HK9 := A' (HK.out.then_ hK9 (fun _ h => .inl h)); clear hE9 hK9)
    go_roundw
    case measure => simp only [intOf]; omega
    case rel =>
     refine ⟨k + 1, by omega, rfl, ⟨?_⟩, HK9⟩
     have h9 := HE9.out
     have e9 := shV_succ code k 0 0
     rw [Nat.zero_add] at e9
     rw [e9]
     exact h9
  · have e4 : k = 4 := by omega
    subst e4
    go_wp2
    go_ret2
    have hb := below_mods HB4.out HK.out (fun k hk => by rw [HS.out] at hk; exact hk.1) HB4.out.size
    refine ⟨q, rfl, ⟨A2, c2, .slice A3 code.length c3, HE.out.mono fun k hk => ?_⟩, hb⟩
    rw [HS.out] at hk
    exact ⟨hk.1, Nat.lt_of_lt_of_le hk.2 HK.out.size⟩
set_option maxRecDepth 100000 in
theorem dec_model_calls (w : World) (S : Nat → Prop) (g : Nat) (s : DS) (hE : DecAt w S g s) (hok : s.ok) :
 Calls Try.prog 81 #[.pointer (some ⟨g, 0, none⟩)] w (MPost w s.kind s.st) := by
 obtain ⟨A, c, vo, hR⟩ := hE
 have HE := A' (hR.below (below_alloc (Below.refl _ _) (.cells #[.int .i64 0, .slice none 0 0] 45)))
 have HB := A' (below_alloc (Below.refl w.heap.size w) (.cells #[.int .i64 0, .slice none 0 0] 45))
 have HZ := A' (heap_new w (.cells #[.int .i64 0, .slice none 0 0] 45))
 have hu := Try.underlying45
 have h2 := HE.out.c41
 have k0 := HE.out.iv.k
 have k1 := HE.out.iv.s
 have hl := hok.m.2.1
 obtain ⟨hn, hc, hC⟩ := Kd.R_reads' HE.out.s
 have HC := A' hC
 obtain ⟨b2, hb2⟩ : ∃ b2, w.heap.size = b2 := ⟨_, rfl⟩
 have HSZ := A' hb2
 rw [hb2] at HZ
 clear hR hn hC
 go_enter Try.func81, Try.ntmps81
 go_wp2_with (first
  | (go_at_call 79; refine (dec_none _ _ _ h2).mono ?_; rintro e w' ⟨rfl, rfl⟩)
  | (go_at_call 77; refine (clone_calls A c s.kind s.st _ HC.out hc (by omega)).mono ?_; rintro e w4 ⟨A4, c4, rfl, hR4, hB4⟩; have HR4 := A' (Kd.R_lower hR4 HB.out.size); have HB4 := A' (below_then HB.out HB.out.size hB4); have HZ4 := A' (blk_below HZ.out hB4); have z0 : w4.cell? ⟨b2, 0, none⟩ = some (.int .i64 0) := (blk_cell HZ4.out 0).trans rfl; have z1 : w4.cell? ⟨b2, 1, none⟩ = some (.slice none 0 0) := (blk_cell HZ4.out 1).trans rfl; have zf0 := blk_frozen HZ4.out 0; have zf1 := blk_frozen HZ4.out 1; clear hR4 hB4))
 have hz2 : (w4.setCell ⟨b2, 0, none⟩ (.int .i64 s.kind)).heap[b2]? = some (.cells #[.int .i64 s.kind, .slice none 0 0] 45 (0, 0)) := blk_put (cs := #[.int .i64 0, .slice none 0 0]) HZ4.out 0 _ rfl
 refine bodyPost_ret (results_cell_row rfl _ _ b2 45 #[.int .i64 s.kind, .slice A4 s.st.length c4] (0, 0) _ rfl (blk_put (cs := #[.int .i64 s.kind, .slice none 0 0]) hz2 1 _ rfl) Try.underlying45 rfl (by kernel_rfl)) rfl ?_
 have hwb : w.heap.size ≤ b2 := by rw [HSZ.out]; exact Nat.le_refl _
 exact ⟨A4, c4, rfl, Kd.R_set (Kd.R_set HR4.out HZ4.out (by decide) _ _) hz2 (by decide) _ _, (HB4.out.setCell hwb _).setCell hwb _⟩
end Go.Proofs.Ytkfejicdjpffcaa.DecNew
namespace Go.Proofs.Ytkfejicdjpffcaa.RefAt
open Go Go.RowKit YtkfejicdjpffcaaW PrintWords PrintLast PrintMore Aid HandAid Cod1 Cod2 Cod3 Ytkfejicdjpffcaa.Mod Enc Mods EncAt Put U
/-- The reference's encoder: its cells. -/
def ref5 (kind : Int) (v : Value) (low high : Int) (o : Value) : Array Value := #[.int .i64 kind, v, .int .u64 low, .int .u64 high, o]
structure RefRow (W : World) (S : Nat → Prop) (g : Nat) (kind : Int) (A : Option Addr) (c : Nat) (st : List Int) (low high : Int) (vo : Value) (out : List Int) : Prop where
 b : W.heap[g]? = some (.cells (ref5 kind (.slice A st.length c) low high vo) 99 (0, 0))
 s : Kd.R (Kd.int .i64) 3 W 0 S (.slice A st.length c) st
 o : Kd.R (Kd.int .u8) 5 W 0 S vo out
 g : S g
section
variable {W W' : World} {S S' : Nat → Prop} {g : Nat} {kind : Int} {A : Option Addr} {c : Nat} {st : List Int} {low high : Int} {vo : Value} {out : List Int}
theorem RefRow.kept (h : RefRow W S g kind A c st low high vo out) (hk : Mods W W' S') (hne : ∀ k, S k → ¬ S' k) : RefRow W' S g kind A c st low high vo out :=
 ⟨blk_kept h.b hk.kept (hne g h.g), Kd.R_kept h.s hk.kept hne, Kd.R_kept h.o hk.kept hne, h.g⟩
theorem RefRow.below (h : RefRow W S g kind A c st low high vo out) (hb : Below W.heap.size W W') : RefRow W' S g kind A c st low high vo out :=
 ⟨blk_below h.b hb, Kd.R_below h.s hb, Kd.R_below h.o hb, h.g⟩
theorem RefRow.drewN (h : RefRow W S g kind A c st low high vo out) (m : Nat) : RefRow (W.drewN m) S g kind A c st low high vo out := h.below (pw_below_drewN (Below.refl _ _) m)
theorem RefRow.drew (h : RefRow W S g kind A c st low high vo out) : RefRow W.drew S g kind A c st low high vo out := h.below (below_drew (Below.refl _ _))
theorem RefRow.mono (h : RefRow W S g kind A c st low high vo out) (hs : ∀ k, S k → S' k) : RefRow W S' g kind A c st low high vo out :=
 ⟨h.b, Kd.R_mono h.s hs, Kd.R_mono h.o hs, hs g h.g⟩
theorem RefRow.bound (h : RefRow W S g kind A c st low high vo out) : RefRow W (fun k => S k ∧ k < W.heap.size) g kind A c st low high vo out :=
 ⟨h.b, Kd.R_mono (Kd.R_bound h.s) (fun _ hk => ⟨hk.1, hk.2.2.1⟩), Kd.R_mono (Kd.R_bound h.o) (fun _ hk => ⟨hk.1, hk.2.2.1⟩), h.g, blk_lt h.b⟩
theorem RefRow.c0 (h : RefRow W S g kind A c st low high vo out) : W.cell? ⟨g, 0, none⟩ = some (.int .i64 kind) := (blk_cell h.b 0).trans rfl
theorem RefRow.c1 (h : RefRow W S g kind A c st low high vo out) : W.cell? ⟨g, 1, none⟩ = some (.slice A st.length c) := (blk_cell h.b 1).trans rfl
theorem RefRow.c2 (h : RefRow W S g kind A c st low high vo out) : W.cell? ⟨g, 2, none⟩ = some (.int .u64 low) := (blk_cell h.b 2).trans rfl
theorem RefRow.c3 (h : RefRow W S g kind A c st low high vo out) : W.cell? ⟨g, 3, none⟩ = some (.int .u64 high) := (blk_cell h.b 3).trans rfl
theorem RefRow.c4 (h : RefRow W S g kind A c st low high vo out) : W.cell? ⟨g, 4, none⟩ = some vo := (blk_cell h.b 4).trans rfl
theorem RefRow.fz (h : RefRow W S g kind A c st low high vo out) (i : Nat) : W.frozen? ⟨g, i, none⟩ = false := blk_frozen h.b i
theorem RefRow.cell (h : RefRow W S g kind A c st low high vo out) {i : Nat} (hi : i < st.length) : ∃ b, A = some ⟨b, 0, none⟩ ∧ W.cell? ⟨b, i, none⟩ = some (.int .i64 (rd st i)) ∧ W.frozen? ⟨b, i, none⟩ = false ∧ b ≠ g := by
 obtain ⟨b, cap, hv, _, _, cells, hc⟩ := Kd.R_form h.s (by omega)
 injection hv with hA _ hcap
 subst hA hcap
 have h1 := Kd.R_cell (0 : Int) h.s (i : Int) (by omega) (by omega)
 have hne : b ≠ g := blk_ne hc h.b (by decide)
 exact ⟨b, rfl, h1.1, h1.2, hne⟩
theorem RefRow.cut (h : RefRow W S g kind A c st low high vo out) (l' h' : Int) : RefRow ((W.setCell ⟨g, 2, none⟩ (.int .u64 l')).setCell ⟨g, 3, none⟩ (.int .u64 h')) S g kind A c st l' h' vo out := by
 have h1 : (W.setCell ⟨g, 2, none⟩ (.int .u64 l')).heap[g]? = some (.cells (ref5 kind (.slice A st.length c) l' high vo) 99 (0, 0)) := blk_put h.b 2 _ rfl
 exact ⟨blk_put h1 3 _ rfl, Kd.R_set (Kd.R_set h.s h.b (by decide) _ _) h1 (by decide) _ _, Kd.R_set (Kd.R_set h.o h.b (by decide) _ _) h1 (by decide) _ _, h.g⟩
theorem RefRow.setst {b : Nat} (h : RefRow W S g kind (some ⟨b, 0, none⟩) c st low high vo out) {i : Nat} (hi : i < st.length) (x : Int) : RefRow (W.setCell ⟨b, i, none⟩ (.int .i64 x)) S g kind (some ⟨b, 0, none⟩) c (st.set i x) low high vo out := by
 obtain ⟨b', hA, _, _, hne⟩ := h.cell hi
 injection hA with hA
 injection hA with hA _ _
 subst hA
 obtain ⟨cells, hty⟩ := Kd.R_typed h.s b (by simp [Value.ownBlock])
 have hp := (Kd.R_put (enc := Value.int .i64) h.s (i : Int) x).1
 rw [Int.toNat_natCast] at hp
 have hl : (st.set i x).length = st.length := List.length_set
 refine ⟨?_, ?_, Kd.R_set h.o hty (by decide) _ _, h.g⟩
 · rw [hl]
   exact blk_far h.b (Ne.symm hne) _
 · rw [hl]
   exact hp
theorem RefRow.grew {v1 : Value} {out1 : List Int} (h : RefRow W S g kind A c st low high vo out) (hg : W.grownBy W' vo.ownBlock) (hR : Kd.R (Kd.int .u8) 5 W' 0 S v1 out1) : RefRow (W'.setCell ⟨g, 4, none⟩ v1) S g kind A c st low high v1 out1 := by
 have hb : W'.heap[g]? = some (.cells (ref5 kind (.slice A st.length c) low high vo) 99 (0, 0)) := blk_grown h.b hg (Kd.R_ne h.o h.b (by decide))
 have hs := Kd.R_over h.s h.o (by decide) hg
 exact ⟨blk_put hb 4 _ rfl, Kd.R_set hs hb (by decide) _ _, Kd.R_set hR hb (by decide) _ _, h.g⟩
end
def RefAt (W : World) (S : Nat → Prop) (g : Nat) (s : ES) : Prop := ∃ A c vo, RefRow W S g s.kind A c s.st s.low s.high vo s.out
theorem RefAt.kept {W W' : World} {S S' : Nat → Prop} {g : Nat} {s : ES} (h : RefAt W S g s) (hk : Mods W W' S') (hne : ∀ k, S k → ¬ S' k) : RefAt W' S g s := by
 obtain ⟨A, c, vo, h⟩ := h
 exact ⟨A, c, vo, h.kept hk hne⟩
theorem RefAt.below {W W' : World} {S : Nat → Prop} {g : Nat} {s : ES} (h : RefAt W S g s) (hb : Below W.heap.size W W') : RefAt W' S g s := by
 obtain ⟨A, c, vo, h⟩ := h
 exact ⟨A, c, vo, h.below hb⟩
theorem RefAt.mono {W : World} {S S' : Nat → Prop} {g : Nat} {s : ES} (h : RefAt W S g s) (hs : ∀ k, S k → S' k) : RefAt W S' g s := by
 obtain ⟨A, c, vo, h⟩ := h
 exact ⟨A, c, vo, h.mono hs⟩
theorem RefAt.bound {W : World} {S : Nat → Prop} {g : Nat} {s : ES} (h : RefAt W S g s) : RefAt W (fun k => S k ∧ k < W.heap.size) g s := by
 obtain ⟨A, c, vo, h⟩ := h
 exact ⟨A, c, vo, h.bound⟩
theorem u64_id {x : Int} (h : 0 ≤ x) (h' : x < 18446744073709551616) : IntKind.u64.wrap x = x := wraps_u64 x h (by omega)
theorem mid_eq (low high p : Int) (h0 : 0 ≤ low) (h1 : low ≤ high) (h2 : high ≤ 4294967295) (h3 : 1 ≤ p) (h4 : p ≤ 4095) : incunableref02_Interval_Mid.f low high p = some (midOf low high p) := by
 have ha : (high - low) / 4096 * p ≤ (high - low) / 4096 * 4095 := Int.mul_le_mul_of_nonneg_left (by omega) (by omega)
 have hb : (high - low) % 4096 * p ≤ (high - low) % 4096 * 4095 := Int.mul_le_mul_of_nonneg_left (by omega) (by omega)
 have hc : 0 ≤ (high - low) / 4096 * p := Int.mul_nonneg (by omega) (by omega)
 have hd : 0 ≤ (high - low) % 4096 * p := Int.mul_nonneg (by omega) (by omega)
 unfold incunableref02_Interval_Mid.f midOf
 rw [u64_id (x := high - low) (by omega) (by omega), Int.tdiv_eq_ediv_of_nonneg (by omega), Int.tmod_eq_emod_of_nonneg (by omega), u64_id (x := p) (by omega) (by omega), u64_id (x := (high - low) / 4096) (by omega) (by omega), u64_id (x := (high - low) / 4096 * p) hc (by omega), u64_id (x := (high - low) % 4096 * p) hd (by omega), Int.tdiv_eq_ediv_of_nonneg hd, u64_id (x := (high - low) % 4096 * p / 4096) (by omega) (by omega), u64_id (x := low + (high - low) / 4096 * p) (by omega) (by omega), u64_id (by omega) (by omega)]
theorem part_eq (low high p bit : Int) (h0 : 0 ≤ low) (h1 : low ≤ high) (h2 : high ≤ 4294967295) (h3 : 1 ≤ p) (h4 : p ≤ 4095) : incunableref02_Interval_Part.f low high p bit = some (cutL low (midOf low high p) bit, cutH high (midOf low high p) bit) := by
 have hm := mid_range low high p h1 h3 h4
 unfold incunableref02_Interval_Part.f cutL cutH
 rw [mid_eq low high p h0 h1 h2 h3 h4]
 simp only [Option.bind_some]
 by_cases c : bit = 1
 · rw [if_pos c, if_pos c, if_pos c]
 · rw [if_neg c, if_neg c, if_neg c, u64_id (by omega) (by omega)]
theorem part_calls (low high p bit : Int) (w : World) (h0 : 0 ≤ low) (h1 : low ≤ high) (h2 : high ≤ 4294967295) (h3 : 1 ≤ p) (h4 : p ≤ 4095) : Calls Try.prog 64 #[.agg #[.int .u64 low, .int .u64 high], .int .i64 p, .int .i64 bit] w fun e w' => e = .returned (.agg #[.int .u64 (cutL low (midOf low high p) bit), .int .u64 (cutH high (midOf low high p) bit)]) ∧ Below w.heap.size w w' :=
 incunableref02_Interval_Part.calls low high p bit _ _ w (part_eq low high p bit h0 h1 h2 h3 h4)
theorem fixed_calls (low high : Int) (w : World) : Calls Try.prog 66 #[.agg #[.int .u64 low, .int .u64 high]] w fun e w' => e = .returned (.bool (decide (low / 16777216 = high / 16777216))) ∧ Below w.heap.size w w' :=
 incunableref02_Interval_Fixed.calls low high _ w rfl
theorem shift_calls (low high : Int) (w : World) (h0 : 0 ≤ low) (h1 : low ≤ 4294967295) (h2 : 0 ≤ high) (h3 : high ≤ 4294967295) : Calls Try.prog 67 #[.agg #[.int .u64 low, .int .u64 high]] w fun e w' => e = .returned (.agg #[.int .u64 (low % 16777216 * 256), .int .u64 (high % 16777216 * 256 + 255)]) ∧ Below w.heap.size w w' :=
 incunableref02_Interval_Shifted.calls low high _ _ w (by
  unfold incunableref02_Interval_Shifted.f
  rw [Int.tmod_eq_emod_of_nonneg h0, Int.tmod_eq_emod_of_nonneg h2, u64_id (x := low % 16777216 * 256) (by omega) (by omega), u64_id (x := high % 16777216 * 256) (by omega) (by omega), u64_id (by omega) (by omega)])
theorem likelyB (kind s : Int) (w : World) (hs : okState kind s) : Calls Try.prog 63 #[.int .i64 kind, .int .i64 s] w fun e w' => e = .returned (.int .i64 (likely kind s)) ∧ Below w.heap.size w w' :=
 (ref_likely kind s w hs).mono (fun e w' h => ⟨h.1, h.2 ▸ Below.refl _ _⟩)
end Go.Proofs.Ytkfejicdjpffcaa.RefAt
namespace Go.Proofs.Ytkfejicdjpffcaa.RefPut
open Go Go.RowKit YtkfejicdjpffcaaW PrintWords PrintLast PrintMore Aid HandAid Cod1 Cod2 Cod3 Ytkfejicdjpffcaa.Mod Enc Mods EncAt Put U RefAt
end Go.Proofs.Ytkfejicdjpffcaa.RefPut
namespace Go.Proofs.Ytkfejicdjpffcaa.RefEnd
open Go Go.RowKit YtkfejicdjpffcaaW PrintWords PrintLast PrintMore Aid HandAid Cod1 Cod2 Cod3 Ytkfejicdjpffcaa.Mod Enc Mods EncAt Put End Snc RefAt RefPut U
/-- What a Model answers: a copy. -/
def ModelPost (w : World) (kind : Int) (st : List Int) (e : Ending) (w' : World) : Prop := ∃ A c, e = .returned (.agg #[.int .i64 kind, .slice A st.length c]) ∧ Kd.R (Kd.int .i64) 3 w' w.heap.size (fun _ => True) (.slice A st.length c) st ∧ Below w.heap.size w w'
set_option maxRecDepth 100000 in
theorem model_calls (w : World) (S : Nat → Prop) (g : Nat) (s : ES) (hE : EncAt w S g s) (hok : s.ok) :
 Calls Try.prog 32 #[.pointer (some ⟨g, 0, none⟩)] w (ModelPost w s.kind s.st) := by
 obtain ⟨A, c, vo, hR⟩ := hE
 have HE := A' (hR.below (below_alloc (Below.refl _ _) (.cells #[.int .i64 0, .slice none 0 0] 45)))
 have HB := A' (below_alloc (Below.refl w.heap.size w) (.cells #[.int .i64 0, .slice none 0 0] 45))
 have HZ := A' (heap_new w (.cells #[.int .i64 0, .slice none 0 0] 45))
 have hu := Try.underlying45
 have h2 := HE.out.real
 have k0 := HE.out.iv.k
 have k1 := HE.out.iv.s
 have hl := hok.m.2.1
 obtain ⟨hn, hc, hC⟩ := Kd.R_reads' HE.out.s
 have HC := A' hC
 obtain ⟨b2, hb2⟩ : ∃ b2, w.heap.size = b2 := ⟨_, rfl⟩
 have HSZ := A' hb2
 rw [hb2] at HZ
 clear hR hn hC
 go_enter Try.func32, Try.ntmps32
 go_wp2_with (first
  | (go_at_call 70; refine (enc_none _ _ _ h2).mono ?_; rintro e w' ⟨rfl, rfl⟩)
  | (go_at_call 77; refine (clone_calls A c s.kind s.st _ HC.out hc (by omega)).mono ?_; rintro e w4 ⟨A4, c4, rfl, hR4, hB4⟩; have HR4 := A' (Kd.R_lower hR4 HB.out.size); have HB4 := A' (below_then HB.out HB.out.size hB4); have HZ4 := A' (blk_below HZ.out hB4); have z0 : w4.cell? ⟨b2, 0, none⟩ = some (.int .i64 0) := (blk_cell HZ4.out 0).trans rfl; have z1 : w4.cell? ⟨b2, 1, none⟩ = some (.slice none 0 0) := (blk_cell HZ4.out 1).trans rfl; have zf0 := blk_frozen HZ4.out 0; have zf1 := blk_frozen HZ4.out 1; clear hR4 hB4))
 have hz2 : (w4.setCell ⟨b2, 0, none⟩ (.int .i64 s.kind)).heap[b2]? = some (.cells #[.int .i64 s.kind, .slice none 0 0] 45 (0, 0)) := blk_put (cs := #[.int .i64 0, .slice none 0 0]) HZ4.out 0 _ rfl
 refine bodyPost_ret (results_cell_row rfl _ _ b2 45 #[.int .i64 s.kind, .slice A4 s.st.length c4] (0, 0) _ rfl (blk_put (cs := #[.int .i64 s.kind, .slice none 0 0]) hz2 1 _ rfl) Try.underlying45 rfl (by kernel_rfl)) rfl ?_
 have hwb : w.heap.size ≤ b2 := by rw [HSZ.out]; exact Nat.le_refl _
 exact ⟨A4, c4, rfl, Kd.R_set (Kd.R_set HR4.out HZ4.out (by decide) _ _) hz2 (by decide) _ _, (HB4.out.setCell hwb _).setCell hwb _⟩
end Go.Proofs.Ytkfejicdjpffcaa.RefEnd
namespace Go.Proofs.Ytkfejicdjpffcaa.RDec
open Go Go.RowKit YtkfejicdjpffcaaW PrintWords PrintLast PrintMore Aid HandAid Cod1 Cod2 Cod3 Ytkfejicdjpffcaa.Mod Enc Mods EncAt Put End Snc RefAt Dec Get U
attribute [local go_sem low] max2_int
attribute [local go_sem] min2_int max_two min_two
theorem max_sub (k n : Nat) : Builtin.max2 (.int .i64 0) (.int .i64 ((k : Int) - (n : Int))) = pure (.int .i64 ((k - n : Nat) : Int)) := by
 rw [max2_int]
 congr 2
 split <;> omega
attribute [local go_sem high] max_sub
/-- The reference's decoder: its cells. -/
def dec9 (kind : Int) (v : Value) (low high : Int) (vc : Value) (a value be : Int) (ended : Bool) : Array Value := #[.int .i64 kind, v, .int .u64 low, .int .u64 high, vc, .int .i64 a, .int .u64 value, .int .i64 be, .bool ended]
structure RDecRow (W : World) (S : Nat → Prop) (g : Nat) (kind : Int) (A : Option Addr) (c : Nat) (st : List Int) (low high : Int) (vc : Value) (code : List Int) (a value be : Int) (ended : Bool) : Prop where
 b : W.heap[g]? = some (.cells (dec9 kind (.slice A st.length c) low high vc a value be ended) 125 (0, 0))
 s : Kd.R (Kd.int .i64) 3 W 0 S (.slice A st.length c) st
 o : Kd.R (Kd.int .u8) 5 W 0 S vc code
 g : S g
section
variable {W W' : World} {S S' : Nat → Prop} {g : Nat} {kind : Int} {A : Option Addr} {c : Nat} {st : List Int} {low high : Int} {vc : Value} {code : List Int} {a value be : Int} {ended : Bool}
theorem RDecRow.kept (h : RDecRow W S g kind A c st low high vc code a value be ended) (hk : Mods W W' S') (hne : ∀ k, S k → ¬ S' k) : RDecRow W' S g kind A c st low high vc code a value be ended :=
 ⟨blk_kept h.b hk.kept (hne g h.g), Kd.R_kept h.s hk.kept hne, Kd.R_kept h.o hk.kept hne, h.g⟩
theorem RDecRow.below (h : RDecRow W S g kind A c st low high vc code a value be ended) (hb : Below W.heap.size W W') : RDecRow W' S g kind A c st low high vc code a value be ended :=
 ⟨blk_below h.b hb, Kd.R_below h.s hb, Kd.R_below h.o hb, h.g⟩
theorem RDecRow.drewN (h : RDecRow W S g kind A c st low high vc code a value be ended) (m : Nat) : RDecRow (W.drewN m) S g kind A c st low high vc code a value be ended := h.below (pw_below_drewN (Below.refl _ _) m)
theorem RDecRow.drew (h : RDecRow W S g kind A c st low high vc code a value be ended) : RDecRow W.drew S g kind A c st low high vc code a value be ended := h.below (below_drew (Below.refl _ _))
theorem RDecRow.mono (h : RDecRow W S g kind A c st low high vc code a value be ended) (hs : ∀ k, S k → S' k) : RDecRow W S' g kind A c st low high vc code a value be ended :=
 ⟨h.b, Kd.R_mono h.s hs, Kd.R_mono h.o hs, hs g h.g⟩
theorem RDecRow.c0 (h : RDecRow W S g kind A c st low high vc code a value be ended) : W.cell? ⟨g, 0, none⟩ = some (.int .i64 kind) := (blk_cell h.b 0).trans rfl
theorem RDecRow.c1 (h : RDecRow W S g kind A c st low high vc code a value be ended) : W.cell? ⟨g, 1, none⟩ = some (.slice A st.length c) := (blk_cell h.b 1).trans rfl
theorem RDecRow.c2 (h : RDecRow W S g kind A c st low high vc code a value be ended) : W.cell? ⟨g, 2, none⟩ = some (.int .u64 low) := (blk_cell h.b 2).trans rfl
theorem RDecRow.c3 (h : RDecRow W S g kind A c st low high vc code a value be ended) : W.cell? ⟨g, 3, none⟩ = some (.int .u64 high) := (blk_cell h.b 3).trans rfl
theorem RDecRow.c4 (h : RDecRow W S g kind A c st low high vc code a value be ended) : W.cell? ⟨g, 4, none⟩ = some vc := (blk_cell h.b 4).trans rfl
theorem RDecRow.c5 (h : RDecRow W S g kind A c st low high vc code a value be ended) : W.cell? ⟨g, 5, none⟩ = some (.int .i64 a) := (blk_cell h.b 5).trans rfl
theorem RDecRow.c6 (h : RDecRow W S g kind A c st low high vc code a value be ended) : W.cell? ⟨g, 6, none⟩ = some (.int .u64 value) := (blk_cell h.b 6).trans rfl
theorem RDecRow.c7 (h : RDecRow W S g kind A c st low high vc code a value be ended) : W.cell? ⟨g, 7, none⟩ = some (.int .i64 be) := (blk_cell h.b 7).trans rfl
theorem RDecRow.c8 (h : RDecRow W S g kind A c st low high vc code a value be ended) : W.cell? ⟨g, 8, none⟩ = some (.bool ended) := (blk_cell h.b 8).trans rfl
theorem RDecRow.fz (h : RDecRow W S g kind A c st low high vc code a value be ended) (i : Nat) : W.frozen? ⟨g, i, none⟩ = false := blk_frozen h.b i
theorem RDecRow.cell (h : RDecRow W S g kind A c st low high vc code a value be ended) {i : Nat} (hi : i < st.length) : ∃ b, A = some ⟨b, 0, none⟩ ∧ W.cell? ⟨b, i, none⟩ = some (.int .i64 (rd st i)) ∧ W.frozen? ⟨b, i, none⟩ = false ∧ b ≠ g := by
 obtain ⟨b, cap, hv, _, _, cells, hc⟩ := Kd.R_form h.s (by omega)
 injection hv with hA _ hcap
 subst hA hcap
 have h1 := Kd.R_cell (0 : Int) h.s (i : Int) (by omega) (by omega)
 have hne : b ≠ g := blk_ne hc h.b (by decide)
 exact ⟨b, rfl, h1.1, h1.2, hne⟩
theorem RDecRow.put (h : RDecRow W S g kind A c st low high vc code a value be ended) (j : Nat) (u : Value) {kind' low' high' a' value' be' : Int} {ended' : Bool} (e : (dec9 kind (.slice A st.length c) low high vc a value be ended).setIfInBounds j u = dec9 kind' (.slice A st.length c) low' high' vc a' value' be' ended') : RDecRow (W.setCell ⟨g, j, none⟩ u) S g kind' A c st low' high' vc code a' value' be' ended' :=
 ⟨blk_put h.b j u e, Kd.R_set h.s h.b (by decide) _ _, Kd.R_set h.o h.b (by decide) _ _, h.g⟩
theorem RDecRow.setst {b : Nat} (h : RDecRow W S g kind (some ⟨b, 0, none⟩) c st low high vc code a value be ended) {i : Nat} (hi : i < st.length) (x : Int) : RDecRow (W.setCell ⟨b, i, none⟩ (.int .i64 x)) S g kind (some ⟨b, 0, none⟩) c (st.set i x) low high vc code a value be ended := by
 obtain ⟨b', hA, _, _, hne⟩ := h.cell hi
 injection hA with hA
 injection hA with hA _ _
 subst hA
 obtain ⟨cells, hty⟩ := Kd.R_typed h.s b (by simp [Value.ownBlock])
 have hp := (Kd.R_put (enc := Value.int .i64) h.s (i : Int) x).1
 rw [Int.toNat_natCast] at hp
 have hl : (st.set i x).length = st.length := List.length_set
 refine ⟨?_, ?_, Kd.R_set h.o hty (by decide) _ _, h.g⟩
 · rw [hl]
   exact blk_far h.b (Ne.symm hne) _
 · rw [hl]
   exact hp
/-- A write in another block. -/
theorem RDecRow.far (h : RDecRow W S g kind A c st low high vc code a value be ended) {p : Addr} (hp : ¬ S p.block) (u : Value) : RDecRow (W.setCell p u) S g kind A c st low high vc code a value be ended :=
 h.kept ((Mods.refl W (fun k => k = p.block)).setCell (.inl rfl) u) (fun k hk he => hp (he ▸ hk))
end
theorem byte_calls (Ac : Option Addr) (cc : Nat) (code : List Int) (i : Nat) (w : World) (hC : Kd.C (Kd.int .u8) w Ac code.length code) (hby : Bytes code) :
 Calls Try.prog 83 #[.slice Ac code.length cc, .int .i64 i] w fun e w' => e = .returned (.int .u64 (Dec.byteOf code i)) ∧ w = w' := by
 have HBY := A' hby
 clear hby
 by_cases hlt : i < code.length
 · have hb : Dec.byteOf code i = rd code i := if_pos hlt
   obtain ⟨ad, hA, hx⟩ := Kd.at_int hC (i : Int) (by omega) (by omega)
   subst hA
   rw [Int.toNat_natCast] at hx
   have hr := byteOf_range HBY.out i
   rw [hb] at hr
   have hi : (i : Int) < (code.length : Int) := by omega
   have HBB := A' hb
   clear hlt hb hC
   go_enter Try.func83, Try.ntmps83
   go_wp2
   go_ret
   exact ⟨by rw [HBB.out]; rfl, rfl⟩
 · have hb : Dec.byteOf code i = 0 := if_neg hlt
   have hi : ¬ (i : Int) < (code.length : Int) := by omega
   have HBB := A' hb
   clear hlt hb hC
   go_enter Try.func83, Try.ntmps83
   go_wp2
   go_ret
   exact ⟨by rw [HBB.out]; rfl, rfl⟩
theorem rmid_calls (low high p : Int) (w : World) (h0 : 0 ≤ low) (h1 : low ≤ high) (h2 : high ≤ 4294967295) (h3 : 1 ≤ p) (h4 : p ≤ 4095) : Calls Try.prog 91 #[.agg #[.int .u64 low, .int .u64 high], .int .i64 p] w fun e w' => e = .returned (.int .u64 (midOf low high p)) ∧ Below w.heap.size w w' :=
 incunableref02_Interval_Mid.calls low high p _ w (mid_eq low high p h0 h1 h2 h3 h4)
/-- What a Get that takes a bit leaves. -/
def RGetPost (w : World) (S : Nat → Prop) (g : Nat) (kind : Int) (b c : Nat) (st : List Int) (low high mid : Int) (vc : Value) (code : List Int) (a : Nat) (value : Int) (i : Nat) (bit : Int) (e : Ending) (w' : World) : Prop :=
 (∃ l h n, normE 4 (cutL low mid bit) (cutH high mid bit) = (n, l, h) ∧ ((a + n.length - code.length > 4 ∧ e = .returned (.tuple #[.int .i64 0, .int .i64 6]) ∧ RDecRow w' S g kind (some ⟨b, 0, none⟩) c st low high vc code a value ((a - code.length : Nat) : Int) true) ∨ (¬ a + n.length - code.length > 4 ∧ e = .returned (.tuple #[.int .i64 bit, .int .i64 0]) ∧ RDecRow w' S g kind (some ⟨b, 0, none⟩) c (st.set i (after kind (rd st i) bit)) l h vc code ((a + n.length : Nat) : Int) (shV code n.length value a) ((a + n.length - code.length : Nat) : Int) false))) ∧ Mods w w' S
set_option maxHeartbeats 4000000 in
set_option maxRecDepth 100000 in
theorem rget_row0 (w : World) (S : Nat → Prop) (g : Nat) (kind : Int) (b c : Nat) (st : List Int) (low high mid : Int) (vc : Value) (code : List Int) (a : Nat) (value : Int) (i : Nat) (hE : RDecRow w S g kind (some ⟨b, 0, none⟩) c st low high vc code a value ((a - code.length : Nat) : Int) false) (hSb : ∀ k, S k → k < w.heap.size) (hi : i < st.length) (hn : st.length ≤ 8192) (hs : okState kind (rd st i)) (hl0 : 0 ≤ low) (hlh : low ≤ high) (hh : high ≤ 4294967295) (hmid : midOf low high (likely kind (rd st i)) = mid) (hm0 : 0 ≤ mid) (hm1 : mid ≤ 4294967295) (hI0 : PutInv [] (cutL low mid 0) (cutH high mid 0) 4 (cutL low mid 0) (cutH high mid 0) []) (hv0 : 0 ≤ value) (hv1 : value ≤ 4294967295) (hby : Bytes code) (hlen : code.length ≤ 1099511627776) (ha : a - code.length ≤ 4) (hvb : ¬ value ≤ mid) :
 Calls Try.prog 84 #[.pointer (some ⟨g, 0, none⟩), .int .i64 i] w (RGetPost w S g kind b c st low high mid vc code a value i 0) := by
 have HE := A' hE
 have hSg : S g := hE.g
 have hSb2 : S b := hE.s.1 b (by simp [Value.ownBlock])
 obtain ⟨Ac, cc, hvc⟩ := Kd.R_slice hE.o
 subst hvc
 have k0 := hE.c0
 have k1 := hE.c1
 have k8 := hE.c8
 have ks : w.cell? ⟨b, i, none⟩ = some (.int .i64 (rd st i)) := by obtain ⟨b', hA, hc, _⟩ := hE.cell hi; cases hA; exact hc
 have hlk := likely_range kind (rd st i) hs
 have HMID := fun W => A' (hmid ▸ rmid_calls low high (likely kind (rd st i)) W hl0 hlh hh hlk.1 hlk.2)
 have HP := fun W => A' (hmid ▸ part_calls low high (likely kind (rd st i)) 0 W hl0 hlh hh hlk.1 hlk.2)
 have HI := A' hI0
 have HBY := A' hby
 have HSB := A' hSb
 have hu := Try.underlying96
 clear hE hmid hI0 hby hSb
 have hi1 : (0 : Int) ≤ (i : Int) := by omega
 have hi2 : (i : Int) < (st.length : Int) := by omega
 go_enter Try.func84, Try.ntmps84
 go_wp2
 refine start_ (n := 15) (S := fun w' => w'.cell? ⟨g, 0, none⟩ = some (.int .i64 kind) ∧ w'.cell? ⟨g, 1, none⟩ = some (.slice (some ⟨b, 0, none⟩) st.length c) ∧ w'.cell? ⟨b, i, none⟩ = some (.int .i64 (rd st i))) (ds := []) #[false, false, false, false, false, false, false, false, false, false, false, false, false, false, false] (by kernel_rfl) rfl rfl ⟨k0, k1, ks⟩ (fun hHeld => ?_)
 refine u' 0 30 (B' 15 1) ?_ rfl rfl (by kernel_rfl) (fun _ _ _ h => h) (.inl ⟨by rfl, ?_⟩) ?_ ?_ ?_; rotate_left; (intro w'; go_simp; with_reducible rfl); rotate_left; (simp only [Act.put, p1', p2', p3', i64_w, i32_w]; rfl)
 refine u' 1 31 (B' 15 3) ?_ rfl rfl (by kernel_rfl) (fun _ _ _ h => h) (.inl ⟨by rfl, ?_⟩) ?_ ?_ ?_; rotate_left; (intro w'; go_simp; with_reducible rfl); rotate_left; (simp only [Act.put, p1', p2', p3', i64_w, i32_w]; rfl)
 refine u' 2 32 (B' 15 7) ?_ rfl rfl (by kernel_rfl) (fun _ _ _ h => h) (.inl ⟨by rfl, ?_⟩) ?_ ?_ ?_; rotate_left; (intro w'; go_simp; with_reducible rfl); rotate_left; (simp only [Act.put, p1', p2', p3', i64_w, i32_w]; rfl)
 refine u' 3 33 (B' 15 15) ?_ rfl rfl (by kernel_rfl) (fun _ _ _ h => h) (.inl ⟨by rfl, ?_⟩) ?_ ?_ ?_; rotate_left; (intro w'; go_simp; with_reducible rfl); rotate_left; (simp only [Act.put, p1', p2', p3', i64_w, i32_w]; rfl)
 refine u' 5 35 (B' 15 47) ?_ rfl rfl (by kernel_rfl) (fun _ _ _ h => h) (.inl ⟨by rfl, ?_⟩) ?_ ?_ ?_; rotate_left; (intro w'; go_simp; with_reducible rfl); rotate_left; (simp only [Act.put, p1', p2', p3', i64_w, i32_w]; rfl)
 refine u' 6 36 (B' 15 111) ?_ rfl rfl (by kernel_rfl) (fun _ _ _ h => h) (.inl ⟨by rfl, ?_⟩) ?_ ?_ ?_; rotate_left; (intro w'; go_simp; with_reducible rfl); rotate_left; (simp only [Act.put, p1', p2', p3', i64_w, i32_w]; rfl)
 refine u' 7 37 (B' 15 239) ?_ rfl rfl (by kernel_rfl) (fun _ _ _ h => h) (.inl ⟨by rfl, ?_⟩) ?_ ?_ ?_; rotate_left; (intro w'; go_simp; with_reducible rfl); rotate_left; (simp only [Act.put, p1', p2', p3', i64_w, i32_w]; rfl)
 refine u' 8 38 (B' 15 495) ?_ rfl rfl (by kernel_rfl) (fun _ _ _ h => h) (.inl ⟨by rfl, ?_⟩) ?_ ?_ ?_; rotate_left; (intro w'; go_simp; with_reducible rfl); rotate_left; (simp only [Act.put, p1', p2', p3', i64_w, i32_w]; rfl)
 refine u' 10 40 (B' 15 1519) ?_ rfl rfl (by kernel_rfl) (fun _ _ _ h => h) (.inl ⟨by rfl, ?_⟩) ?_ ?_ ?_; rotate_left; (intro w'; go_simp; with_reducible rfl); rotate_left; (simp only [Act.put, p1', p2', p3', i64_w, i32_w]; rfl)
 refine t' 4 34 (B' 15 1535) ?_ rfl rfl (by kernel_rfl) (fun _ _ _ h => h) (.inl ⟨by rfl, ?_⟩) hHeld ?_ ?_ ?_; rotate_left; (rintro w' ⟨s0, s1, s2⟩; go_simp; with_reducible rfl); rotate_left; (simp only [Act.put, p1', p2', p3', i64_w, i32_w]; rfl)
 refine t' 9 39 (B' 15 2047) ?_ rfl rfl (by kernel_rfl) (fun _ _ _ h => h) (.inl ⟨by rfl, ?_⟩) hHeld ?_ ?_ ?_; rotate_left; (rintro w' ⟨s0, s1, s2⟩; go_simp; with_reducible rfl); rotate_left; (simp only [Act.put, p1', p2', p3', i64_w, i32_w]; rfl)
 refine u' 11 41 (B' 15 4095) ?_ rfl rfl (by kernel_rfl) (fun _ _ _ h => h) (.inl ⟨by rfl, ?_⟩) ?_ ?_ ?_; rotate_left; (intro w'; go_simp; with_reducible rfl); rotate_left; (simp only [Act.put, p1', p2', p3', i64_w, i32_w]; rfl)
 refine t' 12 42 (B' 15 8191) ?_ rfl rfl (by kernel_rfl) (fun _ _ _ h => h) (.inl ⟨by rfl, ?_⟩) hHeld ?_ ?_ ?_; rotate_left; (rintro w' ⟨s0, s1, s2⟩; go_simp; with_reducible rfl); rotate_left; (simp only [Act.put, p1', p2', p3', i64_w, i32_w]; rfl)
 refine one_ (i := 13) (N := some 43) (B' 15 16383) rfl rfl (by kernel_rfl) (by decide) (fun K hK => ?_)
 refine goes_ Try.func63 (by kernel_rfl) rfl #[.int .i64 kind, .int .i64 (rd st i)] (by rfl) rfl rfl (by simp only [List.map_toArray, List.map_cons, List.map_nil]; rfl) ?_
 with_reducible refine (likelyB kind (rd st i) _ hs).mono ?_
 rintro e w3 ⟨rfl, hb3⟩
 refine ⟨_, rfl, ?_⟩
 have hb3' := below_undrew1 hb3
 have HE3 := A' (HE.out.below hb3')
 have HM3 := A' ((Mods.refl w S).below hb3')
 clear hb3 hb3'
 refine hK.out _ _ ⟨HE3.out.c0, HE3.out.c1, by obtain ⟨b', hA, hc, _⟩ := HE3.out.cell hi; cases hA; exact hc⟩ (fun hHeld => ?_)
 clear hK K
 refine norm_ (a' := ?_) ?_ ?_; rotate_left; (show Act.put _ (some 43) _ = _; simp only [Act.put, p1', p2', p3', i64_w, i32_w]; rfl)
 refine u' 14 6 (B' 15 32767) ?_ rfl rfl (by kernel_rfl) (fun _ _ _ h => h) (.inl ⟨by rfl, ?_⟩) ?_ ?_ ?_; rotate_left; (intro w'; go_simp; with_reducible rfl); rotate_left; (simp only [Act.put, p1', p2', p3', i64_w, i32_w]; rfl)
 refine done_ (by kernel_rfl) ?_
 clear k0 k1 ks k8 HE
 go_wp2
 have HE3 := A' HE3.out.drew
 have HM3 := A' HM3.out.drew
 have k2 := HE3.out.c2
 have k3 := HE3.out.c3
 have k6 := HE3.out.c6
 refine start_ (n := 11) (S := fun w' => w'.cell? ⟨g, 2, none⟩ = some (.int .u64 low) ∧ w'.cell? ⟨g, 3, none⟩ = some (.int .u64 high) ∧ w'.cell? ⟨g, 6, none⟩ = some (.int .u64 value)) (ds := []) #[false, false, false, false, false, false, false, false, false, false, false] (by kernel_rfl) rfl rfl ⟨k2, k3, k6⟩ (fun hHeld => ?_)
 refine u' 0 44 (B' 11 1) ?_ rfl rfl (by kernel_rfl) (fun _ _ _ h => h) (.inl ⟨by rfl, ?_⟩) ?_ ?_ ?_; rotate_left; (intro w'; go_simp; with_reducible rfl); rotate_left; (simp only [Act.put, p1', p2', p3', i64_w, i32_w]; rfl)
 refine u' 1 45 (B' 11 3) ?_ rfl rfl (by kernel_rfl) (fun _ _ _ h => h) (.inl ⟨by rfl, ?_⟩) ?_ ?_ ?_; rotate_left; (intro w'; go_simp; with_reducible rfl); rotate_left; (simp only [Act.put, p1', p2', p3', i64_w, i32_w]; rfl)
 refine u' 2 46 (B' 11 7) ?_ rfl rfl (by kernel_rfl) (fun _ _ _ h => h) (.inl ⟨by rfl, ?_⟩) ?_ ?_ ?_; rotate_left; (intro w'; go_simp; with_reducible rfl); rotate_left; (simp only [Act.put, p1', p2', p3', i64_w, i32_w]; rfl)
 refine u' 4 48 (B' 11 23) ?_ rfl rfl (by kernel_rfl) (fun _ _ _ h => h) (.inl ⟨by rfl, ?_⟩) ?_ ?_ ?_; rotate_left; (intro w'; go_simp; with_reducible rfl); rotate_left; (simp only [Act.put, p1', p2', p3', i64_w, i32_w]; rfl)
 refine u' 5 49 (B' 11 55) ?_ rfl rfl (by kernel_rfl) (fun _ _ _ h => h) (.inl ⟨by rfl, ?_⟩) ?_ ?_ ?_; rotate_left; (intro w'; go_simp; with_reducible rfl); rotate_left; (simp only [Act.put, p1', p2', p3', i64_w, i32_w]; rfl)
 refine u' 6 50 (B' 11 119) ?_ rfl rfl (by kernel_rfl) (fun _ _ _ h => h) (.inl ⟨by rfl, ?_⟩) ?_ ?_ ?_; rotate_left; (intro w'; go_simp; with_reducible rfl); rotate_left; (simp only [Act.put, p1', p2', p3', i64_w, i32_w]; rfl)
 refine u' 8 52 (B' 11 375) ?_ rfl rfl (by kernel_rfl) (fun _ _ _ h => h) (.inl ⟨by rfl, ?_⟩) ?_ ?_ ?_; rotate_left; (intro w'; go_simp; with_reducible rfl); rotate_left; (simp only [Act.put, p1', p2', p3', i64_w, i32_w]; rfl)
 refine t' 3 47 (B' 11 383) ?_ rfl rfl (by kernel_rfl) (fun _ _ _ h => h) (.inl ⟨by rfl, ?_⟩) hHeld ?_ ?_ ?_; rotate_left; (rintro w' ⟨s0, s1, s2⟩; go_simp; with_reducible rfl); rotate_left; (simp only [Act.put, p1', p2', p3', i64_w, i32_w]; rfl)
 refine t' 7 51 (B' 11 511) ?_ rfl rfl (by kernel_rfl) (fun _ _ _ h => h) (.inl ⟨by rfl, ?_⟩) hHeld ?_ ?_ ?_; rotate_left; (rintro w' ⟨s0, s1, s2⟩; go_simp; with_reducible rfl); rotate_left; (simp only [Act.put, p1', p2', p3', i64_w, i32_w]; rfl)
 refine one_ (i := 9) (N := some 53) (B' 11 1023) rfl rfl (by kernel_rfl) (by decide) (fun K hK => ?_)
 refine goes_ Try.func91 (by kernel_rfl) rfl #[.agg #[.int .u64 low, .int .u64 high], .int .i64 (likely kind (rd st i))] (by rfl) rfl rfl (by simp only [List.map_toArray, List.map_cons, List.map_nil]; rfl) ?_
 with_reducible refine ((HMID _).out).mono ?_
 rintro e w4 ⟨rfl, hb4⟩
 refine ⟨_, rfl, ?_⟩
 have HE4 := A' (HE3.out.below hb4)
 have HM4 := A' (HM3.out.below hb4)
 clear hb4
 refine hK.out _ _ ⟨HE4.out.c2, HE4.out.c3, HE4.out.c6⟩ (fun hHeld => ?_)
 clear hK K
 refine norm_ (a' := ?_) ?_ ?_; rotate_left; (show Act.put _ (some 53) _ = _; simp only [Act.put, p1', p2', p3', i64_w, i32_w]; rfl)
 refine u' 10 54 (B' 11 2047) ?_ rfl rfl (by kernel_rfl) (fun _ _ _ h => h) (.inl ⟨by rfl, ?_⟩) ?_ ?_ ?_; rotate_left; (intro w'; go_simp; with_reducible rfl); rotate_left; (simp only [Act.put, p1', p2', p3', i64_w, i32_w]; rfl)
 refine done_ (by kernel_rfl) ?_
 clear k2 k3 k6 HE3 HM3
 go_wp2
 have HE4 := A' HE4.out.drew
 have HM4 := A' HM4.out.drew
 have p2 := HE4.out.c2
 have p3 := HE4.out.c3
 have p5 := HE4.out.c5
 have p6 := HE4.out.c6
 refine start_ (n := 19) (S := fun w' => w'.cell? ⟨g, 2, none⟩ = some (.int .u64 low) ∧ w'.cell? ⟨g, 3, none⟩ = some (.int .u64 high) ∧ w'.cell? ⟨g, 5, none⟩ = some (.int .i64 a) ∧ w'.cell? ⟨g, 6, none⟩ = some (.int .u64 value)) (ds := []) #[false, false, false, false, false, false, false, false, false, false, false, false, false, false, false, false, false, false, false] (by kernel_rfl) rfl rfl ⟨p2, p3, p5, p6⟩ (fun hHeld => ?_)
 generalize w4.drew = wd at p2 p3 p5 p6 HE4 HM4 hHeld ⊢
 refine u' 0 55 (B' 19 1) ?_ rfl rfl (by kernel_rfl) (fun _ _ _ h => h) (.inl ⟨by rfl, ?_⟩) ?_ ?_ ?_; rotate_left; (intro w'; go_simp; with_reducible rfl); rotate_left; (simp only [Act.put, p1', p2', p3', i64_w, i32_w]; rfl)
 refine u' 1 56 (B' 19 3) ?_ rfl rfl (by kernel_rfl) (fun _ _ _ h => h) (.inl ⟨by rfl, ?_⟩) ?_ ?_ ?_; rotate_left; (intro w'; go_simp; with_reducible rfl); rotate_left; (simp only [Act.put, p1', p2', p3', i64_w, i32_w]; rfl)
 refine u' 2 57 (B' 19 7) ?_ rfl rfl (by kernel_rfl) (fun _ _ _ h => h) (.inl ⟨by rfl, ?_⟩) ?_ ?_ ?_; rotate_left; (intro w'; go_simp; with_reducible rfl); rotate_left; (simp only [Act.put, p1', p2', p3', i64_w, i32_w]; rfl)
 refine u' 4 59 (B' 19 23) ?_ rfl rfl (by kernel_rfl) (fun _ _ _ h => h) (.inl ⟨by rfl, ?_⟩) ?_ ?_ ?_; rotate_left; (intro w'; go_simp; with_reducible rfl); rotate_left; (simp only [Act.put, p1', p2', p3', i64_w, i32_w]; rfl)
 refine u' 5 60 (B' 19 55) ?_ rfl rfl (by kernel_rfl) (fun _ _ _ h => h) (.inl ⟨by rfl, ?_⟩) ?_ ?_ ?_; rotate_left; (intro w'; go_simp; with_reducible rfl); rotate_left; (simp only [Act.put, p1', p2', p3', i64_w, i32_w]; rfl)
 refine u' 7 62 (B' 19 183) ?_ rfl rfl (by kernel_rfl) (fun _ _ _ h => h) (.inl ⟨by rfl, ?_⟩) ?_ ?_ ?_; rotate_left; (intro w'; go_simp; with_reducible rfl); rotate_left; (simp only [Act.put, p1', p2', p3', i64_w, i32_w]; rfl)
 refine u' 8 63 (B' 19 439) ?_ rfl rfl (by kernel_rfl) (fun _ _ _ h => h) (.inl ⟨by rfl, ?_⟩) ?_ ?_ ?_; rotate_left; (intro w'; go_simp; with_reducible rfl); rotate_left; (simp only [Act.put, p1', p2', p3', i64_w, i32_w]; rfl)
 refine u' 9 64 (B' 19 951) ?_ rfl rfl (by kernel_rfl) (fun _ _ _ h => h) (.inl ⟨by rfl, ?_⟩) ?_ ?_ ?_; rotate_left; (intro w'; go_simp; with_reducible rfl); rotate_left; (simp only [Act.put, p1', p2', p3', i64_w, i32_w]; rfl)
 refine u' 11 66 (B' 19 2999) ?_ rfl rfl (by kernel_rfl) (fun _ _ _ h => h) (.inl ⟨by rfl, ?_⟩) ?_ ?_ ?_; rotate_left; (intro w'; go_simp; with_reducible rfl); rotate_left; (simp only [Act.put, p1', p2', p3', i64_w, i32_w]; rfl)
 refine u' 12 67 (B' 19 7095) ?_ rfl rfl (by kernel_rfl) (fun _ _ _ h => h) (.inl ⟨by rfl, ?_⟩) ?_ ?_ ?_; rotate_left; (intro w'; go_simp; with_reducible rfl); rotate_left; (simp only [Act.put, p1', p2', p3', i64_w, i32_w]; rfl)
 refine u' 13 68 (B' 19 15287) ?_ rfl rfl (by kernel_rfl) (fun _ _ _ h => h) (.inl ⟨by rfl, ?_⟩) ?_ ?_ ?_; rotate_left; (intro w'; go_simp; with_reducible rfl); rotate_left; (simp only [Act.put, p1', p2', p3', i64_w, i32_w]; rfl)
 refine t' 3 58 (B' 19 15295) ?_ rfl rfl (by kernel_rfl) (fun _ _ _ h => h) (.inl ⟨by rfl, ?_⟩) hHeld ?_ ?_ ?_; rotate_left; (rintro w' ⟨s0, s1, s2, s3⟩; go_simp; with_reducible rfl); rotate_left; (simp only [Act.put, p1', p2', p3', i64_w, i32_w]; rfl)
 refine t' 10 65 (B' 19 16319) ?_ rfl rfl (by kernel_rfl) (fun _ _ _ h => h) (.inl ⟨by rfl, ?_⟩) hHeld ?_ ?_ ?_; rotate_left; (rintro w' ⟨s0, s1, s2, s3⟩; go_simp; with_reducible rfl); rotate_left; (simp only [Act.put, p1', p2', p3', i64_w, i32_w]; rfl)
 refine t' 14 69 (B' 19 32703) ?_ rfl rfl (by kernel_rfl) (fun _ _ _ h => h) (.inl ⟨by rfl, ?_⟩) hHeld ?_ ?_ ?_; rotate_left; (rintro w' ⟨s0, s1, s2, s3⟩; go_simp; with_reducible rfl); rotate_left; (simp only [Act.put, p1', p2', p3', i64_w, i32_w]; rfl)
 refine join_ (σ := Nat) 3 (B' 19 65535) (fun s => [(61, .agg #[.int .u64 (cutL low mid 0), .int .u64 (cutH high mid 0)]), (8, .pointer (some ⟨s, 0, none⟩))]) (fun s w' => w'.heap[s]? = some (.cells #[.int .u64 0, .int .u64 0] 96 (0, 0)) ∧ wd.heap.size ≤ s ∧ Below wd.heap.size wd w') ?_ ?_
 rotate_left
 · intro hCont
   refine two_ (i := 6) (j := 15) (Ni := some 61) (Nj := some 8) (B' 19 32767) (B' 19 65471) rfl rfl rfl rfl (by kernel_rfl) (by decide) (by decide) (fun K hK => ?_) (fun K hK => ?_)
   · skip
     refine goes_ Try.func64 (by kernel_rfl) rfl #[.agg #[.int .u64 low, .int .u64 high], .int .i64 (likely kind (rd st i)), .int .i64 0] (by rfl) rfl rfl (by simp only [List.map_toArray, List.map_cons, List.map_nil]; rfl) ?_
     with_reducible refine ((HP _).out).mono ?_
     rintro e wk ⟨rfl, hk⟩
     refine ⟨_, rfl, ?_⟩
     have t2 := pw_cell_below hk p2
     have t3 := pw_cell_below hk p3
     have t5 := pw_cell_below hk p5
     have t6 := pw_cell_below hk p6
     refine hK.out _ _ ⟨t2, t3, t5, t6⟩ (fun hHeld => ?_)
     clear hK K
     refine norm_ (a' := ?_) ?_ ?_; rotate_left; (show Act.put _ (some 61) _ = _; simp only [Act.put, p1', p2', p3', i64_w, i32_w]; rfl)
     refine one_ (i := 15) (N := some 8) (B' 19 65535) rfl rfl (by kernel_rfl) (by decide) (fun K hK => ?_)
     refine value_ (w1 := ?_) (v := ?_) (by rfl) rfl ?_ ?_
     rotate_left 2
     · go_simp
       constructor
       · rfl
       · rfl
     refine hK.out _ _ ⟨pw_cell_below (below_alloc (Below.refl _ _) _) t2, pw_cell_below (below_alloc (Below.refl _ _) _) t3, pw_cell_below (below_alloc (Below.refl _ _) _) t5, pw_cell_below (below_alloc (Below.refl _ _) _) t6⟩ (fun hHeld => ?_)
     clear hK K
     refine norm_ (a' := ?_) ?_ ?_; rotate_left; (show Act.put _ (some 8) _ = _; simp only [Act.put, p1', p2', p3', i64_w, i32_w]; rfl)
     exact norm_ (by simp only [putAll, Act.put, List.setIfInBounds_toArray, List.set_cons_zero, List.set_cons_succ]) (hCont wk.heap.size _ ⟨blk_new _ _, hk.size, below_alloc hk _⟩)
   · skip
     refine value_ (w1 := ?_) (v := ?_) (by rfl) rfl ?_ ?_
     rotate_left 2
     · go_simp
       constructor
       · rfl
       · rfl
     refine hK.out _ _ ⟨pw_cell_below (below_alloc (Below.refl _ _) _) p2, pw_cell_below (below_alloc (Below.refl _ _) _) p3, pw_cell_below (below_alloc (Below.refl _ _) _) p5, pw_cell_below (below_alloc (Below.refl _ _) _) p6⟩ (fun hHeld => ?_)
     clear hK K
     refine norm_ (a' := ?_) ?_ ?_; rotate_left; (show Act.put _ (some 8) _ = _; simp only [Act.put, p1', p2', p3', i64_w, i32_w]; rfl)
     refine one_ (i := 6) (N := some 61) (B' 19 65535) rfl rfl (by kernel_rfl) (by decide) (fun K hK => ?_)
     refine goes_ Try.func64 (by kernel_rfl) rfl #[.agg #[.int .u64 low, .int .u64 high], .int .i64 (likely kind (rd st i)), .int .i64 0] (by rfl) rfl rfl (by simp only [List.map_toArray, List.map_cons, List.map_nil]; rfl) ?_
     with_reducible refine ((HP _).out).mono ?_
     rintro e wk ⟨rfl, hk⟩
     refine ⟨_, rfl, ?_⟩
     have t2 := pw_cell_below hk (pw_cell_below (below_alloc (Below.refl _ _) _) p2)
     have t3 := pw_cell_below hk (pw_cell_below (below_alloc (Below.refl _ _) _) p3)
     have t5 := pw_cell_below hk (pw_cell_below (below_alloc (Below.refl _ _) _) p5)
     have t6 := pw_cell_below hk (pw_cell_below (below_alloc (Below.refl _ _) _) p6)
     refine hK.out _ _ ⟨t2, t3, t5, t6⟩ (fun hHeld => ?_)
     clear hK K
     refine norm_ (a' := ?_) ?_ ?_; rotate_left; (show Act.put _ (some 61) _ = _; simp only [Act.put, p1', p2', p3', i64_w, i32_w]; rfl)
     exact norm_ (by simp only [putAll, Act.put, List.setIfInBounds_toArray, List.set_cons_zero, List.set_cons_succ]) (hCont wd.heap.size _ ⟨blk_below (blk_new _ _) hk, Nat.le_refl _, below_then (below_alloc (Below.refl _ _) _) (by simp) hk⟩)
 rintro q w5 ⟨hq, hqs, hqb⟩
 have t2 := pw_cell_below hqb p2
 have t3 := pw_cell_below hqb p3
 have t5 := pw_cell_below hqb p5
 have t6 := pw_cell_below hqb p6
 have hHeld : w5.cell? ⟨g, 2, none⟩ = some (.int .u64 low) ∧ w5.cell? ⟨g, 3, none⟩ = some (.int .u64 high) ∧ w5.cell? ⟨g, 5, none⟩ = some (.int .i64 a) ∧ w5.cell? ⟨g, 6, none⟩ = some (.int .u64 value) := ⟨t2, t3, t5, t6⟩
 have z0 : w5.cell? ⟨q, 0, none⟩ = some (.int .u64 0) := (blk_cell hq 0).trans rfl
 have z1 : w5.cell? ⟨q, 1, none⟩ = some (.int .u64 0) := (blk_cell hq 1).trans rfl
 have zf0 := blk_frozen hq 0
 have zf1 := blk_frozen hq 1
 have HQ := A' hq
 have HQS := A' hqs
 have HQB := A' hqb
 clear hq hqs hqb
 refine norm_ (a' := ?_) ?_ ?_
 rotate_left
 · simp only [putAll, Act.put, List.setIfInBounds_toArray, List.set_cons_zero, List.set_cons_succ]
   rfl
 refine one_ (i := 16) (N := none) (B' 19 131071) rfl rfl (by kernel_rfl) (by decide) (fun K hK => ?_)
 refine skip_ (w1 := ?_) (by rfl) rfl ?_ ?_
 rotate_left
 · go_simp
   rfl
 refine hK.out _ _ ⟨pw_cell_below ((HQB.out.setCell (p := ⟨q, 0, none⟩) HQS.out _).setCell (p := ⟨q, 1, none⟩) HQS.out _) p2, pw_cell_below ((HQB.out.setCell (p := ⟨q, 0, none⟩) HQS.out _).setCell (p := ⟨q, 1, none⟩) HQS.out _) p3, pw_cell_below ((HQB.out.setCell (p := ⟨q, 0, none⟩) HQS.out _).setCell (p := ⟨q, 1, none⟩) HQS.out _) p5, pw_cell_below ((HQB.out.setCell (p := ⟨q, 0, none⟩) HQS.out _).setCell (p := ⟨q, 1, none⟩) HQS.out _) p6⟩ (fun hHeld => ?_)
 clear hK K
 refine u' 17 9 (B' 19 262143) ?_ rfl rfl (by kernel_rfl) (fun _ _ _ h => h) (.inl ⟨by rfl, ?_⟩) ?_ ?_ ?_; rotate_left; (intro w'; go_simp; with_reducible rfl); rotate_left; (simp only [Act.put, p1', p2', p3', i64_w, i32_w]; rfl)
 refine u' 18 10 (B' 19 524287) ?_ rfl rfl (by kernel_rfl) (fun _ _ _ h => h) (.inl ⟨by rfl, ?_⟩) ?_ ?_ ?_; rotate_left; (intro w'; go_simp; with_reducible rfl); rotate_left; (simp only [Act.put, p1', p2', p3', i64_w, i32_w]; rfl)
 refine done_ (by kernel_rfl) ?_
 obtain ⟨w6, hw6⟩ : ∃ w6, w6 = (w5.setCell ⟨q, 0, none⟩ (.int .u64 (cutL low mid 0))).setCell ⟨q, 1, none⟩ (.int .u64 (cutH high mid 0)) := ⟨_, rfl⟩
 rw [← hw6]
 have hB6 : Below wd.heap.size wd w6 := hw6 ▸ (HQB.out.setCell (p := ⟨q, 0, none⟩) HQS.out _).setCell (p := ⟨q, 1, none⟩) HQS.out _
 have hq1 : (w5.setCell ⟨q, 0, none⟩ (.int .u64 (cutL low mid 0))).heap[q]? = some (.cells #[.int .u64 (cutL low mid 0), .int .u64 0] 96 (0, 0)) := blk_put (cs := #[.int .u64 0, .int .u64 0]) HQ.out 0 _ rfl
 have HQ6 := A' (show w6.heap[q]? = some (.cells #[.int .u64 (cutL low mid 0), .int .u64 (cutH high mid 0)] 96 (0, 0)) from hw6 ▸ blk_put (cs := #[.int .u64 (cutL low mid 0), .int .u64 0]) hq1 1 _ rfl)
 have HE6 := A' (HE4.out.below hB6)
 have HM6 := A' (HM4.out.below hB6)
 have hqn : ¬ S q := fun hk => by have h1 := HSB.out q hk; have h2 := HM4.out.size; have h3 := HQS.out; omega
 have hgq : g ≠ q := fun he => hqn (he ▸ hSg)
 have HQN := A' hqn
 have HQS2 := A' (show w.heap.size ≤ q from Nat.le_trans HM4.out.size HQS.out)
 clear hw6 hB6 hq1 hqn HE4 HM4 HQ HQS HQB z0 z1 zf0 zf1 t2 t3 t5 t6 p2 p3 p5 p6
 go_wp2
 skip
 go_loopg [9, 10] 4 (fun d s9 s10 wr => ∃ (l h : Int) (n : List Int) (k : Nat) (v : Int), s9 = .int .i64 k ∧ s10 = .int .u64 v ∧ (0 ≤ v ∧ v ≤ 4294967295) ∧ Aside0 (k = a + n.length ∧ v = shV code n.length value a) ∧ Aside0 (RDecRow wr S g kind (some ⟨b, 0, none⟩) c st low high (.slice Ac code.length cc) code a value ((a - code.length : Nat) : Int) false) ∧ Aside0 (Mods w wr S) ∧ Aside0 (wr.heap[q]? = some (.cells #[.int .u64 l, .int .u64 h] 96 (0, 0))) ∧ Aside0 (PutInv [] (cutL low mid 0) (cutH high mid 0) d l h n))
 case atStart => exact ⟨_, _, [], a, value, rfl, rfl, ⟨hv0, hv1⟩, ⟨rfl, rfl⟩, HE6, HM6, HQ6, HI⟩
 clear HE6 HM6 HQ6 HI
 case round =>
  obtain ⟨l, h, n, k, v, rfl, rfl, hv, HKV, HE7, HM7, HQ7, HPI⟩ := hrel
  have hp0 := HPI.out.l0
  have hp1 := HPI.out.lh
  have hp2 := HPI.out.h0
  have hp3 := HPI.out.len
  rw [List.length_nil] at hp3
  have hka : k ≤ 2199023255552 := by have := HKV.out.1; omega
  have hs7 := fixed_calls l h
  have z0 : wr.cell? ⟨q, 0, none⟩ = some (.int .u64 l) := (blk_cell HQ7.out 0).trans rfl
  have z1 : wr.cell? ⟨q, 1, none⟩ = some (.int .u64 h) := (blk_cell HQ7.out 1).trans rfl
  by_cases cx : l / 16777216 = h / 16777216
  · rw [decide_eq_true cx] at hs7
    have HSA := A' hs7
    clear hs7
    obtain ⟨d', hd', hP'⟩ := HPI.out.step cx
    have HP' := A' hP'
    have HD := A' hd'
    have hbr := byteOf_range HBY.out k
    clear hd' hP' cx
    go_wp2_with (first
     | (go_at_call 66; refine (HSA.out _).mono ?_; rintro e w8 ⟨rfl, hb8⟩; have HE8 := A' (HE7.out.below hb8); have HM8 := A' (HM7.out.below hb8); have HQ8 := A' (blk_below HQ7.out hb8); have z0 : w8.cell? ⟨q, 0, none⟩ = some (.int .u64 l) := (blk_cell HQ8.out 0).trans rfl; have z1 : w8.cell? ⟨q, 1, none⟩ = some (.int .u64 h) := (blk_cell HQ8.out 1).trans rfl; clear hb8)
     | (go_at_call 67; refine (shift_calls l h _ hp0 (by omega) (by omega) hp2).mono ?_; rintro e w9 ⟨rfl, hb9⟩; have HE9 := A' (HE8.out.below hb9); have HM9 := A' (HM8.out.below hb9); have HQ9 := A' (blk_below HQ8.out hb9); have z0 : w9.cell? ⟨q, 0, none⟩ = some (.int .u64 l) := (blk_cell HQ9.out 0).trans rfl; have z1 : w9.cell? ⟨q, 1, none⟩ = some (.int .u64 h) := (blk_cell HQ9.out 1).trans rfl; have zf0 := blk_frozen HQ9.out 0; have zf1 := blk_frozen HQ9.out 1; have k4 := HE9.out.c4; clear hb9))
    obtain ⟨w10, hw10⟩ : ∃ w10, w10 = (w9.setCell ⟨q, 0, none⟩ (.int .u64 (l % 16777216 * 256))).setCell ⟨q, 1, none⟩ (.int .u64 (h % 16777216 * 256 + 255)) := ⟨_, rfl⟩
    rw [← hw10]
    have hq10 : (w9.setCell ⟨q, 0, none⟩ (.int .u64 (l % 16777216 * 256))).heap[q]? = some (.cells #[.int .u64 (l % 16777216 * 256), .int .u64 h] 96 (0, 0)) := blk_put (cs := #[.int .u64 l, .int .u64 h]) HQ9.out 0 _ rfl
    have HQ10 := A' (show w10.heap[q]? = some (.cells #[.int .u64 (l % 16777216 * 256), .int .u64 (h % 16777216 * 256 + 255)] 96 (0, 0)) from hw10 ▸ blk_put (cs := #[.int .u64 (l % 16777216 * 256), .int .u64 h]) hq10 1 _ rfl)
    have HE10 := A' (show RDecRow w10 S g kind (some ⟨b, 0, none⟩) c st low high (.slice Ac code.length cc) code a value ((a - code.length : Nat) : Int) false from hw10 ▸ (HE9.out.far (p := ⟨q, 0, none⟩) HQN.out _).far (p := ⟨q, 1, none⟩) HQN.out _)
    have hqs : w.heap.size ≤ q := by have h1 := HQS2.out; omega
    have HM10 := A' (show Mods w w10 S from hw10 ▸ (HM9.out.setCell (p := ⟨q, 0, none⟩) (.inr hqs) _).setCell (p := ⟨q, 1, none⟩) (.inr hqs) _)
    clear hw10 hq10 hqs z0 z1 zf0 zf1 k4 HE9 HM9 HQ9 HE8 HM8 HQ8
    refine (byte_calls Ac cc code k _ (Kd.R_reads' HE10.out.o).2.2 HBY.out).mono ?_
    rintro e w11 ⟨rfl, rfl⟩
    go_wp2
    go_roundg d'
    case measure => have := HD.out; omega
    case rel =>
     have h1 := HKV.out
     refine ⟨_, _, _, k + 1, _, rfl, rfl, by omega, ⟨?_, ?_⟩, HE10, HM10, HQ10, HP'⟩
     · rw [List.length_append, List.length_cons, List.length_nil, h1.1]
       omega
     · rw [List.length_append, List.length_cons, List.length_nil, Nat.zero_add, shV_succ, ← h1.2, ← h1.1]
  · rw [decide_eq_false cx] at hs7
    have HSA := A' hs7
    clear hs7
    have HCC := A' (HPI.out.done cx)
    clear cx
    have HN := A' (show normE 4 (cutL low mid 0) (cutH high mid 0) = (n, l, h) from by
     have h1 := HCC.out
     rw [List.nil_append] at h1
     exact Prod.ext h1.1.symm h1.2)
    obtain ⟨be, hbe⟩ : ∃ be : Nat, k - code.length = be := ⟨_, rfl⟩
    have HBE := A' hbe
    have hbk : be ≤ 2199023255552 := by omega
    by_cases hb4 : (be : Int) > 4
    · have HB4 := A' hb4
      go_wp2_with (go_at_call 66; refine (HSA.out _).mono ?_; rintro e w8 ⟨rfl, hb8⟩; have HE8 := A' (HE7.out.below hb8); have HM8 := A' (HM7.out.below hb8); have k4 := HE8.out.c4; have k8 := HE8.out.c8; have f8 := HE8.out.fz 8; clear hb8)
      go_ret2
      have h1 := HKV.out
      refine ⟨⟨l, h, n, HN.out, .inl ⟨by have := HB4.out; have := HBE.out; omega, rfl, HE8.out.put 8 _ rfl⟩⟩, HM8.out.setCell (.inl hSg) _⟩
    · have HB4 := A' hb4
      go_wp2_with (go_at_call 66; refine (HSA.out _).mono ?_; rintro e w8 ⟨rfl, hb8⟩; have HE8 := A' (HE7.out.below hb8); have HM8 := A' (HM7.out.below hb8); have HQ8 := A' (blk_below HQ7.out hb8); have k4 := HE8.out.c4; clear hb8)
      have HE8 := A' HE8.out.drew
      have HM8 := A' HM8.out.drew
      have HQ8 := A' (blk_drew HQ8.out)
      have k0 := HE8.out.c0
      have k1 := HE8.out.c1
      have ks : w8.drew.cell? ⟨b, i, none⟩ = some (.int .i64 (rd st i)) := by obtain ⟨b', hA, hc, _⟩ := HE8.out.cell hi; cases hA; exact hc
      clear k4
      refine start_ (n := 23) (S := fun w' => w'.cell? ⟨g, 0, none⟩ = some (.int .i64 kind) ∧ w'.cell? ⟨g, 1, none⟩ = some (.slice (some ⟨b, 0, none⟩) st.length c) ∧ w'.cell? ⟨b, i, none⟩ = some (.int .i64 (rd st i))) (ds := [22]) #[false, false, false, false, false, false, false, false, false, false, false, false, false, false, false, false, false, false, false, false, false, false, false] (by kernel_rfl) rfl rfl ⟨k0, k1, ks⟩ (fun hHeld => ?_)
      refine u' 0 99 (B' 23 1) ?_ rfl rfl (by kernel_rfl) (fun _ _ _ h => h) (.inl ⟨by rfl, ?_⟩) ?_ ?_ ?_; rotate_left; (intro w'; go_simp; with_reducible rfl); rotate_left; (simp only [Act.put, p1', p2', p3', i64_w, i32_w]; rfl)
      refine u' 1 100 (B' 23 3) ?_ rfl rfl (by kernel_rfl) (fun _ _ _ h => h) (.inl ⟨by rfl, ?_⟩) ?_ ?_ ?_; rotate_left; (intro w'; go_simp; with_reducible rfl); rotate_left; (simp only [Act.put, p1', p2', p3', i64_w, i32_w]; rfl)
      refine u' 2 101 (B' 23 7) ?_ rfl rfl (by kernel_rfl) (fun _ _ _ h => h) (.inl ⟨by rfl, ?_⟩) ?_ ?_ ?_; rotate_left; (intro w'; go_simp; with_reducible rfl); rotate_left; (simp only [Act.put, p1', p2', p3', i64_w, i32_w]; rfl)
      refine u' 3 102 (B' 23 15) ?_ rfl rfl (by kernel_rfl) (fun _ _ _ h => h) (.inl ⟨by rfl, ?_⟩) ?_ ?_ ?_; rotate_left; (intro w'; go_simp; with_reducible rfl); rotate_left; (simp only [Act.put, p1', p2', p3', i64_w, i32_w]; rfl)
      refine u' 5 104 (B' 23 47) ?_ rfl rfl (by kernel_rfl) (fun _ _ _ h => h) (.inl ⟨by rfl, ?_⟩) ?_ ?_ ?_; rotate_left; (intro w'; go_simp; with_reducible rfl); rotate_left; (simp only [Act.put, p1', p2', p3', i64_w, i32_w]; rfl)
      refine u' 6 105 (B' 23 111) ?_ rfl rfl (by kernel_rfl) (fun _ _ _ h => h) (.inl ⟨by rfl, ?_⟩) ?_ ?_ ?_; rotate_left; (intro w'; go_simp; with_reducible rfl); rotate_left; (simp only [Act.put, p1', p2', p3', i64_w, i32_w]; rfl)
      refine u' 7 106 (B' 23 239) ?_ rfl rfl (by kernel_rfl) (fun _ _ _ h => h) (.inl ⟨by rfl, ?_⟩) ?_ ?_ ?_; rotate_left; (intro w'; go_simp; with_reducible rfl); rotate_left; (simp only [Act.put, p1', p2', p3', i64_w, i32_w]; rfl)
      refine u' 8 107 (B' 23 495) ?_ rfl rfl (by kernel_rfl) (fun _ _ _ h => h) (.inl ⟨by rfl, ?_⟩) ?_ ?_ ?_; rotate_left; (intro w'; go_simp; with_reducible rfl); rotate_left; (simp only [Act.put, p1', p2', p3', i64_w, i32_w]; rfl)
      refine u' 9 108 (B' 23 1007) ?_ rfl rfl (by kernel_rfl) (fun _ _ _ h => h) (.inl ⟨by rfl, ?_⟩) ?_ ?_ ?_; rotate_left; (intro w'; go_simp; with_reducible rfl); rotate_left; (simp only [Act.put, p1', p2', p3', i64_w, i32_w]; rfl)
      refine u' 11 110 (B' 23 3055) ?_ rfl rfl (by kernel_rfl) (fun _ _ _ h => h) (.inl ⟨by rfl, ?_⟩) ?_ ?_ ?_; rotate_left; (intro w'; go_simp; with_reducible rfl); rotate_left; (simp only [Act.put, p1', p2', p3', i64_w, i32_w]; rfl)
      refine u' 12 111 (B' 23 7151) ?_ rfl rfl (by kernel_rfl) (fun _ _ _ h => h) (.inl ⟨by rfl, ?_⟩) ?_ ?_ ?_; rotate_left; (intro w'; go_simp; with_reducible rfl); rotate_left; (simp only [Act.put, p1', p2', p3', i64_w, i32_w]; rfl)
      refine u' 13 112 (B' 23 15343) ?_ rfl rfl (by kernel_rfl) (fun _ _ _ h => h) (.inl ⟨by rfl, ?_⟩) ?_ ?_ ?_; rotate_left; (intro w'; go_simp; with_reducible rfl); rotate_left; (simp only [Act.put, p1', p2', p3', i64_w, i32_w]; rfl)
      refine u' 14 113 (B' 23 31727) ?_ rfl rfl (by kernel_rfl) (fun _ _ _ h => h) (.inl ⟨by rfl, ?_⟩) ?_ ?_ ?_; rotate_left; (intro w'; go_simp; with_reducible rfl); rotate_left; (simp only [Act.put, p1', p2', p3', i64_w, i32_w]; rfl)
      refine u' 16 115 (B' 23 97263) ?_ rfl rfl (by kernel_rfl) (fun _ _ _ h => h) (.inl ⟨by rfl, ?_⟩) ?_ ?_ ?_; rotate_left; (intro w'; go_simp; with_reducible rfl); rotate_left; (simp only [Act.put, p1', p2', p3', i64_w, i32_w]; rfl)
      refine u' 19 118 (B' 23 621551) ?_ rfl rfl (by kernel_rfl) (fun _ _ _ h => h) (.inl ⟨by rfl, ?_⟩) ?_ ?_ ?_; rotate_left; (intro w'; go_simp; with_reducible rfl); rotate_left; (simp only [Act.put, p1', p2', p3', i64_w, i32_w]; rfl)
      refine t' 4 103 (B' 23 621567) ?_ rfl rfl (by kernel_rfl) (fun _ _ _ h => h) (.inl ⟨by rfl, ?_⟩) hHeld ?_ ?_ ?_; rotate_left; (rintro w' ⟨s0, s1, s2⟩; go_simp; with_reducible rfl); rotate_left; (simp only [Act.put, p1', p2', p3', i64_w, i32_w]; rfl)
      refine t' 10 109 (B' 23 622591) ?_ rfl rfl (by kernel_rfl) (fun _ _ _ h => h) (.inl ⟨by rfl, ?_⟩) hHeld ?_ ?_ ?_; rotate_left; (rintro w' ⟨s0, s1, s2⟩; go_simp; with_reducible rfl); rotate_left; (simp only [Act.put, p1', p2', p3', i64_w, i32_w]; rfl)
      refine t' 15 114 (B' 23 655359) ?_ rfl rfl (by kernel_rfl) (fun _ _ _ h => h) (.inl ⟨by rfl, ?_⟩) hHeld ?_ ?_ ?_; rotate_left; (rintro w' ⟨s0, s1, s2⟩; go_simp; with_reducible rfl); rotate_left; (simp only [Act.put, p1', p2', p3', i64_w, i32_w]; rfl)
      refine u' 17 116 (B' 23 786431) ?_ rfl rfl (by kernel_rfl) (fun _ _ _ h => h) (.inl ⟨by rfl, ?_⟩) ?_ ?_ ?_; rotate_left; (intro w'; go_simp; with_reducible rfl); rotate_left; (simp only [Act.put, p1', p2', p3', i64_w, i32_w]; rfl)
      refine t' 18 117 (B' 23 1048575) ?_ rfl rfl (by kernel_rfl) (fun _ _ _ h => h) (.inl ⟨by rfl, ?_⟩) hHeld ?_ ?_ ?_; rotate_left; (rintro w' ⟨s0, s1, s2⟩; go_simp; with_reducible rfl); rotate_left; (simp only [Act.put, p1', p2', p3', i64_w, i32_w]; rfl)
      refine one_ (i := 20) (N := some 119) (B' 23 2097151) rfl rfl (by kernel_rfl) (by decide) (fun K hK => ?_)
      refine goes_ Try.func65 (by kernel_rfl) rfl #[.int .i64 kind, .int .i64 (rd st i), .int .i64 0] (by rfl) rfl rfl (by simp only [List.map_toArray, List.map_cons, List.map_nil]; rfl) ?_
      with_reducible refine (ref_after kind (rd st i) 0 _ hs (by decide)).mono ?_
      rintro e w9 ⟨rfl, hb9⟩
      refine ⟨_, rfl, ?_⟩
      have HE9 := A' (HE8.out.below hb9)
      have HM9 := A' (HM8.out.below hb9)
      have HQ9 := A' (blk_below HQ8.out hb9)
      have c9 : w9.cell? ⟨b, i, none⟩ = some (.int .i64 (rd st i)) := by obtain ⟨b', hA, hc, _⟩ := HE9.out.cell hi; cases hA; exact hc
      have f9 : w9.frozen? ⟨b, i, none⟩ = false := by obtain ⟨b', hA, _, hf, _⟩ := HE9.out.cell hi; cases hA; exact hf
      clear hb9
      refine hK.out _ _ ⟨HE9.out.c0, HE9.out.c1, c9⟩ (fun hHeld => ?_)
      clear hK K
      refine norm_ (a' := ?_) ?_ ?_; rotate_left; (show Act.put _ (some 119) _ = _; simp only [Act.put, p1', p2', p3', i64_w, i32_w]; rfl)
      refine u' 21 120 (B' 23 4194303) ?_ rfl rfl (by kernel_rfl) (fun _ _ _ h => h) (.inl ⟨by rfl, ?_⟩) ?_ ?_ ?_; rotate_left; (intro w'; go_simp; with_reducible rfl); rotate_left; (simp only [Act.put, p1', p2', p3', i64_w, i32_w]; rfl)
      refine last_ (i := 22) (N := none) (B' 23 8388607) rfl rfl (by kernel_rfl) (by decide) (fun K hK => ?_)
      refine skip_ (w1 := ?_) (by rfl) rfl ?_ ?_
      rotate_left
      · go_simp
        rfl
      refine hK.out _ _ ?_
      clear hK K
      refine done_ (by kernel_rfl) ?_
      obtain ⟨w10, hw10⟩ : ∃ w10, w10 = w9.setCell ⟨b, i, none⟩ (.int .i64 (after kind (rd st i) 0)) := ⟨_, rfl⟩
      rw [← hw10]
      have HE10 := A' (show RDecRow w10 S g kind (some ⟨b, 0, none⟩) c (st.set i (after kind (rd st i) 0)) low high (.slice Ac code.length cc) code a value ((a - code.length : Nat) : Int) false from hw10 ▸ HE9.out.setst hi _)
      have HM10 := A' (show Mods w w10 S from hw10 ▸ HM9.out.setCell (.inl hSb2) _)
      have hqb : q ≠ b := fun he => HQN.out (he ▸ hSb2)
      have HQ10 := A' (show w10.heap[q]? = some (.cells #[.int .u64 l, .int .u64 h] 96 (0, 0)) from hw10 ▸ blk_far HQ9.out hqb _)
      have z0 : w10.cell? ⟨q, 0, none⟩ = some (.int .u64 l) := (blk_cell HQ10.out 0).trans rfl
      have z1 : w10.cell? ⟨q, 1, none⟩ = some (.int .u64 h) := (blk_cell HQ10.out 1).trans rfl
      have c2 := HE10.out.c2
      have c3 := HE10.out.c3
      have c5 := HE10.out.c5
      have c6 := HE10.out.c6
      have c7 := HE10.out.c7
      have f2 := HE10.out.fz 2
      have f3 := HE10.out.fz 3
      have f5 := HE10.out.fz 5
      have f6 := HE10.out.fz 6
      have f7 := HE10.out.fz 7
      clear hw10 k0 k1 ks c9 f9
      go_wp2
      go_ret2
      have h1 := HKV.out
      refine ⟨⟨l, h, n, HN.out, .inr ⟨by have := HB4.out; have := HBE.out; omega, rfl, ?_⟩⟩, ((((HM10.out.setCell (p := ⟨g, 2, none⟩) (.inl hSg) _).setCell (p := ⟨g, 3, none⟩) (.inl hSg) _).setCell (p := ⟨g, 5, none⟩) (.inl hSg) _).setCell (p := ⟨g, 6, none⟩) (.inl hSg) _).setCell (p := ⟨g, 7, none⟩) (.inl hSg) _⟩
      rw [← h1.2, ← h1.1, HBE.out]
      exact ((((HE10.out.put (low' := l) 2 _ rfl).put (high' := h) 3 _ rfl).put (a' := (k : Int)) 5 _ rfl).put (value' := v) 6 _ rfl).put (be' := (be : Int)) 7 _ rfl
set_option maxHeartbeats 4000000 in
set_option maxRecDepth 100000 in
theorem rget_row1 (w : World) (S : Nat → Prop) (g : Nat) (kind : Int) (b c : Nat) (st : List Int) (low high mid : Int) (vc : Value) (code : List Int) (a : Nat) (value : Int) (i : Nat) (hE : RDecRow w S g kind (some ⟨b, 0, none⟩) c st low high vc code a value ((a - code.length : Nat) : Int) false) (hSb : ∀ k, S k → k < w.heap.size) (hi : i < st.length) (hn : st.length ≤ 8192) (hs : okState kind (rd st i)) (hl0 : 0 ≤ low) (hlh : low ≤ high) (hh : high ≤ 4294967295) (hmid : midOf low high (likely kind (rd st i)) = mid) (hm0 : 0 ≤ mid) (hm1 : mid ≤ 4294967295) (hI0 : PutInv [] (cutL low mid 1) (cutH high mid 1) 4 (cutL low mid 1) (cutH high mid 1) []) (hv0 : 0 ≤ value) (hv1 : value ≤ 4294967295) (hby : Bytes code) (hlen : code.length ≤ 1099511627776) (ha : a - code.length ≤ 4) (hvb : value ≤ mid) :
 Calls Try.prog 84 #[.pointer (some ⟨g, 0, none⟩), .int .i64 i] w (RGetPost w S g kind b c st low high mid vc code a value i 1) := by
 have HE := A' hE
 have hSg : S g := hE.g
 have hSb2 : S b := hE.s.1 b (by simp [Value.ownBlock])
 obtain ⟨Ac, cc, hvc⟩ := Kd.R_slice hE.o
 subst hvc
 have k0 := hE.c0
 have k1 := hE.c1
 have k8 := hE.c8
 have ks : w.cell? ⟨b, i, none⟩ = some (.int .i64 (rd st i)) := by obtain ⟨b', hA, hc, _⟩ := hE.cell hi; cases hA; exact hc
 have hlk := likely_range kind (rd st i) hs
 have HMID := fun W => A' (hmid ▸ rmid_calls low high (likely kind (rd st i)) W hl0 hlh hh hlk.1 hlk.2)
 have HP := fun W => A' (hmid ▸ part_calls low high (likely kind (rd st i)) 1 W hl0 hlh hh hlk.1 hlk.2)
 have HI := A' hI0
 have HBY := A' hby
 have HSB := A' hSb
 have hu := Try.underlying96
 clear hE hmid hI0 hby hSb
 have hi1 : (0 : Int) ≤ (i : Int) := by omega
 have hi2 : (i : Int) < (st.length : Int) := by omega
 go_enter Try.func84, Try.ntmps84
 go_wp2
 refine start_ (n := 15) (S := fun w' => w'.cell? ⟨g, 0, none⟩ = some (.int .i64 kind) ∧ w'.cell? ⟨g, 1, none⟩ = some (.slice (some ⟨b, 0, none⟩) st.length c) ∧ w'.cell? ⟨b, i, none⟩ = some (.int .i64 (rd st i))) (ds := []) #[false, false, false, false, false, false, false, false, false, false, false, false, false, false, false] (by kernel_rfl) rfl rfl ⟨k0, k1, ks⟩ (fun hHeld => ?_)
 refine u' 0 30 (B' 15 1) ?_ rfl rfl (by kernel_rfl) (fun _ _ _ h => h) (.inl ⟨by rfl, ?_⟩) ?_ ?_ ?_; rotate_left; (intro w'; go_simp; with_reducible rfl); rotate_left; (simp only [Act.put, p1', p2', p3', i64_w, i32_w]; rfl)
 refine u' 1 31 (B' 15 3) ?_ rfl rfl (by kernel_rfl) (fun _ _ _ h => h) (.inl ⟨by rfl, ?_⟩) ?_ ?_ ?_; rotate_left; (intro w'; go_simp; with_reducible rfl); rotate_left; (simp only [Act.put, p1', p2', p3', i64_w, i32_w]; rfl)
 refine u' 2 32 (B' 15 7) ?_ rfl rfl (by kernel_rfl) (fun _ _ _ h => h) (.inl ⟨by rfl, ?_⟩) ?_ ?_ ?_; rotate_left; (intro w'; go_simp; with_reducible rfl); rotate_left; (simp only [Act.put, p1', p2', p3', i64_w, i32_w]; rfl)
 refine u' 3 33 (B' 15 15) ?_ rfl rfl (by kernel_rfl) (fun _ _ _ h => h) (.inl ⟨by rfl, ?_⟩) ?_ ?_ ?_; rotate_left; (intro w'; go_simp; with_reducible rfl); rotate_left; (simp only [Act.put, p1', p2', p3', i64_w, i32_w]; rfl)
 refine u' 5 35 (B' 15 47) ?_ rfl rfl (by kernel_rfl) (fun _ _ _ h => h) (.inl ⟨by rfl, ?_⟩) ?_ ?_ ?_; rotate_left; (intro w'; go_simp; with_reducible rfl); rotate_left; (simp only [Act.put, p1', p2', p3', i64_w, i32_w]; rfl)
 refine u' 6 36 (B' 15 111) ?_ rfl rfl (by kernel_rfl) (fun _ _ _ h => h) (.inl ⟨by rfl, ?_⟩) ?_ ?_ ?_; rotate_left; (intro w'; go_simp; with_reducible rfl); rotate_left; (simp only [Act.put, p1', p2', p3', i64_w, i32_w]; rfl)
 refine u' 7 37 (B' 15 239) ?_ rfl rfl (by kernel_rfl) (fun _ _ _ h => h) (.inl ⟨by rfl, ?_⟩) ?_ ?_ ?_; rotate_left; (intro w'; go_simp; with_reducible rfl); rotate_left; (simp only [Act.put, p1', p2', p3', i64_w, i32_w]; rfl)
 refine u' 8 38 (B' 15 495) ?_ rfl rfl (by kernel_rfl) (fun _ _ _ h => h) (.inl ⟨by rfl, ?_⟩) ?_ ?_ ?_; rotate_left; (intro w'; go_simp; with_reducible rfl); rotate_left; (simp only [Act.put, p1', p2', p3', i64_w, i32_w]; rfl)
 refine u' 10 40 (B' 15 1519) ?_ rfl rfl (by kernel_rfl) (fun _ _ _ h => h) (.inl ⟨by rfl, ?_⟩) ?_ ?_ ?_; rotate_left; (intro w'; go_simp; with_reducible rfl); rotate_left; (simp only [Act.put, p1', p2', p3', i64_w, i32_w]; rfl)
 refine t' 4 34 (B' 15 1535) ?_ rfl rfl (by kernel_rfl) (fun _ _ _ h => h) (.inl ⟨by rfl, ?_⟩) hHeld ?_ ?_ ?_; rotate_left; (rintro w' ⟨s0, s1, s2⟩; go_simp; with_reducible rfl); rotate_left; (simp only [Act.put, p1', p2', p3', i64_w, i32_w]; rfl)
 refine t' 9 39 (B' 15 2047) ?_ rfl rfl (by kernel_rfl) (fun _ _ _ h => h) (.inl ⟨by rfl, ?_⟩) hHeld ?_ ?_ ?_; rotate_left; (rintro w' ⟨s0, s1, s2⟩; go_simp; with_reducible rfl); rotate_left; (simp only [Act.put, p1', p2', p3', i64_w, i32_w]; rfl)
 refine u' 11 41 (B' 15 4095) ?_ rfl rfl (by kernel_rfl) (fun _ _ _ h => h) (.inl ⟨by rfl, ?_⟩) ?_ ?_ ?_; rotate_left; (intro w'; go_simp; with_reducible rfl); rotate_left; (simp only [Act.put, p1', p2', p3', i64_w, i32_w]; rfl)
 refine t' 12 42 (B' 15 8191) ?_ rfl rfl (by kernel_rfl) (fun _ _ _ h => h) (.inl ⟨by rfl, ?_⟩) hHeld ?_ ?_ ?_; rotate_left; (rintro w' ⟨s0, s1, s2⟩; go_simp; with_reducible rfl); rotate_left; (simp only [Act.put, p1', p2', p3', i64_w, i32_w]; rfl)
 refine one_ (i := 13) (N := some 43) (B' 15 16383) rfl rfl (by kernel_rfl) (by decide) (fun K hK => ?_)
 refine goes_ Try.func63 (by kernel_rfl) rfl #[.int .i64 kind, .int .i64 (rd st i)] (by rfl) rfl rfl (by simp only [List.map_toArray, List.map_cons, List.map_nil]; rfl) ?_
 with_reducible refine (likelyB kind (rd st i) _ hs).mono ?_
 rintro e w3 ⟨rfl, hb3⟩
 refine ⟨_, rfl, ?_⟩
 have hb3' := below_undrew1 hb3
 have HE3 := A' (HE.out.below hb3')
 have HM3 := A' ((Mods.refl w S).below hb3')
 clear hb3 hb3'
 refine hK.out _ _ ⟨HE3.out.c0, HE3.out.c1, by obtain ⟨b', hA, hc, _⟩ := HE3.out.cell hi; cases hA; exact hc⟩ (fun hHeld => ?_)
 clear hK K
 refine norm_ (a' := ?_) ?_ ?_; rotate_left; (show Act.put _ (some 43) _ = _; simp only [Act.put, p1', p2', p3', i64_w, i32_w]; rfl)
 refine u' 14 6 (B' 15 32767) ?_ rfl rfl (by kernel_rfl) (fun _ _ _ h => h) (.inl ⟨by rfl, ?_⟩) ?_ ?_ ?_; rotate_left; (intro w'; go_simp; with_reducible rfl); rotate_left; (simp only [Act.put, p1', p2', p3', i64_w, i32_w]; rfl)
 refine done_ (by kernel_rfl) ?_
 clear k0 k1 ks k8 HE
 go_wp2
 have HE3 := A' HE3.out.drew
 have HM3 := A' HM3.out.drew
 have k2 := HE3.out.c2
 have k3 := HE3.out.c3
 have k6 := HE3.out.c6
 refine start_ (n := 11) (S := fun w' => w'.cell? ⟨g, 2, none⟩ = some (.int .u64 low) ∧ w'.cell? ⟨g, 3, none⟩ = some (.int .u64 high) ∧ w'.cell? ⟨g, 6, none⟩ = some (.int .u64 value)) (ds := []) #[false, false, false, false, false, false, false, false, false, false, false] (by kernel_rfl) rfl rfl ⟨k2, k3, k6⟩ (fun hHeld => ?_)
 refine u' 0 44 (B' 11 1) ?_ rfl rfl (by kernel_rfl) (fun _ _ _ h => h) (.inl ⟨by rfl, ?_⟩) ?_ ?_ ?_; rotate_left; (intro w'; go_simp; with_reducible rfl); rotate_left; (simp only [Act.put, p1', p2', p3', i64_w, i32_w]; rfl)
 refine u' 1 45 (B' 11 3) ?_ rfl rfl (by kernel_rfl) (fun _ _ _ h => h) (.inl ⟨by rfl, ?_⟩) ?_ ?_ ?_; rotate_left; (intro w'; go_simp; with_reducible rfl); rotate_left; (simp only [Act.put, p1', p2', p3', i64_w, i32_w]; rfl)
 refine u' 2 46 (B' 11 7) ?_ rfl rfl (by kernel_rfl) (fun _ _ _ h => h) (.inl ⟨by rfl, ?_⟩) ?_ ?_ ?_; rotate_left; (intro w'; go_simp; with_reducible rfl); rotate_left; (simp only [Act.put, p1', p2', p3', i64_w, i32_w]; rfl)
 refine u' 4 48 (B' 11 23) ?_ rfl rfl (by kernel_rfl) (fun _ _ _ h => h) (.inl ⟨by rfl, ?_⟩) ?_ ?_ ?_; rotate_left; (intro w'; go_simp; with_reducible rfl); rotate_left; (simp only [Act.put, p1', p2', p3', i64_w, i32_w]; rfl)
 refine u' 5 49 (B' 11 55) ?_ rfl rfl (by kernel_rfl) (fun _ _ _ h => h) (.inl ⟨by rfl, ?_⟩) ?_ ?_ ?_; rotate_left; (intro w'; go_simp; with_reducible rfl); rotate_left; (simp only [Act.put, p1', p2', p3', i64_w, i32_w]; rfl)
 refine u' 6 50 (B' 11 119) ?_ rfl rfl (by kernel_rfl) (fun _ _ _ h => h) (.inl ⟨by rfl, ?_⟩) ?_ ?_ ?_; rotate_left; (intro w'; go_simp; with_reducible rfl); rotate_left; (simp only [Act.put, p1', p2', p3', i64_w, i32_w]; rfl)
 refine u' 8 52 (B' 11 375) ?_ rfl rfl (by kernel_rfl) (fun _ _ _ h => h) (.inl ⟨by rfl, ?_⟩) ?_ ?_ ?_; rotate_left; (intro w'; go_simp; with_reducible rfl); rotate_left; (simp only [Act.put, p1', p2', p3', i64_w, i32_w]; rfl)
 refine t' 3 47 (B' 11 383) ?_ rfl rfl (by kernel_rfl) (fun _ _ _ h => h) (.inl ⟨by rfl, ?_⟩) hHeld ?_ ?_ ?_; rotate_left; (rintro w' ⟨s0, s1, s2⟩; go_simp; with_reducible rfl); rotate_left; (simp only [Act.put, p1', p2', p3', i64_w, i32_w]; rfl)
 refine t' 7 51 (B' 11 511) ?_ rfl rfl (by kernel_rfl) (fun _ _ _ h => h) (.inl ⟨by rfl, ?_⟩) hHeld ?_ ?_ ?_; rotate_left; (rintro w' ⟨s0, s1, s2⟩; go_simp; with_reducible rfl); rotate_left; (simp only [Act.put, p1', p2', p3', i64_w, i32_w]; rfl)
 refine one_ (i := 9) (N := some 53) (B' 11 1023) rfl rfl (by kernel_rfl) (by decide) (fun K hK => ?_)
 refine goes_ Try.func91 (by kernel_rfl) rfl #[.agg #[.int .u64 low, .int .u64 high], .int .i64 (likely kind (rd st i))] (by rfl) rfl rfl (by simp only [List.map_toArray, List.map_cons, List.map_nil]; rfl) ?_
 with_reducible refine ((HMID _).out).mono ?_
 rintro e w4 ⟨rfl, hb4⟩
 refine ⟨_, rfl, ?_⟩
 have HE4 := A' (HE3.out.below hb4)
 have HM4 := A' (HM3.out.below hb4)
 clear hb4
 refine hK.out _ _ ⟨HE4.out.c2, HE4.out.c3, HE4.out.c6⟩ (fun hHeld => ?_)
 clear hK K
 refine norm_ (a' := ?_) ?_ ?_; rotate_left; (show Act.put _ (some 53) _ = _; simp only [Act.put, p1', p2', p3', i64_w, i32_w]; rfl)
 refine u' 10 54 (B' 11 2047) ?_ rfl rfl (by kernel_rfl) (fun _ _ _ h => h) (.inl ⟨by rfl, ?_⟩) ?_ ?_ ?_; rotate_left; (intro w'; go_simp; with_reducible rfl); rotate_left; (simp only [Act.put, p1', p2', p3', i64_w, i32_w]; rfl)
 refine done_ (by kernel_rfl) ?_
 clear k2 k3 k6 HE3 HM3
 go_wp2
 have HE4 := A' HE4.out.drew
 have HM4 := A' HM4.out.drew
 have p2 := HE4.out.c2
 have p3 := HE4.out.c3
 have p5 := HE4.out.c5
 have p6 := HE4.out.c6
 refine start_ (n := 19) (S := fun w' => w'.cell? ⟨g, 2, none⟩ = some (.int .u64 low) ∧ w'.cell? ⟨g, 3, none⟩ = some (.int .u64 high) ∧ w'.cell? ⟨g, 5, none⟩ = some (.int .i64 a) ∧ w'.cell? ⟨g, 6, none⟩ = some (.int .u64 value)) (ds := []) #[false, false, false, false, false, false, false, false, false, false, false, false, false, false, false, false, false, false, false] (by kernel_rfl) rfl rfl ⟨p2, p3, p5, p6⟩ (fun hHeld => ?_)
 generalize w4.drew = wd at p2 p3 p5 p6 HE4 HM4 hHeld ⊢
 refine u' 0 55 (B' 19 1) ?_ rfl rfl (by kernel_rfl) (fun _ _ _ h => h) (.inl ⟨by rfl, ?_⟩) ?_ ?_ ?_; rotate_left; (intro w'; go_simp; with_reducible rfl); rotate_left; (simp only [Act.put, p1', p2', p3', i64_w, i32_w]; rfl)
 refine u' 1 56 (B' 19 3) ?_ rfl rfl (by kernel_rfl) (fun _ _ _ h => h) (.inl ⟨by rfl, ?_⟩) ?_ ?_ ?_; rotate_left; (intro w'; go_simp; with_reducible rfl); rotate_left; (simp only [Act.put, p1', p2', p3', i64_w, i32_w]; rfl)
 refine u' 2 57 (B' 19 7) ?_ rfl rfl (by kernel_rfl) (fun _ _ _ h => h) (.inl ⟨by rfl, ?_⟩) ?_ ?_ ?_; rotate_left; (intro w'; go_simp; with_reducible rfl); rotate_left; (simp only [Act.put, p1', p2', p3', i64_w, i32_w]; rfl)
 refine u' 4 59 (B' 19 23) ?_ rfl rfl (by kernel_rfl) (fun _ _ _ h => h) (.inl ⟨by rfl, ?_⟩) ?_ ?_ ?_; rotate_left; (intro w'; go_simp; with_reducible rfl); rotate_left; (simp only [Act.put, p1', p2', p3', i64_w, i32_w]; rfl)
 refine u' 5 60 (B' 19 55) ?_ rfl rfl (by kernel_rfl) (fun _ _ _ h => h) (.inl ⟨by rfl, ?_⟩) ?_ ?_ ?_; rotate_left; (intro w'; go_simp; with_reducible rfl); rotate_left; (simp only [Act.put, p1', p2', p3', i64_w, i32_w]; rfl)
 refine u' 7 62 (B' 19 183) ?_ rfl rfl (by kernel_rfl) (fun _ _ _ h => h) (.inl ⟨by rfl, ?_⟩) ?_ ?_ ?_; rotate_left; (intro w'; go_simp; with_reducible rfl); rotate_left; (simp only [Act.put, p1', p2', p3', i64_w, i32_w]; rfl)
 refine u' 8 63 (B' 19 439) ?_ rfl rfl (by kernel_rfl) (fun _ _ _ h => h) (.inl ⟨by rfl, ?_⟩) ?_ ?_ ?_; rotate_left; (intro w'; go_simp; with_reducible rfl); rotate_left; (simp only [Act.put, p1', p2', p3', i64_w, i32_w]; rfl)
 refine u' 9 64 (B' 19 951) ?_ rfl rfl (by kernel_rfl) (fun _ _ _ h => h) (.inl ⟨by rfl, ?_⟩) ?_ ?_ ?_; rotate_left; (intro w'; go_simp; with_reducible rfl); rotate_left; (simp only [Act.put, p1', p2', p3', i64_w, i32_w]; rfl)
 refine u' 11 66 (B' 19 2999) ?_ rfl rfl (by kernel_rfl) (fun _ _ _ h => h) (.inl ⟨by rfl, ?_⟩) ?_ ?_ ?_; rotate_left; (intro w'; go_simp; with_reducible rfl); rotate_left; (simp only [Act.put, p1', p2', p3', i64_w, i32_w]; rfl)
 refine u' 12 67 (B' 19 7095) ?_ rfl rfl (by kernel_rfl) (fun _ _ _ h => h) (.inl ⟨by rfl, ?_⟩) ?_ ?_ ?_; rotate_left; (intro w'; go_simp; with_reducible rfl); rotate_left; (simp only [Act.put, p1', p2', p3', i64_w, i32_w]; rfl)
 refine u' 13 68 (B' 19 15287) ?_ rfl rfl (by kernel_rfl) (fun _ _ _ h => h) (.inl ⟨by rfl, ?_⟩) ?_ ?_ ?_; rotate_left; (intro w'; go_simp; with_reducible rfl); rotate_left; (simp only [Act.put, p1', p2', p3', i64_w, i32_w]; rfl)
 refine t' 3 58 (B' 19 15295) ?_ rfl rfl (by kernel_rfl) (fun _ _ _ h => h) (.inl ⟨by rfl, ?_⟩) hHeld ?_ ?_ ?_; rotate_left; (rintro w' ⟨s0, s1, s2, s3⟩; go_simp; with_reducible rfl); rotate_left; (simp only [Act.put, p1', p2', p3', i64_w, i32_w]; rfl)
 refine t' 10 65 (B' 19 16319) ?_ rfl rfl (by kernel_rfl) (fun _ _ _ h => h) (.inl ⟨by rfl, ?_⟩) hHeld ?_ ?_ ?_; rotate_left; (rintro w' ⟨s0, s1, s2, s3⟩; go_simp; with_reducible rfl); rotate_left; (simp only [Act.put, p1', p2', p3', i64_w, i32_w]; rfl)
 refine t' 14 69 (B' 19 32703) ?_ rfl rfl (by kernel_rfl) (fun _ _ _ h => h) (.inl ⟨by rfl, ?_⟩) hHeld ?_ ?_ ?_; rotate_left; (rintro w' ⟨s0, s1, s2, s3⟩; go_simp; with_reducible rfl); rotate_left; (simp only [Act.put, p1', p2', p3', i64_w, i32_w]; rfl)
 refine join_ (σ := Nat) 3 (B' 19 65535) (fun s => [(61, .agg #[.int .u64 (cutL low mid 1), .int .u64 (cutH high mid 1)]), (8, .pointer (some ⟨s, 0, none⟩))]) (fun s w' => w'.heap[s]? = some (.cells #[.int .u64 0, .int .u64 0] 96 (0, 0)) ∧ wd.heap.size ≤ s ∧ Below wd.heap.size wd w') ?_ ?_
 rotate_left
 · intro hCont
   refine two_ (i := 6) (j := 15) (Ni := some 61) (Nj := some 8) (B' 19 32767) (B' 19 65471) rfl rfl rfl rfl (by kernel_rfl) (by decide) (by decide) (fun K hK => ?_) (fun K hK => ?_)
   · skip
     refine goes_ Try.func64 (by kernel_rfl) rfl #[.agg #[.int .u64 low, .int .u64 high], .int .i64 (likely kind (rd st i)), .int .i64 1] (by rfl) rfl rfl (by simp only [List.map_toArray, List.map_cons, List.map_nil]; rfl) ?_
     with_reducible refine ((HP _).out).mono ?_
     rintro e wk ⟨rfl, hk⟩
     refine ⟨_, rfl, ?_⟩
     have t2 := pw_cell_below hk p2
     have t3 := pw_cell_below hk p3
     have t5 := pw_cell_below hk p5
     have t6 := pw_cell_below hk p6
     refine hK.out _ _ ⟨t2, t3, t5, t6⟩ (fun hHeld => ?_)
     clear hK K
     refine norm_ (a' := ?_) ?_ ?_; rotate_left; (show Act.put _ (some 61) _ = _; simp only [Act.put, p1', p2', p3', i64_w, i32_w]; rfl)
     refine one_ (i := 15) (N := some 8) (B' 19 65535) rfl rfl (by kernel_rfl) (by decide) (fun K hK => ?_)
     refine value_ (w1 := ?_) (v := ?_) (by rfl) rfl ?_ ?_
     rotate_left 2
     · go_simp
       constructor
       · rfl
       · rfl
     refine hK.out _ _ ⟨pw_cell_below (below_alloc (Below.refl _ _) _) t2, pw_cell_below (below_alloc (Below.refl _ _) _) t3, pw_cell_below (below_alloc (Below.refl _ _) _) t5, pw_cell_below (below_alloc (Below.refl _ _) _) t6⟩ (fun hHeld => ?_)
     clear hK K
     refine norm_ (a' := ?_) ?_ ?_; rotate_left; (show Act.put _ (some 8) _ = _; simp only [Act.put, p1', p2', p3', i64_w, i32_w]; rfl)
     exact norm_ (by simp only [putAll, Act.put, List.setIfInBounds_toArray, List.set_cons_zero, List.set_cons_succ]) (hCont wk.heap.size _ ⟨blk_new _ _, hk.size, below_alloc hk _⟩)
   · skip
     refine value_ (w1 := ?_) (v := ?_) (by rfl) rfl ?_ ?_
     rotate_left 2
     · go_simp
       constructor
       · rfl
       · rfl
     refine hK.out _ _ ⟨pw_cell_below (below_alloc (Below.refl _ _) _) p2, pw_cell_below (below_alloc (Below.refl _ _) _) p3, pw_cell_below (below_alloc (Below.refl _ _) _) p5, pw_cell_below (below_alloc (Below.refl _ _) _) p6⟩ (fun hHeld => ?_)
     clear hK K
     refine norm_ (a' := ?_) ?_ ?_; rotate_left; (show Act.put _ (some 8) _ = _; simp only [Act.put, p1', p2', p3', i64_w, i32_w]; rfl)
     refine one_ (i := 6) (N := some 61) (B' 19 65535) rfl rfl (by kernel_rfl) (by decide) (fun K hK => ?_)
     refine goes_ Try.func64 (by kernel_rfl) rfl #[.agg #[.int .u64 low, .int .u64 high], .int .i64 (likely kind (rd st i)), .int .i64 1] (by rfl) rfl rfl (by simp only [List.map_toArray, List.map_cons, List.map_nil]; rfl) ?_
     with_reducible refine ((HP _).out).mono ?_
     rintro e wk ⟨rfl, hk⟩
     refine ⟨_, rfl, ?_⟩
     have t2 := pw_cell_below hk (pw_cell_below (below_alloc (Below.refl _ _) _) p2)
     have t3 := pw_cell_below hk (pw_cell_below (below_alloc (Below.refl _ _) _) p3)
     have t5 := pw_cell_below hk (pw_cell_below (below_alloc (Below.refl _ _) _) p5)
     have t6 := pw_cell_below hk (pw_cell_below (below_alloc (Below.refl _ _) _) p6)
     refine hK.out _ _ ⟨t2, t3, t5, t6⟩ (fun hHeld => ?_)
     clear hK K
     refine norm_ (a' := ?_) ?_ ?_; rotate_left; (show Act.put _ (some 61) _ = _; simp only [Act.put, p1', p2', p3', i64_w, i32_w]; rfl)
     exact norm_ (by simp only [putAll, Act.put, List.setIfInBounds_toArray, List.set_cons_zero, List.set_cons_succ]) (hCont wd.heap.size _ ⟨blk_below (blk_new _ _) hk, Nat.le_refl _, below_then (below_alloc (Below.refl _ _) _) (by simp) hk⟩)
 rintro q w5 ⟨hq, hqs, hqb⟩
 have t2 := pw_cell_below hqb p2
 have t3 := pw_cell_below hqb p3
 have t5 := pw_cell_below hqb p5
 have t6 := pw_cell_below hqb p6
 have hHeld : w5.cell? ⟨g, 2, none⟩ = some (.int .u64 low) ∧ w5.cell? ⟨g, 3, none⟩ = some (.int .u64 high) ∧ w5.cell? ⟨g, 5, none⟩ = some (.int .i64 a) ∧ w5.cell? ⟨g, 6, none⟩ = some (.int .u64 value) := ⟨t2, t3, t5, t6⟩
 have z0 : w5.cell? ⟨q, 0, none⟩ = some (.int .u64 0) := (blk_cell hq 0).trans rfl
 have z1 : w5.cell? ⟨q, 1, none⟩ = some (.int .u64 0) := (blk_cell hq 1).trans rfl
 have zf0 := blk_frozen hq 0
 have zf1 := blk_frozen hq 1
 have HQ := A' hq
 have HQS := A' hqs
 have HQB := A' hqb
 clear hq hqs hqb
 refine norm_ (a' := ?_) ?_ ?_
 rotate_left
 · simp only [putAll, Act.put, List.setIfInBounds_toArray, List.set_cons_zero, List.set_cons_succ]
   rfl
 refine one_ (i := 16) (N := none) (B' 19 131071) rfl rfl (by kernel_rfl) (by decide) (fun K hK => ?_)
 refine skip_ (w1 := ?_) (by rfl) rfl ?_ ?_
 rotate_left
 · go_simp
   rfl
 refine hK.out _ _ ⟨pw_cell_below ((HQB.out.setCell (p := ⟨q, 0, none⟩) HQS.out _).setCell (p := ⟨q, 1, none⟩) HQS.out _) p2, pw_cell_below ((HQB.out.setCell (p := ⟨q, 0, none⟩) HQS.out _).setCell (p := ⟨q, 1, none⟩) HQS.out _) p3, pw_cell_below ((HQB.out.setCell (p := ⟨q, 0, none⟩) HQS.out _).setCell (p := ⟨q, 1, none⟩) HQS.out _) p5, pw_cell_below ((HQB.out.setCell (p := ⟨q, 0, none⟩) HQS.out _).setCell (p := ⟨q, 1, none⟩) HQS.out _) p6⟩ (fun hHeld => ?_)
 clear hK K
 refine u' 17 9 (B' 19 262143) ?_ rfl rfl (by kernel_rfl) (fun _ _ _ h => h) (.inl ⟨by rfl, ?_⟩) ?_ ?_ ?_; rotate_left; (intro w'; go_simp; with_reducible rfl); rotate_left; (simp only [Act.put, p1', p2', p3', i64_w, i32_w]; rfl)
 refine u' 18 10 (B' 19 524287) ?_ rfl rfl (by kernel_rfl) (fun _ _ _ h => h) (.inl ⟨by rfl, ?_⟩) ?_ ?_ ?_; rotate_left; (intro w'; go_simp; with_reducible rfl); rotate_left; (simp only [Act.put, p1', p2', p3', i64_w, i32_w]; rfl)
 refine done_ (by kernel_rfl) ?_
 obtain ⟨w6, hw6⟩ : ∃ w6, w6 = (w5.setCell ⟨q, 0, none⟩ (.int .u64 (cutL low mid 1))).setCell ⟨q, 1, none⟩ (.int .u64 (cutH high mid 1)) := ⟨_, rfl⟩
 rw [← hw6]
 have hB6 : Below wd.heap.size wd w6 := hw6 ▸ (HQB.out.setCell (p := ⟨q, 0, none⟩) HQS.out _).setCell (p := ⟨q, 1, none⟩) HQS.out _
 have hq1 : (w5.setCell ⟨q, 0, none⟩ (.int .u64 (cutL low mid 1))).heap[q]? = some (.cells #[.int .u64 (cutL low mid 1), .int .u64 0] 96 (0, 0)) := blk_put (cs := #[.int .u64 0, .int .u64 0]) HQ.out 0 _ rfl
 have HQ6 := A' (show w6.heap[q]? = some (.cells #[.int .u64 (cutL low mid 1), .int .u64 (cutH high mid 1)] 96 (0, 0)) from hw6 ▸ blk_put (cs := #[.int .u64 (cutL low mid 1), .int .u64 0]) hq1 1 _ rfl)
 have HE6 := A' (HE4.out.below hB6)
 have HM6 := A' (HM4.out.below hB6)
 have hqn : ¬ S q := fun hk => by have h1 := HSB.out q hk; have h2 := HM4.out.size; have h3 := HQS.out; omega
 have hgq : g ≠ q := fun he => hqn (he ▸ hSg)
 have HQN := A' hqn
 have HQS2 := A' (show w.heap.size ≤ q from Nat.le_trans HM4.out.size HQS.out)
 clear hw6 hB6 hq1 hqn HE4 HM4 HQ HQS HQB z0 z1 zf0 zf1 t2 t3 t5 t6 p2 p3 p5 p6
 go_wp2
 try rw [decide_eq_true hvb]
 try simp only [decide_eq_false (show ¬ st.length ≤ i by omega), Bool.or_false]
 go_loopg [9, 10] 4 (fun d s9 s10 wr => ∃ (l h : Int) (n : List Int) (k : Nat) (v : Int), s9 = .int .i64 k ∧ s10 = .int .u64 v ∧ (0 ≤ v ∧ v ≤ 4294967295) ∧ Aside0 (k = a + n.length ∧ v = shV code n.length value a) ∧ Aside0 (RDecRow wr S g kind (some ⟨b, 0, none⟩) c st low high (.slice Ac code.length cc) code a value ((a - code.length : Nat) : Int) false) ∧ Aside0 (Mods w wr S) ∧ Aside0 (wr.heap[q]? = some (.cells #[.int .u64 l, .int .u64 h] 96 (0, 0))) ∧ Aside0 (PutInv [] (cutL low mid 1) (cutH high mid 1) d l h n))
 case atStart => exact ⟨_, _, [], a, value, rfl, rfl, ⟨hv0, hv1⟩, ⟨rfl, rfl⟩, HE6, HM6, HQ6, HI⟩
 clear HE6 HM6 HQ6 HI
 case round =>
  obtain ⟨l, h, n, k, v, rfl, rfl, hv, HKV, HE7, HM7, HQ7, HPI⟩ := hrel
  have hp0 := HPI.out.l0
  have hp1 := HPI.out.lh
  have hp2 := HPI.out.h0
  have hp3 := HPI.out.len
  rw [List.length_nil] at hp3
  have hka : k ≤ 2199023255552 := by have := HKV.out.1; omega
  have hs7 := fixed_calls l h
  have z0 : wr.cell? ⟨q, 0, none⟩ = some (.int .u64 l) := (blk_cell HQ7.out 0).trans rfl
  have z1 : wr.cell? ⟨q, 1, none⟩ = some (.int .u64 h) := (blk_cell HQ7.out 1).trans rfl
  by_cases cx : l / 16777216 = h / 16777216
  · rw [decide_eq_true cx] at hs7
    have HSA := A' hs7
    clear hs7
    obtain ⟨d', hd', hP'⟩ := HPI.out.step cx
    have HP' := A' hP'
    have HD := A' hd'
    have hbr := byteOf_range HBY.out k
    clear hd' hP' cx
    go_wp2_with (first
     | (go_at_call 66; refine (HSA.out _).mono ?_; rintro e w8 ⟨rfl, hb8⟩; have HE8 := A' (HE7.out.below hb8); have HM8 := A' (HM7.out.below hb8); have HQ8 := A' (blk_below HQ7.out hb8); have z0 : w8.cell? ⟨q, 0, none⟩ = some (.int .u64 l) := (blk_cell HQ8.out 0).trans rfl; have z1 : w8.cell? ⟨q, 1, none⟩ = some (.int .u64 h) := (blk_cell HQ8.out 1).trans rfl; clear hb8)
     | (go_at_call 67; refine (shift_calls l h _ hp0 (by omega) (by omega) hp2).mono ?_; rintro e w9 ⟨rfl, hb9⟩; have HE9 := A' (HE8.out.below hb9); have HM9 := A' (HM8.out.below hb9); have HQ9 := A' (blk_below HQ8.out hb9); have z0 : w9.cell? ⟨q, 0, none⟩ = some (.int .u64 l) := (blk_cell HQ9.out 0).trans rfl; have z1 : w9.cell? ⟨q, 1, none⟩ = some (.int .u64 h) := (blk_cell HQ9.out 1).trans rfl; have zf0 := blk_frozen HQ9.out 0; have zf1 := blk_frozen HQ9.out 1; have k4 := HE9.out.c4; clear hb9))
    obtain ⟨w10, hw10⟩ : ∃ w10, w10 = (w9.setCell ⟨q, 0, none⟩ (.int .u64 (l % 16777216 * 256))).setCell ⟨q, 1, none⟩ (.int .u64 (h % 16777216 * 256 + 255)) := ⟨_, rfl⟩
    rw [← hw10]
    have hq10 : (w9.setCell ⟨q, 0, none⟩ (.int .u64 (l % 16777216 * 256))).heap[q]? = some (.cells #[.int .u64 (l % 16777216 * 256), .int .u64 h] 96 (0, 0)) := blk_put (cs := #[.int .u64 l, .int .u64 h]) HQ9.out 0 _ rfl
    have HQ10 := A' (show w10.heap[q]? = some (.cells #[.int .u64 (l % 16777216 * 256), .int .u64 (h % 16777216 * 256 + 255)] 96 (0, 0)) from hw10 ▸ blk_put (cs := #[.int .u64 (l % 16777216 * 256), .int .u64 h]) hq10 1 _ rfl)
    have HE10 := A' (show RDecRow w10 S g kind (some ⟨b, 0, none⟩) c st low high (.slice Ac code.length cc) code a value ((a - code.length : Nat) : Int) false from hw10 ▸ (HE9.out.far (p := ⟨q, 0, none⟩) HQN.out _).far (p := ⟨q, 1, none⟩) HQN.out _)
    have hqs : w.heap.size ≤ q := by have h1 := HQS2.out; omega
    have HM10 := A' (show Mods w w10 S from hw10 ▸ (HM9.out.setCell (p := ⟨q, 0, none⟩) (.inr hqs) _).setCell (p := ⟨q, 1, none⟩) (.inr hqs) _)
    clear hw10 hq10 hqs z0 z1 zf0 zf1 k4 HE9 HM9 HQ9 HE8 HM8 HQ8
    refine (byte_calls Ac cc code k _ (Kd.R_reads' HE10.out.o).2.2 HBY.out).mono ?_
    rintro e w11 ⟨rfl, rfl⟩
    go_wp2
    go_roundg d'
    case measure => have := HD.out; omega
    case rel =>
     have h1 := HKV.out
     refine ⟨_, _, _, k + 1, _, rfl, rfl, by omega, ⟨?_, ?_⟩, HE10, HM10, HQ10, HP'⟩
     · rw [List.length_append, List.length_cons, List.length_nil, h1.1]
       omega
     · rw [List.length_append, List.length_cons, List.length_nil, Nat.zero_add, shV_succ, ← h1.2, ← h1.1]
  · rw [decide_eq_false cx] at hs7
    have HSA := A' hs7
    clear hs7
    have HCC := A' (HPI.out.done cx)
    clear cx
    have HN := A' (show normE 4 (cutL low mid 1) (cutH high mid 1) = (n, l, h) from by
     have h1 := HCC.out
     rw [List.nil_append] at h1
     exact Prod.ext h1.1.symm h1.2)
    obtain ⟨be, hbe⟩ : ∃ be : Nat, k - code.length = be := ⟨_, rfl⟩
    have HBE := A' hbe
    have hbk : be ≤ 2199023255552 := by omega
    by_cases hb4 : (be : Int) > 4
    · have HB4 := A' hb4
      go_wp2_with (go_at_call 66; refine (HSA.out _).mono ?_; rintro e w8 ⟨rfl, hb8⟩; have HE8 := A' (HE7.out.below hb8); have HM8 := A' (HM7.out.below hb8); have k4 := HE8.out.c4; have k8 := HE8.out.c8; have f8 := HE8.out.fz 8; clear hb8)
      go_ret2
      have h1 := HKV.out
      refine ⟨⟨l, h, n, HN.out, .inl ⟨by have := HB4.out; have := HBE.out; omega, rfl, HE8.out.put 8 _ rfl⟩⟩, HM8.out.setCell (.inl hSg) _⟩
    · have HB4 := A' hb4
      go_wp2_with (go_at_call 66; refine (HSA.out _).mono ?_; rintro e w8 ⟨rfl, hb8⟩; have HE8 := A' (HE7.out.below hb8); have HM8 := A' (HM7.out.below hb8); have HQ8 := A' (blk_below HQ7.out hb8); have k4 := HE8.out.c4; clear hb8)
      have HE8 := A' HE8.out.drew
      have HM8 := A' HM8.out.drew
      have HQ8 := A' (blk_drew HQ8.out)
      have k0 := HE8.out.c0
      have k1 := HE8.out.c1
      have ks : w8.drew.cell? ⟨b, i, none⟩ = some (.int .i64 (rd st i)) := by obtain ⟨b', hA, hc, _⟩ := HE8.out.cell hi; cases hA; exact hc
      clear k4
      refine start_ (n := 23) (S := fun w' => w'.cell? ⟨g, 0, none⟩ = some (.int .i64 kind) ∧ w'.cell? ⟨g, 1, none⟩ = some (.slice (some ⟨b, 0, none⟩) st.length c) ∧ w'.cell? ⟨b, i, none⟩ = some (.int .i64 (rd st i))) (ds := [22]) #[false, false, false, false, false, false, false, false, false, false, false, false, false, false, false, false, false, false, false, false, false, false, false] (by kernel_rfl) rfl rfl ⟨k0, k1, ks⟩ (fun hHeld => ?_)
      refine u' 0 99 (B' 23 1) ?_ rfl rfl (by kernel_rfl) (fun _ _ _ h => h) (.inl ⟨by rfl, ?_⟩) ?_ ?_ ?_; rotate_left; (intro w'; go_simp; with_reducible rfl); rotate_left; (simp only [Act.put, p1', p2', p3', i64_w, i32_w]; rfl)
      refine u' 1 100 (B' 23 3) ?_ rfl rfl (by kernel_rfl) (fun _ _ _ h => h) (.inl ⟨by rfl, ?_⟩) ?_ ?_ ?_; rotate_left; (intro w'; go_simp; with_reducible rfl); rotate_left; (simp only [Act.put, p1', p2', p3', i64_w, i32_w]; rfl)
      refine u' 2 101 (B' 23 7) ?_ rfl rfl (by kernel_rfl) (fun _ _ _ h => h) (.inl ⟨by rfl, ?_⟩) ?_ ?_ ?_; rotate_left; (intro w'; go_simp; with_reducible rfl); rotate_left; (simp only [Act.put, p1', p2', p3', i64_w, i32_w]; rfl)
      refine u' 3 102 (B' 23 15) ?_ rfl rfl (by kernel_rfl) (fun _ _ _ h => h) (.inl ⟨by rfl, ?_⟩) ?_ ?_ ?_; rotate_left; (intro w'; go_simp; with_reducible rfl); rotate_left; (simp only [Act.put, p1', p2', p3', i64_w, i32_w]; rfl)
      refine u' 5 104 (B' 23 47) ?_ rfl rfl (by kernel_rfl) (fun _ _ _ h => h) (.inl ⟨by rfl, ?_⟩) ?_ ?_ ?_; rotate_left; (intro w'; go_simp; with_reducible rfl); rotate_left; (simp only [Act.put, p1', p2', p3', i64_w, i32_w]; rfl)
      refine u' 6 105 (B' 23 111) ?_ rfl rfl (by kernel_rfl) (fun _ _ _ h => h) (.inl ⟨by rfl, ?_⟩) ?_ ?_ ?_; rotate_left; (intro w'; go_simp; with_reducible rfl); rotate_left; (simp only [Act.put, p1', p2', p3', i64_w, i32_w]; rfl)
      refine u' 7 106 (B' 23 239) ?_ rfl rfl (by kernel_rfl) (fun _ _ _ h => h) (.inl ⟨by rfl, ?_⟩) ?_ ?_ ?_; rotate_left; (intro w'; go_simp; with_reducible rfl); rotate_left; (simp only [Act.put, p1', p2', p3', i64_w, i32_w]; rfl)
      refine u' 8 107 (B' 23 495) ?_ rfl rfl (by kernel_rfl) (fun _ _ _ h => h) (.inl ⟨by rfl, ?_⟩) ?_ ?_ ?_; rotate_left; (intro w'; go_simp; with_reducible rfl); rotate_left; (simp only [Act.put, p1', p2', p3', i64_w, i32_w]; rfl)
      refine u' 9 108 (B' 23 1007) ?_ rfl rfl (by kernel_rfl) (fun _ _ _ h => h) (.inl ⟨by rfl, ?_⟩) ?_ ?_ ?_; rotate_left; (intro w'; go_simp; with_reducible rfl); rotate_left; (simp only [Act.put, p1', p2', p3', i64_w, i32_w]; rfl)
      refine u' 11 110 (B' 23 3055) ?_ rfl rfl (by kernel_rfl) (fun _ _ _ h => h) (.inl ⟨by rfl, ?_⟩) ?_ ?_ ?_; rotate_left; (intro w'; go_simp; with_reducible rfl); rotate_left; (simp only [Act.put, p1', p2', p3', i64_w, i32_w]; rfl)
      refine u' 12 111 (B' 23 7151) ?_ rfl rfl (by kernel_rfl) (fun _ _ _ h => h) (.inl ⟨by rfl, ?_⟩) ?_ ?_ ?_; rotate_left; (intro w'; go_simp; with_reducible rfl); rotate_left; (simp only [Act.put, p1', p2', p3', i64_w, i32_w]; rfl)
      refine u' 13 112 (B' 23 15343) ?_ rfl rfl (by kernel_rfl) (fun _ _ _ h => h) (.inl ⟨by rfl, ?_⟩) ?_ ?_ ?_; rotate_left; (intro w'; go_simp; with_reducible rfl); rotate_left; (simp only [Act.put, p1', p2', p3', i64_w, i32_w]; rfl)
      refine u' 14 113 (B' 23 31727) ?_ rfl rfl (by kernel_rfl) (fun _ _ _ h => h) (.inl ⟨by rfl, ?_⟩) ?_ ?_ ?_; rotate_left; (intro w'; go_simp; with_reducible rfl); rotate_left; (simp only [Act.put, p1', p2', p3', i64_w, i32_w]; rfl)
      refine u' 16 115 (B' 23 97263) ?_ rfl rfl (by kernel_rfl) (fun _ _ _ h => h) (.inl ⟨by rfl, ?_⟩) ?_ ?_ ?_; rotate_left; (intro w'; go_simp; with_reducible rfl); rotate_left; (simp only [Act.put, p1', p2', p3', i64_w, i32_w]; rfl)
      refine u' 19 118 (B' 23 621551) ?_ rfl rfl (by kernel_rfl) (fun _ _ _ h => h) (.inl ⟨by rfl, ?_⟩) ?_ ?_ ?_; rotate_left; (intro w'; go_simp; with_reducible rfl); rotate_left; (simp only [Act.put, p1', p2', p3', i64_w, i32_w]; rfl)
      refine t' 4 103 (B' 23 621567) ?_ rfl rfl (by kernel_rfl) (fun _ _ _ h => h) (.inl ⟨by rfl, ?_⟩) hHeld ?_ ?_ ?_; rotate_left; (rintro w' ⟨s0, s1, s2⟩; go_simp; with_reducible rfl); rotate_left; (simp only [Act.put, p1', p2', p3', i64_w, i32_w]; rfl)
      refine t' 10 109 (B' 23 622591) ?_ rfl rfl (by kernel_rfl) (fun _ _ _ h => h) (.inl ⟨by rfl, ?_⟩) hHeld ?_ ?_ ?_; rotate_left; (rintro w' ⟨s0, s1, s2⟩; go_simp; with_reducible rfl); rotate_left; (simp only [Act.put, p1', p2', p3', i64_w, i32_w]; rfl)
      refine t' 15 114 (B' 23 655359) ?_ rfl rfl (by kernel_rfl) (fun _ _ _ h => h) (.inl ⟨by rfl, ?_⟩) hHeld ?_ ?_ ?_; rotate_left; (rintro w' ⟨s0, s1, s2⟩; go_simp; with_reducible rfl); rotate_left; (simp only [Act.put, p1', p2', p3', i64_w, i32_w]; rfl)
      refine u' 17 116 (B' 23 786431) ?_ rfl rfl (by kernel_rfl) (fun _ _ _ h => h) (.inl ⟨by rfl, ?_⟩) ?_ ?_ ?_; rotate_left; (intro w'; go_simp; with_reducible rfl); rotate_left; (simp only [Act.put, p1', p2', p3', i64_w, i32_w]; rfl)
      refine t' 18 117 (B' 23 1048575) ?_ rfl rfl (by kernel_rfl) (fun _ _ _ h => h) (.inl ⟨by rfl, ?_⟩) hHeld ?_ ?_ ?_; rotate_left; (rintro w' ⟨s0, s1, s2⟩; go_simp; with_reducible rfl); rotate_left; (simp only [Act.put, p1', p2', p3', i64_w, i32_w]; rfl)
      refine one_ (i := 20) (N := some 119) (B' 23 2097151) rfl rfl (by kernel_rfl) (by decide) (fun K hK => ?_)
      refine goes_ Try.func65 (by kernel_rfl) rfl #[.int .i64 kind, .int .i64 (rd st i), .int .i64 1] (by rfl) rfl rfl (by simp only [List.map_toArray, List.map_cons, List.map_nil]; rfl) ?_
      with_reducible refine (ref_after kind (rd st i) 1 _ hs (by decide)).mono ?_
      rintro e w9 ⟨rfl, hb9⟩
      refine ⟨_, rfl, ?_⟩
      have HE9 := A' (HE8.out.below hb9)
      have HM9 := A' (HM8.out.below hb9)
      have HQ9 := A' (blk_below HQ8.out hb9)
      have c9 : w9.cell? ⟨b, i, none⟩ = some (.int .i64 (rd st i)) := by obtain ⟨b', hA, hc, _⟩ := HE9.out.cell hi; cases hA; exact hc
      have f9 : w9.frozen? ⟨b, i, none⟩ = false := by obtain ⟨b', hA, _, hf, _⟩ := HE9.out.cell hi; cases hA; exact hf
      clear hb9
      refine hK.out _ _ ⟨HE9.out.c0, HE9.out.c1, c9⟩ (fun hHeld => ?_)
      clear hK K
      refine norm_ (a' := ?_) ?_ ?_; rotate_left; (show Act.put _ (some 119) _ = _; simp only [Act.put, p1', p2', p3', i64_w, i32_w]; rfl)
      refine u' 21 120 (B' 23 4194303) ?_ rfl rfl (by kernel_rfl) (fun _ _ _ h => h) (.inl ⟨by rfl, ?_⟩) ?_ ?_ ?_; rotate_left; (intro w'; go_simp; with_reducible rfl); rotate_left; (simp only [Act.put, p1', p2', p3', i64_w, i32_w]; rfl)
      refine last_ (i := 22) (N := none) (B' 23 8388607) rfl rfl (by kernel_rfl) (by decide) (fun K hK => ?_)
      refine skip_ (w1 := ?_) (by rfl) rfl ?_ ?_
      rotate_left
      · go_simp
        rfl
      refine hK.out _ _ ?_
      clear hK K
      refine done_ (by kernel_rfl) ?_
      obtain ⟨w10, hw10⟩ : ∃ w10, w10 = w9.setCell ⟨b, i, none⟩ (.int .i64 (after kind (rd st i) 1)) := ⟨_, rfl⟩
      rw [← hw10]
      have HE10 := A' (show RDecRow w10 S g kind (some ⟨b, 0, none⟩) c (st.set i (after kind (rd st i) 1)) low high (.slice Ac code.length cc) code a value ((a - code.length : Nat) : Int) false from hw10 ▸ HE9.out.setst hi _)
      have HM10 := A' (show Mods w w10 S from hw10 ▸ HM9.out.setCell (.inl hSb2) _)
      have hqb : q ≠ b := fun he => HQN.out (he ▸ hSb2)
      have HQ10 := A' (show w10.heap[q]? = some (.cells #[.int .u64 l, .int .u64 h] 96 (0, 0)) from hw10 ▸ blk_far HQ9.out hqb _)
      have z0 : w10.cell? ⟨q, 0, none⟩ = some (.int .u64 l) := (blk_cell HQ10.out 0).trans rfl
      have z1 : w10.cell? ⟨q, 1, none⟩ = some (.int .u64 h) := (blk_cell HQ10.out 1).trans rfl
      have c2 := HE10.out.c2
      have c3 := HE10.out.c3
      have c5 := HE10.out.c5
      have c6 := HE10.out.c6
      have c7 := HE10.out.c7
      have f2 := HE10.out.fz 2
      have f3 := HE10.out.fz 3
      have f5 := HE10.out.fz 5
      have f6 := HE10.out.fz 6
      have f7 := HE10.out.fz 7
      clear hw10 k0 k1 ks c9 f9
      go_wp2
      go_ret2
      have h1 := HKV.out
      refine ⟨⟨l, h, n, HN.out, .inr ⟨by have := HB4.out; have := HBE.out; omega, rfl, ?_⟩⟩, ((((HM10.out.setCell (p := ⟨g, 2, none⟩) (.inl hSg) _).setCell (p := ⟨g, 3, none⟩) (.inl hSg) _).setCell (p := ⟨g, 5, none⟩) (.inl hSg) _).setCell (p := ⟨g, 6, none⟩) (.inl hSg) _).setCell (p := ⟨g, 7, none⟩) (.inl hSg) _⟩
      rw [← h1.2, ← h1.1, HBE.out]
      exact ((((HE10.out.put (low' := l) 2 _ rfl).put (high' := h) 3 _ rfl).put (a' := (k : Int)) 5 _ rfl).put (value' := v) 6 _ rfl).put (be' := (be : Int)) 7 _ rfl
end Go.Proofs.Ytkfejicdjpffcaa.RDec
namespace Go.Proofs.Ytkfejicdjpffcaa.RDecNew
open Go Go.RowKit YtkfejicdjpffcaaW PrintWords PrintLast PrintMore Aid HandAid Cod1 Cod2 Cod3 Ytkfejicdjpffcaa.Mod Enc Mods EncAt Put End Snc RefAt Dec Get DecNew RDec U
attribute [local go_sem low] max2_int
attribute [local go_sem] min2_int max_two min_two
theorem max_sub4 (n : Nat) : Builtin.max2 (.int .i64 0) (.int .i64 (4 - (n : Int))) = pure (.int .i64 ((4 - n : Nat) : Int)) := by
 rw [max2_int]
 congr 2
 split <;> omega
attribute [local go_sem high] max_sub4
theorem shV_small {code : List Int} (hb : Bytes code) (k : Nat) (hk : k < 4) : shV code k 0 0 < 16777216 := by
 have h0 := byteOf_range hb 0
 have h1 := byteOf_range hb 1
 have h2 := byteOf_range hb 2
 match k, hk with
 | 0, _ => simp only [shV]; omega
 | 1, _ => simp only [shV, Nat.zero_add, Nat.reduceAdd]; omega
 | 2, _ => simp only [shV, Nat.zero_add, Nat.reduceAdd]; omega
 | 3, _ => simp only [shV, Nat.zero_add, Nat.reduceAdd]; omega
/-- The reference's decoder in memory. -/
def RDecAt (W : World) (S : Nat → Prop) (g : Nat) (s : DS) : Prop := ∃ A c vc, RDecRow W S g s.kind A c s.st s.low s.high vc s.code s.a s.value ((s.a - s.code.length : Nat) : Int) s.ended
theorem RDecAt.kept {W W' : World} {S S' : Nat → Prop} {g : Nat} {s : DS} (h : RDecAt W S g s) (hk : Mods W W' S') (hne : ∀ k, S k → ¬ S' k) : RDecAt W' S g s := by
 obtain ⟨A, c, vo, h⟩ := h
 exact ⟨A, c, vo, h.kept hk hne⟩
theorem RDecAt.below {W W' : World} {S : Nat → Prop} {g : Nat} {s : DS} (h : RDecAt W S g s) (hb : Below W.heap.size W W') : RDecAt W' S g s := by
 obtain ⟨A, c, vo, h⟩ := h
 exact ⟨A, c, vo, h.below hb⟩
theorem RDecAt.mono {W : World} {S S' : Nat → Prop} {g : Nat} {s : DS} (h : RDecAt W S g s) (hs : ∀ k, S k → S' k) : RDecAt W S' g s := by
 obtain ⟨A, c, vo, h⟩ := h
 exact ⟨A, c, vo, h.mono hs⟩
theorem rget_end (w : World) (g : Nat) (i : Nat) (n : Nat) (A : Option Addr) (c : Nat) (hi : i < n) (h1 : w.cell? ⟨g, 1, none⟩ = some (.slice A n c)) (h3 : w.cell? ⟨g, 8, none⟩ = some (.bool true)) :
 Calls Try.prog 84 #[.pointer (some ⟨g, 0, none⟩), .int .i64 i] w fun e w' => e = .returned (.tuple #[.int .i64 0, .int .i64 6]) ∧ w = w' := by
 have hi1 : (0 : Int) ≤ (i : Int) := by omega
 have hi2 : (i : Int) < (n : Int) := by omega
 go_enter Try.func84, Try.ntmps84
 go_wp2
 go_ret2
 exact ⟨rfl, rfl⟩
theorem rget_bad (w : World) (g : Nat) (i : Int) (n : Nat) (A : Option Addr) (c : Nat) (hi : ¬ (0 ≤ i ∧ i < n)) (h1 : w.cell? ⟨g, 1, none⟩ = some (.slice A n c)) :
 Calls Try.prog 84 #[.pointer (some ⟨g, 0, none⟩), .int .i64 i] w fun e w' => e = .returned (.tuple #[.int .i64 0, .int .i64 2]) ∧ w = w' := by
 have hi' : i < 0 ∨ (i ≥ n ∧ ¬ i < 0) := by omega
 clear hi
 rcases hi' with h | ⟨h, h0⟩
 · go_enter Try.func84, Try.ntmps84
   go_wp2
   go_ret2
   exact ⟨rfl, rfl⟩
 · go_enter Try.func84, Try.ntmps84
   go_wp2
   go_ret2
   exact ⟨rfl, rfl⟩
theorem rget_calls (w : World) (S : Nat → Prop) (g : Nat) (s : DS) (i : Int) (hE : RDecAt w S g s) (hS : ∀ k, S k → k < w.heap.size) (hok : s.ok) :
 Calls Try.prog 84 #[.pointer (some ⟨g, 0, none⟩), .int .i64 i] w fun e w' => e = .returned (.tuple #[.int .i64 (s.getI i).2.1, .int .i64 (s.getI i).2.2]) ∧ RDecAt w' S g (s.getI i).1 ∧ Mods w w' S := by
 obtain ⟨A, c, vo, hR⟩ := hE
 unfold DS.getI
 by_cases hi : 0 ≤ i ∧ i < s.st.length
 · rw [if_pos hi]
   obtain ⟨j, rfl⟩ : ∃ j : Nat, i = (j : Int) := ⟨i.toNat, by omega⟩
   rw [Int.toNat_natCast]
   have hj : j < s.st.length := by omega
   by_cases he : s.ended = true
   · rw [if_pos he]
     have h40 := hR.c8
     rw [he] at h40
     refine (rget_end w g j s.st.length A c hj hR.c1 h40).mono ?_
     rintro e w' ⟨rfl, rfl⟩
     exact ⟨rfl, ⟨A, c, vo, hR⟩, Mods.refl _ _⟩
   · rw [if_neg he]
     have hef : s.ended = false := by simpa using he
     obtain ⟨b, rfl, _⟩ := hR.cell hj
     have hm := DS.mid_ hok hj
     have hc := DS.cut_ hok hj
     have hl := hok.l
     have hh := hok.h
     have hI : PutInv [] (cutL s.low (s.mid j) (s.bit j)) (cutH s.high (s.mid j) (s.bit j)) 4 (cutL s.low (s.mid j) (s.bit j)) (cutH s.high (s.mid j) (s.bit j)) [] := ⟨hc.1, hc.2.1, hc.2.2, by rw [show (256 : Int) ^ 4 = 4294967296 from rfl]; omega, rfl, rfl, Nat.le_refl _⟩
     have key : Calls Try.prog 84 #[.pointer (some ⟨g, 0, none⟩), .int .i64 j] w (RGetPost w S g s.kind b c s.st s.low s.high (s.mid j) vo s.code s.a s.value j (s.bit j)) := by
      rw [hef] at hR
      by_cases hv : s.value ≤ s.mid j
      · have hb : s.bit j = 1 := if_pos hv
        rw [hb] at hI ⊢
        exact rget_row1 w S g s.kind b c s.st s.low s.high (s.mid j) vo s.code s.a s.value j hR hS hj hok.m.2.1 (DS.at_ hok hj) hl hok.lh hh rfl (by omega) (by omega) hI hok.v0 hok.v1 hok.by_ hok.len hok.be hv
      · have hb : s.bit j = 0 := if_neg hv
        rw [hb] at hI ⊢
        exact rget_row0 w S g s.kind b c s.st s.low s.high (s.mid j) vo s.code s.a s.value j hR hS hj hok.m.2.1 (DS.at_ hok hj) hl hok.lh hh rfl (by omega) (by omega) hI hok.v0 hok.v1 hok.by_ hok.len hok.be hv
     refine key.mono ?_
     rintro e w' ⟨⟨l, h, n, hn, hq⟩, hk⟩
     have hn' : s.norm j = (n, l, h) := hn
     rw [hn']
     rcases hq with ⟨hb, rfl, hD⟩ | ⟨hb, rfl, hD⟩
     · rw [if_pos hb]
       exact ⟨rfl, ⟨_, c, vo, hD⟩, hk⟩
     · rw [if_neg hb]
       refine ⟨rfl, ⟨some ⟨b, 0, none⟩, c, vo, ?_⟩, hk⟩
       have e1 : s.next j = ⟨s.kind, s.st.set j (after s.kind (rd s.st j) (s.bit j)), l, h, s.code, s.a + n.length, shV s.code n.length s.value s.a, false⟩ := by
        unfold DS.next
        rw [hn']
       rw [e1]
       exact hD
 · rw [if_neg hi]
   refine (rget_bad w g i s.st.length A c hi hR.c1).mono ?_
   rintro e w' ⟨rfl, rfl⟩
   exact ⟨rfl, ⟨A, c, vo, hR⟩, Mods.refl _ _⟩
theorem dec9_new (kind : Int) (v vc : Value) (be : Int) : dec9 kind v 0 4294967295 vc 4 0 be false = #[.int .i64 kind, v, .int .u64 0, .int .u64 4294967295, vc, .int .i64 4, .int .u64 0, .int .i64 be, .bool false] := rfl
def RNewDecPost (w : World) (kind : Int) (st code : List Int) (e : Ending) (w' : World) : Prop := ∃ g, e = .returned (.tuple #[.pointer (some ⟨g, 0, none⟩), .int .i64 0]) ∧ RDecAt w' (Since w.heap.size w') g (newDS kind st code) ∧ Below w.heap.size w w'
set_option maxHeartbeats 4000000 in
set_option maxRecDepth 100000 in
theorem rnew_dec (A : Option Addr) (c : Nat) (kind : Int) (st : List Int) (Ac : Option Addr) (cc : Nat) (code : List Int) (w : World) (hC : Kd.C (Kd.int .i64) w A st.length st) (hc : st.length ≤ c) (hm : okModel kind st) (hCc : Kd.C (Kd.int .u8) w Ac code.length code) (hcc : code.length ≤ cc) (hby : Bytes code) (hlen : code.length ≤ 1099511627776) :
 Calls Try.prog 37 #[.agg #[.int .i64 kind, .slice A st.length c], .slice Ac code.length cc] w (RNewDecPost w kind st code) := by
 have HC := A' hC
 have HCc := A' hCc
 have hv := ref_valid_calls A c kind st
 rw [decide_eq_true hm] at hv
 have HV := A' hv
 have HM := A' hm
 have HBY := A' hby
 have hl := hm.2.1
 have hu := Try.underlying45
 clear hC hv hm hCc hby
 have hb0 := A' (below_alloc (Below.refl w.heap.size w) (.cells #[.int .i64 kind, .slice A st.length c] 45))
 have hq0 : Aside0 ((w.alloc (.cells #[.int .i64 kind, .slice A st.length c] 45)).heap[w.heap.size]? = some (.cells #[.int .i64 kind, .slice A st.length c] 45 (0, 0))) := ⟨heap_new _ _⟩
 go_enter Try.func37, Try.ntmps37
 go_wp2_with (first
  | (go_at_call 53; refine (HV.out _ (Kd.C_below HC.out hb0.out) hc).mono ?_; rintro e w1 ⟨rfl, hB⟩; have HB := A' (below_then hb0.out hb0.out.size hB); have hq1 : Aside0 (w1.heap[w.heap.size]? = some (.cells #[.int .i64 kind, .slice A st.length c] 45 (0, 0))) := ⟨(hB.block _ (blk_lt hq0.out)).trans hq0.out⟩; have k0 : w1.cell? ⟨w.heap.size, 0, none⟩ = some (.int .i64 kind) := (blk_cell hq1.out 0).trans rfl; have k1 : w1.cell? ⟨w.heap.size, 1, none⟩ = some (.slice A st.length c) := (blk_cell hq1.out 1).trans rfl; clear hB)
  | (go_at_call 54; refine (copy_calls A c kind st _ (Kd.C_below HC.out HB.out) hc (by omega)).mono ?_; rintro e w2 ⟨A2, c2, rfl, hR, hB⟩; have HB2 := A' (below_then HB.out HB.out.size hB); have HR := A' (Kd.R_lower hR HB.out.size); clear hR hB)
  | (go_at_call 55; refine (incunableref02_Whole.calls 0 4294967295 _ rfl).mono ?_; rintro e w3 ⟨rfl, hB⟩; have HB3 := A' (below_then HB2.out HB2.out.size hB); have HR3 := A' (Kd.R_alloc (Kd.R_below HR.out hB) (.cells #[] 5)); have HR1 : Aside0 (Kd.R (Kd.int .u8) 5 (w3.alloc (.cells #[] 5)) w.heap.size (fun _ => True) (.slice (some ⟨w3.heap.size, 0, none⟩) 0 0) []) := ⟨Kd.R_of_own (enc := Value.int .u8) (World.ownsRow_lit w3 #[] 0 HB3.out.size (by decide) rfl) (fun _ _ => trivial)⟩; have HB3' := A' (below_alloc HB3.out (.cells #[] 5)); have HCo := A' (Kd.C_below HCc.out HB3'.out); clear hB)
  | (at_builtin; refine Kd.R_append_rows (Kd.int .u8) (w0 := w) w.heap.size (by rfl) (.tmp 14) (.tmp 15) 29 5 (.int .u8 0) 1 rfl Try.underlying29 infoU8 rfl (by decide) (by omega) (.slice (some ⟨w3.heap.size, 0, none⟩) 0 0) [] code _ _ _ (fun _ => True) (fun _ => False) rfl rfl HR1.out HCo.out (fun _ _ h => h) (fun _ h => h.elim) (fun _ _ => trivial) HB3'.out HB3'.out.size (by simp only [List.length_nil]; omega) ?_; intro v4 w4 hR4 hB4 hg4 hat4; rw [List.nil_append] at hR4; obtain ⟨A3, c3, hv3⟩ := Kd.R_slice hR4; subst hv3; have HS4 := A' (Kd.R_over HR3.out HR1.out (by decide) hg4); have HR4 := A' hR4; have HB4 := A' hB4; clear hR4 hB4 hg4 hat4))
 clear HR1 HR HR3 HCo HB3' HV
 rw [← dec9_new]
 have HR0 := A' (heap_new w4 (.cells (dec9 kind (.slice A2 st.length c2) 0 4294967295 (.slice A3 code.length c3) 4 0 ((4 - code.length : Nat) : Int) false) 125))
 have HB5 := A' (below_alloc HB4.out (.cells (dec9 kind (.slice A2 st.length c2) 0 4294967295 (.slice A3 code.length c3) 4 0 ((4 - code.length : Nat) : Int) false) 125))
 have HRS := A' (Kd.R_alloc HS4.out (.cells (dec9 kind (.slice A2 st.length c2) 0 4294967295 (.slice A3 code.length c3) 4 0 ((4 - code.length : Nat) : Int) false) 125))
 have HRO := A' (Kd.R_alloc HR4.out (.cells (dec9 kind (.slice A2 st.length c2) 0 4294967295 (.slice A3 code.length c3) 4 0 ((4 - code.length : Nat) : Int) false) 125))
 generalize w4.alloc (.cells (dec9 kind (.slice A2 st.length c2) 0 4294967295 (.slice A3 code.length c3) 4 0 ((4 - code.length : Nat) : Int) false) 125) = w5 at HR0 HB5 HRS HRO ⊢
 have HQ3 := A' HB4.out.size
 obtain ⟨q, hq⟩ : ∃ q, w4.heap.size = q := ⟨_, rfl⟩
 rw [hq] at HR0 HQ3 ⊢
 obtain ⟨S, hS⟩ : ∃ S : Nat → Prop, S = Since w.heap.size w5 := ⟨_, rfl⟩
 have HE0 : Aside0 (RDecRow w5 S q kind A2 c2 st 0 4294967295 (.slice A3 code.length c3) code 4 0 ((4 - code.length : Nat) : Int) false) := ⟨by
  subst hS
  exact ⟨HR0.out, Kd.R_lower (Kd.R_mono (Kd.R_bound HRS.out) fun k hk => ⟨hk.2.1, hk.2.2.1⟩) (Nat.zero_le _), Kd.R_lower (Kd.R_mono (Kd.R_bound HRO.out) fun k hk => ⟨hk.2.1, hk.2.2.1⟩) (Nat.zero_le _), ⟨HQ3.out, blk_lt HR0.out⟩⟩⟩
 have HS := A' hS
 clear hS HR0 HRS HRO HS4 HR4 HB4 HB3 HB2 HB hq hq0 hq1 hb0 k0 k1
 go_loopw [7] (fun i wr => ∃ (k : Nat), k ≤ 4 ∧ i = .int .i64 k ∧ Aside0 (RDecRow wr S q kind A2 c2 st 0 4294967295 (.slice A3 code.length c3) code 4 (shV code k 0 0) ((4 - code.length : Nat) : Int) false) ∧ Aside0 (Mods w5 wr S)) (fun i _ => 5 - (intOf i).toNat)
 case atStart => exact ⟨0, by omega, rfl, HE0, ⟨Mods.refl _ _⟩⟩
 clear HE0
 case round =>
  obtain ⟨k, hk, rfl, HE, HK⟩ := hrel
  by_cases h4 : (k : Int) < 4
  · have hv0 := shV_range HBY.out k 0 0 (by omega) (by omega)
    have hv1 := shV_small HBY.out k (by omega)
    have hbr := byteOf_range HBY.out k
    go_wp2
    have HE := A' HE.out.drew
    have HK := A' HK.out.drew
    have p4 := HE.out.c4
    have p6 := HE.out.c6
    have f6 := HE.out.fz 6
    refine start_ (n := 16) (S := fun w' => w'.cell? ⟨q, 4, none⟩ = some (.slice A3 code.length c3) ∧ w'.cell? ⟨q, 6, none⟩ = some (.int .u64 (shV code k 0 0))) (ds := [15]) #[false, false, false, false, false, false, false, false, false, false, false, false, false, false, false, false] (by kernel_rfl) rfl rfl ⟨p4, p6⟩ (fun hHeld => ?_)
    refine u' 0 27 (B' 16 1) ?_ rfl rfl (by kernel_rfl) (fun _ _ _ h => h) (.inl ⟨by rfl, ?_⟩) ?_ ?_ ?_; rotate_left; (intro w'; go_simp; with_reducible rfl); rotate_left; (simp only [Act.put, p1', p2', p3', i64_w, i32_w]; rfl)
    refine u' 1 28 (B' 16 3) ?_ rfl rfl (by kernel_rfl) (fun _ _ _ h => h) (.inl ⟨by rfl, ?_⟩) ?_ ?_ ?_; rotate_left; (intro w'; go_simp; with_reducible rfl); rotate_left; (simp only [Act.put, p1', p2', p3', i64_w, i32_w]; rfl)
    refine u' 2 29 (B' 16 7) ?_ rfl rfl (by kernel_rfl) (fun _ _ _ h => h) (.inl ⟨by rfl, ?_⟩) ?_ ?_ ?_; rotate_left; (intro w'; go_simp; with_reducible rfl); rotate_left; (simp only [Act.put, p1', p2', p3', i64_w, i32_w]; rfl)
    refine u' 3 30 (B' 16 15) ?_ rfl rfl (by kernel_rfl) (fun _ _ _ h => h) (.inl ⟨by rfl, ?_⟩) ?_ ?_ ?_; rotate_left; (intro w'; go_simp; with_reducible rfl); rotate_left; (simp only [Act.put, p1', p2', p3', i64_w, i32_w]; rfl)
    refine u' 6 33 (B' 16 79) ?_ rfl rfl (by kernel_rfl) (fun _ _ _ h => h) (.inl ⟨by rfl, ?_⟩) ?_ ?_ ?_; rotate_left; (intro w'; go_simp; with_reducible rfl); rotate_left; (simp only [Act.put, p1', p2', p3', i64_w, i32_w]; rfl)
    refine u' 7 34 (B' 16 207) ?_ rfl rfl (by kernel_rfl) (fun _ _ _ h => h) (.inl ⟨by rfl, ?_⟩) ?_ ?_ ?_; rotate_left; (intro w'; go_simp; with_reducible rfl); rotate_left; (simp only [Act.put, p1', p2', p3', i64_w, i32_w]; rfl)
    refine u' 8 35 (B' 16 463) ?_ rfl rfl (by kernel_rfl) (fun _ _ _ h => h) (.inl ⟨by rfl, ?_⟩) ?_ ?_ ?_; rotate_left; (intro w'; go_simp; with_reducible rfl); rotate_left; (simp only [Act.put, p1', p2', p3', i64_w, i32_w]; rfl)
    refine u' 10 37 (B' 16 1487) ?_ rfl rfl (by kernel_rfl) (fun _ _ _ h => h) (.inl ⟨by rfl, ?_⟩) ?_ ?_ ?_; rotate_left; (intro w'; go_simp; with_reducible rfl); rotate_left; (simp only [Act.put, p1', p2', p3', i64_w, i32_w]; rfl)
    refine t' 4 31 (B' 16 1503) ?_ rfl rfl (by kernel_rfl) (fun _ _ _ h => h) (.inl ⟨by rfl, ?_⟩) hHeld ?_ ?_ ?_; rotate_left; (rintro w' ⟨s0, s1⟩; go_simp; with_reducible rfl); rotate_left; (simp only [Act.put, p1', p2', p3', i64_w, i32_w]; rfl)
    refine u' 5 32 (B' 16 1535) ?_ rfl rfl (by kernel_rfl) (fun _ _ _ h => h) (.inl ⟨by rfl, ?_⟩) ?_ ?_ ?_; rotate_left; (intro w'; go_simp; with_reducible rfl); rotate_left; (simp only [Act.put, p1', p2', p3', i64_w, i32_w]; rfl)
    refine t' 9 36 (B' 16 2047) ?_ rfl rfl (by kernel_rfl) (fun _ _ _ h => h) (.inl ⟨by rfl, ?_⟩) hHeld ?_ ?_ ?_; rotate_left; (rintro w' ⟨s0, s1⟩; go_simp; with_reducible rfl); rotate_left; (simp only [Act.put, p1', p2', p3', i64_w, i32_w]; rfl)
    refine one_ (i := 11) (N := some 38) (B' 16 4095) rfl rfl (by kernel_rfl) (by decide) (fun K hK => ?_)
    refine goes_ Try.func83 (by kernel_rfl) rfl #[.slice A3 code.length c3, .int .i64 k] (by rfl) rfl rfl (by simp only [List.map_toArray, List.map_cons, List.map_nil]; rfl) ?_
    with_reducible refine (byte_calls A3 c3 code k _ (Kd.R_reads' HE.out.o).2.2 HBY.out).mono ?_
    rintro e w8 ⟨rfl, rfl⟩
    refine ⟨_, rfl, ?_⟩
    refine hK.out _ _ ⟨p4, p6⟩ (fun hHeld => ?_)
    clear hK K
    refine norm_ (a' := ?_) ?_ ?_; rotate_left; (show Act.put _ (some 38) _ = _; simp only [Act.put, p1', p2', p3', i64_w, i32_w]; rfl)
    refine u' 12 39 (B' 16 8191) ?_ rfl rfl (by kernel_rfl) (fun _ _ _ h => h) (.inl ⟨by rfl, ?_⟩) ?_ ?_ ?_; rotate_left; (intro w'; go_simp; with_reducible rfl); rotate_left; (simp only [Act.put, p1', p2', p3', i64_w, i32_w]; rfl)
    refine u' 13 40 (B' 16 16383) ?_ rfl rfl (by kernel_rfl) (fun _ _ _ h => h) (.inl ⟨by rfl, ?_⟩) ?_ ?_ ?_; rotate_left; (intro w'; go_simp; with_reducible rfl); rotate_left; (simp only [Act.put, p1', p2', p3', i64_w, i32_w]; rfl)
    refine u' 14 41 (B' 16 32767) ?_ rfl rfl (by kernel_rfl) (fun _ _ _ h => h) (.inl ⟨by rfl, ?_⟩) ?_ ?_ ?_; rotate_left; (intro w'; go_simp; with_reducible rfl); rotate_left; (simp only [Act.put, p1', p2', p3', i64_w, i32_w]; rfl)
    refine last_ (i := 15) (N := none) (B' 16 65535) rfl rfl (by kernel_rfl) (by decide) (fun K hK => ?_)
    refine skip_ (w1 := ?_) (by rfl) rfl ?_ ?_
    rotate_left
    · go_simp
      rfl
    refine hK.out _ _ ?_
    clear hK K
    refine done_ (by kernel_rfl) ?_
    go_wp2
    go_roundw
    case measure => simp only [intOf]; omega
    case rel =>
     refine ⟨k + 1, by omega, rfl, ⟨?_⟩, ⟨HK.out.setCell (p := ⟨q, 6, none⟩) (.inl HE.out.g) _⟩⟩
     have e9 := shV_succ code k 0 0
     rw [Nat.zero_add, Int.emod_eq_of_lt hv0.1 hv1] at e9
     rw [e9]
     exact HE.out.put 6 _ rfl
  · have e4 : k = 4 := by omega
    subst e4
    go_wp2
    go_ret2
    have hb := below_mods HB5.out HK.out (fun k hk => by rw [HS.out] at hk; exact hk.1) HB5.out.size
    refine ⟨q, rfl, ⟨A2, c2, .slice A3 code.length c3, HE.out.mono fun k hk => ?_⟩, hb⟩
    rw [HS.out] at hk
    exact ⟨hk.1, Nat.lt_of_lt_of_le hk.2 HK.out.size⟩
end Go.Proofs.Ytkfejicdjpffcaa.RDecNew
namespace Go.Proofs.Ytkfejicdjpffcaa.Isk
open Go Go.RowKit YtkfejicdjpffcaaW PrintWords PrintLast PrintMore Aid HandAid Cod1 Cod2 Cod3 Ytkfejicdjpffcaa.Mod Enc Mods EncAt Put End Snc Dec Get DecNew RefAt RDec RDecNew
theorem bit_range (s : DS) (i : Int) : 0 ≤ (s.getI i).2.1 ∧ (s.getI i).2.1 ≤ 1 := by
 unfold DS.getI
 split
 · split
   · exact ⟨Int.le_refl _, by show (0 : Int) ≤ 1; decide⟩
   · split
     · exact ⟨Int.le_refl _, by show (0 : Int) ≤ 1; decide⟩
     · have := DS.bit_ s i.toNat
       show 0 ≤ s.bit i.toNat ∧ s.bit i.toNat ≤ 1
       omega
 · exact ⟨Int.le_refl _, by show (0 : Int) ≤ 1; decide⟩
theorem getI_len (s : DS) (i : Int) : (s.getI i).1.st.length = s.st.length := by
 unfold DS.getI
 split
 · split
   · rfl
   · split
     · rfl
     · show (s.st.set _ _).length = _
       exact List.length_set
 · rfl
theorem getI_neg (s : DS) : s.getI (-1) = (s, 0, 2) := by
 unfold DS.getI
 exact if_neg (by omega)
/-- What a decoder's row in memory is kept by. -/
class AtL (At : World → (Nat → Prop) → Nat → DS → Prop) : Prop where
 kept : ∀ {W W' : World} {S S' : Nat → Prop} {g : Nat} {s : DS}, At W S g s → Mods W W' S' → (∀ k, S k → ¬ S' k) → At W' S g s
 below : ∀ {W W' : World} {S : Nat → Prop} {g : Nat} {s : DS}, At W S g s → Below W.heap.size W W' → At W' S g s
 mono : ∀ {W : World} {S S' : Nat → Prop} {g : Nat} {s : DS}, At W S g s → (∀ k, S k → S' k) → At W S' g s
instance : AtL DecAt := ⟨fun h hk hne => DecAt.kept h hk hne, fun h hb => DecAt.below h hb, fun h hs => DecAt.mono h hs⟩
instance : AtL RDecAt := ⟨fun h hk hne => RDecAt.kept h hk hne, fun h hb => RDecAt.below h hb, fun h hs => RDecAt.mono h hs⟩
/-- A decoder at g, in a world that came of w. -/
structure IS (At : World → (Nat → Prop) → Nat → DS → Prop) (w : World) (S : Nat → Prop) (g : Nat) (s : DS) (W : World) : Prop where
 d : At W S g s
 m : Mods w W S
 ok : s.ok
theorem IS.get {w W : World} {S : Nat → Prop} {g : Nat} {s : DS} (H : IS DecAt w S g s W) (hS : ∀ k, S k → k < w.heap.size) (i : Int) :
 Calls Try.prog 35 #[.pointer (some ⟨g, 0, none⟩), .int .i64 i] W fun e W' => e = .returned (.tuple #[.int .i64 (s.getI i).2.1, .int .i64 (s.getI i).2.2]) ∧ IS DecAt w S g (s.getI i).1 W' := by
 refine (get_calls W S g s i H.d (fun k hk => Nat.lt_of_lt_of_le (hS k hk) H.m.size) H.ok).mono ?_
 rintro e W' ⟨he, hE, hM⟩
 exact ⟨he, ⟨hE, H.m.then_ hM (fun k hk => .inl hk), DS.getI_ok H.ok _⟩⟩
theorem IS.rget {w W : World} {S : Nat → Prop} {g : Nat} {s : DS} (H : IS RDecAt w S g s W) (hS : ∀ k, S k → k < w.heap.size) (i : Int) :
 Calls Try.prog 84 #[.pointer (some ⟨g, 0, none⟩), .int .i64 i] W fun e W' => e = .returned (.tuple #[.int .i64 (s.getI i).2.1, .int .i64 (s.getI i).2.2]) ∧ IS RDecAt w S g (s.getI i).1 W' := by
 refine (rget_calls W S g s i H.d (fun k hk => Nat.lt_of_lt_of_le (hS k hk) H.m.size) H.ok).mono ?_
 rintro e W' ⟨he, hE, hM⟩
 exact ⟨he, ⟨hE, H.m.then_ hM (fun k hk => .inl hk), DS.getI_ok H.ok _⟩⟩
theorem IS.below {At : World → (Nat → Prop) → Nat → DS → Prop} [AtL At] {w W W' : World} {S : Nat → Prop} {g : Nat} {s : DS} (H : IS At w S g s W) (hb : Below W.heap.size W W') : IS At w S g s W' := ⟨AtL.below H.d hb, H.m.below hb, H.ok⟩
/-- A new block is written. -/
theorem IS.set {At : World → (Nat → Prop) → Nat → DS → Prop} [AtL At] {w W : World} {S : Nat → Prop} {g : Nat} {s : DS} (H : IS At w S g s W) (hS : ∀ k, S k → k < w.heap.size) (p : Addr) (hp : w.heap.size ≤ p.block) (v : Value) : IS At w S g s (W.setCell p v) := by
 have h2 : Mods W (W.setCell p v) (fun k => k = p.block) := (Mods.refl W (fun k => k = p.block)).setCell (p := p) (.inl rfl) v
 exact ⟨AtL.kept H.d h2 (fun k hk hk2 => by have := hS k hk; omega), H.m.then_ h2 (fun k hk => .inr (by omega)), H.ok⟩
end Go.Proofs.Ytkfejicdjpffcaa.Isk
namespace Go.Proofs.Ytkfejicdjpffcaa.Pse
open Go Go.RowKit YtkfejicdjpffcaaW PrintWords PrintLast PrintMore U Aid HandAid Cod1 Cod2 Cod3 Ytkfejicdjpffcaa.Mod Enc Mods EncAt Put End Snc
/-- Events are put as far as they go well. -/
def putsE : ES → List S72 → ES × Int
 | s, [] => (s, 0)
 | s, x :: l => if s.err x.f0 x.f1 = 0 then putsE (s.putI x.f0 x.f1) l else (s, s.err x.f0 x.f1)
theorem putsE_ok : ∀ (l : List S72) (s : ES), s.ok → (putsE s l).1.ok
 | [], s, h => h
 | x :: l, s, h => by
   unfold putsE
   split
   · exact putsE_ok l _ (ES.putI_ok h _ _)
   · exact h
/-- An event that n contexts take. -/
def goodL (n : Nat) (x : S72) : Bool := decide (0 ≤ x.f0) && decide (x.f0 < n) && (decide (x.f1 = 0) || decide (x.f1 = 1))
end Go.Proofs.Ytkfejicdjpffcaa.Pse
namespace Go.Proofs.Ytkfejicdjpffcaa.Pwk
open Go Go.RowKit YtkfejicdjpffcaaW PrintWords PrintLast PrintMore U Aid HandAid Cod1 Cod2 Cod3 Ytkfejicdjpffcaa.Mod Enc Mods EncAt Put End Snc RefAt RefPut RefEnd Pse
/-- What an encoder's row in memory is kept by. -/
class EnL (At : World → (Nat → Prop) → Nat → ES → Prop) : Prop where
 kept : ∀ {W W' : World} {S S' : Nat → Prop} {g : Nat} {s : ES}, At W S g s → Mods W W' S' → (∀ k, S k → ¬ S' k) → At W' S g s
 below : ∀ {W W' : World} {S : Nat → Prop} {g : Nat} {s : ES}, At W S g s → Below W.heap.size W W' → At W' S g s
 mono : ∀ {W : World} {S S' : Nat → Prop} {g : Nat} {s : ES}, At W S g s → (∀ k, S k → S' k) → At W S' g s
instance : EnL EncAt := ⟨fun h hk hne => EncAt.kept h hk hne, fun h hb => EncAt.below h hb, fun h hs => EncAt.mono h hs⟩
instance : EnL RefAt := ⟨fun h hk hne => RefAt.kept h hk hne, fun h hb => RefAt.below h hb, fun h hs => RefAt.mono h hs⟩
/-- An encoder in a world that came of w by what it did. -/
structure PW (At : World → (Nat → Prop) → Nat → ES → Prop) (w : World) (S : Nat → Prop) (g : Nat) (s : ES) (W : World) : Prop where
 e : At W (fun k => (S k ∨ w.heap.size ≤ k) ∧ k < W.heap.size) g s
 m : Mods w W S
 ok : s.ok
section
variable {At : World → (Nat → Prop) → Nat → ES → Prop} [EnL At] {w W W' : World} {S : Nat → Prop} {g : Nat} {s s' : ES}
theorem PW.start (h : At w S g s) (hS : ∀ k, S k → k < w.heap.size) (hok : s.ok) : PW At w S g s w := ⟨EnL.mono h (fun k hk => ⟨.inl hk, hS k hk⟩), Mods.refl w S, hok⟩
theorem PW.below (H : PW At w S g s W) (hb : Below W.heap.size W W') : PW At w S g s W' := ⟨EnL.mono (EnL.below H.e hb) (fun k hk => ⟨hk.1, Nat.lt_of_lt_of_le hk.2 hb.size⟩), H.m.below hb, H.ok⟩
omit [EnL At] in
theorem PW.next [EnL At] (H : PW At w S g s W) (hE : At W' (fun k => (((S k ∨ w.heap.size ≤ k) ∧ k < W.heap.size) ∨ W.heap.size ≤ k) ∧ k < W'.heap.size) g s') (hM : Mods W W' (fun k => (S k ∨ w.heap.size ≤ k) ∧ k < W.heap.size)) (ok' : s'.ok) : PW At w S g s' W' :=
 ⟨EnL.mono hE (fun k hk => ⟨by rcases hk.1 with h | h; exact h.1; exact .inr (Nat.le_trans H.m.size h), hk.2⟩), H.m.then_ hM (fun k hk => hk.1), ok'⟩
end
theorem PW.put {w W : World} {S : Nat → Prop} {g : Nat} {s : ES} (H : PW EncAt w S g s W) (hlen : s.out.length ≤ 1099511627776) (i bit : Int) :
 Calls Try.prog 28 #[.pointer (some ⟨g, 0, none⟩), .int .i64 i, .int .i64 bit] W fun e W' => e = .returned (.int .i64 (s.err i bit)) ∧ PW EncAt w S g (s.putI i bit) W' := by
 refine (put_calls W _ g s i bit H.e H.ok hlen).mono ?_
 rintro e W' ⟨he, hE, hM⟩
 exact ⟨he, H.next hE hM (ES.putI_ok H.ok _ _)⟩
end Go.Proofs.Ytkfejicdjpffcaa.Pwk
namespace Go.Proofs.Ytkfejicdjpffcaa.Bkp
open Go Go.RowKit YtkfejicdjpffcaaW PrintWords PrintLast PrintMore U Aid Pse DecNew HandAid Cod1 Cod2 Cod3 Ytkfejicdjpffcaa.Mod Enc Mods EncAt Put End Snc Dec Get U
theorem byteOf_getD (l : List Int) (i : Nat) : Dec.byteOf l i = l.getD i 0 := by
 unfold Dec.byteOf
 split
 · simp [rd]
 · rename_i h
   rw [List.getD_eq_getElem?_getD, List.getElem?_eq_none (by omega)]
   rfl
/-- Four bytes of a code, as a number. -/
def win (code : List Int) (n : Nat) : Int := Dec.byteOf code n * 16777216 + Dec.byteOf code (n + 1) * 65536 + Dec.byteOf code (n + 2) * 256 + Dec.byteOf code (n + 3)
theorem win_succ {code : List Int} (h : Bytes code) (n : Nat) : win code (n + 1) = win code n % 16777216 * 256 + Dec.byteOf code (n + 4) := by
 have h0 := byteOf_range h n
 have h1 := byteOf_range h (n + 1)
 have h2 := byteOf_range h (n + 2)
 have h3 := byteOf_range h (n + 3)
 have h4 := byteOf_range h (n + 4)
 unfold win
 rw [show n + 1 + 1 = n + 2 by omega, show n + 1 + 2 = n + 3 by omega, show n + 1 + 3 = n + 4 by omega]
 omega
theorem win_top {code : List Int} (h : Bytes code) (n : Nat) : win code n / 16777216 = Dec.byteOf code n ∧ 0 ≤ win code n := by
 have h0 := byteOf_range h n
 have h1 := byteOf_range h (n + 1)
 have h2 := byteOf_range h (n + 2)
 have h3 := byteOf_range h (n + 3)
 unfold win
 omega
theorem shV_win {code : List Int} (h : Bytes code) : ∀ (k n : Nat), shV code k (win code n) (n + 4) = win code (n + k)
 | 0, n => rfl
 | k + 1, n => by
   show shV code k (win code n % 16777216 * 256 + Dec.byteOf code (n + 4)) (n + 4 + 1) = _
   rw [← win_succ h, show n + 4 + 1 = n + 1 + 4 by omega, shV_win h k (n + 1), show n + 1 + k = n + (k + 1) by omega]
theorem win_zero {code : List Int} (h : Bytes code) : shV code 4 0 0 = win code 0 := by
 have h0 := byteOf_range h 0
 have h1 := byteOf_range h 1
 have h2 := byteOf_range h 2
 have h3 := byteOf_range h 3
 unfold win
 simp only [shV, Nat.zero_add, Nat.reduceAdd]
 omega
/-- The bytes m stand in the code from n on. -/
def AtL (code : List Int) : Nat → List Int → Prop
 | _, [] => True
 | n, x :: m => Dec.byteOf code n = x ∧ AtL code (n + 1) m
theorem atL_of (m t : List Int) : ∀ (P : List Int), AtL (P ++ m ++ t) P.length m := by
 induction m with
 | nil => intro P; trivial
 | cons x m ih =>
   intro P
   refine ⟨?_, ?_⟩
   · rw [byteOf_getD]
     simp
   · have h := ih (P ++ [x])
     simpa using h
/-- What stands in the interval behind the lost bytes stands in the interval ahead of them. -/
theorem norm_win {code : List Int} (hb : Bytes code) : ∀ (d : Nat) (l h : Int) (n : Nat), 0 ≤ l → l ≤ h → h ≤ 4294967295 → AtL code n (normE d l h).1 → (normE d l h).2.1 ≤ win code (n + (normE d l h).1.length) ∧ win code (n + (normE d l h).1.length) ≤ (normE d l h).2.2 → l ≤ win code n ∧ win code n ≤ h
 | 0, l, h, n, _, _, _, _, hw => hw
 | d + 1, l, h, n, h0, h1, h2, ha, hw => by
   unfold normE at ha hw
   by_cases c : l / 16777216 = h / 16777216
   · rw [if_pos c] at ha hw
     have h3 := norm_win hb d (l % 16777216 * 256) (h % 16777216 * 256 + 255) (n + 1) (by omega) (by omega) (by omega) ha.2 (by
      rw [show n + 1 + (normE d (l % 16777216 * 256) (h % 16777216 * 256 + 255)).1.length = n + ((normE d (l % 16777216 * 256) (h % 16777216 * 256 + 255)).1.length + 1) by omega]
      exact hw)
     have h4 := win_succ hb n
     have h5 := win_top hb n
     have h6 := byteOf_range hb (n + 4)
     have h7 : Dec.byteOf code n = l / 16777216 := ha.1
     omega
   · rw [if_neg c] at ha hw
     exact hw
/-- The end tells a number of the interval, with zeros behind it. -/
theorem end_win (P : List Int) (low high : Int) (z : Nat) (h0 : 0 ≤ low) (h1 : low ≤ high) (h2 : high ≤ 4294967295) : low ≤ win (P ++ endOf low high ++ List.replicate z 0) P.length ∧ win (P ++ endOf low high ++ List.replicate z 0) P.length ≤ high := by
 have key : ∀ i, i < 4 → Dec.byteOf (P ++ endOf low high ++ List.replicate z 0) (P.length + i) = (endOf low high).getD i 0 := by
  intro i _
  rw [byteOf_getD, List.append_assoc, List.getD_eq_getElem?_getD, List.getElem?_append_right (by omega), Nat.add_sub_cancel_left, List.getD_eq_getElem?_getD]
  by_cases c : i < (endOf low high).length
  · rw [List.getElem?_append_left c]
  · rw [List.getElem?_append_right (by omega), List.getElem?_eq_none (l := endOf low high) (by omega), List.getElem?_replicate]
    split <;> rfl
 have k0 := key 0 (by omega)
 have k1 := key 1 (by omega)
 have k2 := key 2 (by omega)
 have k3 := key 3 (by omega)
 rw [Nat.add_zero] at k0
 unfold win
 rw [k0, k1, k2, k3]
 unfold endOf endN hiBytes
 (repeat' split) <;> simp only [List.take, List.getD_cons_zero, List.getD_cons_succ, List.getD_nil] <;> omega
/-- Encoder and decoder stand at the same place. -/
structure Sync (code : List Int) (s : ES) (d : DS) : Prop where
 k : d.kind = s.kind
 st : d.st = s.st
 l : d.low = s.low
 h : d.high = s.high
 c : d.code = code
 a : d.a = s.out.length + 4
 v : d.value = win code s.out.length
 e : d.ended = false
theorem putI_good {s : ES} {i bit : Int} (h : s.err i bit = 0) : s.good i bit = true ∧ s.putI i bit = s.put i.toNat bit ∧ 0 ≤ i ∧ i < s.st.length ∧ (bit = 0 ∨ bit = 1) := by
 unfold ES.err at h
 by_cases c : s.good i bit = true
 · have c2 := c
   simp only [ES.good, Bool.and_eq_true, Bool.or_eq_true, decide_eq_true_eq] at c2
   exact ⟨c, if_pos c, c2.1.1, c2.1.2, c2.2⟩
 · rw [if_neg c] at h
   exact absurd h (by decide)
theorem putsE_pre : ∀ (l : List S72) (s : ES), ∃ m, (putsE s l).1.out = s.out ++ m
 | [], s => ⟨[], by simp [putsE]⟩
 | x :: l, s => by
   unfold putsE
   split
   · obtain ⟨m, hm⟩ := putsE_pre l (s.putI x.f0 x.f1)
     rename_i h
     have hg := putI_good h
     rw [hg.2.1] at hm ⊢
     exact ⟨(s.norm x.f0.toNat x.f1).1 ++ m, by rw [hm, ← List.append_assoc]; rfl⟩
   · exact ⟨[], by simp⟩
/-- The code's number stands in the interval of every state on the way. -/
theorem win_in {code : List Int} (hb : Bytes code) : ∀ (l : List S72) (s : ES), s.ok → (putsE s l).2 = 0 → (∃ t, code = (putsE s l).1.out ++ t) → ((putsE s l).1.low ≤ win code (putsE s l).1.out.length ∧ win code (putsE s l).1.out.length ≤ (putsE s l).1.high) → s.low ≤ win code s.out.length ∧ win code s.out.length ≤ s.high
 | [], s, _, _, _, hw => hw
 | x :: l, s, hok, he, hp, hw => by
   unfold putsE at he hp hw
   by_cases c : s.err x.f0 x.f1 = 0
   · rw [if_pos c] at he hp hw
     have hg := putI_good c
     have h1 := win_in hb l (s.putI x.f0 x.f1) (ES.putI_ok hok _ _) he hp hw
     obtain ⟨t, ht⟩ := hp
     obtain ⟨m, hm⟩ := putsE_pre l (s.putI x.f0 x.f1)
     rw [hg.2.1] at h1 hm ht
     have hi : x.f0.toNat < s.st.length := by omega
     have hc := ES.cut_ hok hi (bit := x.f1)
     have hmid := ES.mid_ hok hi
     have hat : AtL code s.out.length (s.norm x.f0.toNat x.f1).1 := by
      rw [ht, hm]
      have h2 := atL_of (s.norm x.f0.toNat x.f1).1 (m ++ t) s.out
      rw [← List.append_assoc] at h2
      exact h2
     have h3 := norm_win hb 4 _ _ s.out.length hc.1 hc.2.1 hc.2.2 hat (by
      have h4 : (s.put x.f0.toNat x.f1).out.length = s.out.length + (s.norm x.f0.toNat x.f1).1.length := List.length_append
      rw [h4] at h1
      exact h1)
     have hl := hok.l
     unfold cutL cutH at h3
     split at h3 <;> omega
   · rw [if_neg c] at he
     exact absurd he c
theorem back_step {code : List Int} (hb : Bytes code) {s : ES} {d : DS} (hs : Sync code s d) (hok : s.ok) {x : S72} (he : s.err x.f0 x.f1 = 0) (hp : ∃ t, code = (s.putI x.f0 x.f1).out ++ t) (hw : (s.putI x.f0 x.f1).low ≤ win code (s.putI x.f0 x.f1).out.length ∧ win code (s.putI x.f0 x.f1).out.length ≤ (s.putI x.f0 x.f1).high) : ∃ d', d.getI x.f0 = (d', x.f1, 0) ∧ Sync code (s.putI x.f0 x.f1) d' := by
 have hg := putI_good he
 rw [hg.2.1] at hw hp ⊢
 obtain ⟨j, hj⟩ : ∃ j : Nat, x.f0 = (j : Int) := ⟨x.f0.toNat, by omega⟩
 rw [hj, Int.toNat_natCast] at hw hp ⊢
 have hi : j < s.st.length := by omega
 have hc := ES.cut_ hok hi (bit := x.f1)
 have hmid := ES.mid_ hok hi
 obtain ⟨t, ht⟩ := hp
 have h4 : (s.put j x.f1).out.length = s.out.length + (s.norm j x.f1).1.length := List.length_append
 have hat : AtL code s.out.length (s.norm j x.f1).1 := by
  rw [ht]
  exact atL_of (s.norm j x.f1).1 t s.out
 have h3 := norm_win hb 4 _ _ s.out.length hc.1 hc.2.1 hc.2.2 hat (by
  rw [h4] at hw
  exact hw)
 have hm : d.mid j = s.mid j := by
  unfold DS.mid ES.mid
  rw [hs.l, hs.h, hs.k, hs.st]
 have hbit : d.bit j = x.f1 := by
  unfold DS.bit
  rw [hs.v, hm]
  unfold cutL cutH at h3
  rcases hg.2.2.2.2 with hx | hx
  · rw [hx] at h3 ⊢
    rw [if_neg (by decide), if_neg (by decide)] at h3
    rw [if_neg (by omega)]
  · rw [hx] at h3 ⊢
    rw [if_pos rfl, if_pos rfl] at h3
    rw [if_pos (by omega)]
 have hn : d.norm j = s.norm j x.f1 := by
  unfold DS.norm ES.norm
  rw [hs.l, hs.h, hm, hbit]
 have hlen : s.out.length + (s.norm j x.f1).1.length ≤ code.length := by
  rw [ht, List.length_append, h4]
  omega
 refine ⟨d.next j, ?_, ?_⟩
 · unfold DS.getI
   rw [if_pos (by rw [hs.st]; omega), hs.e, if_neg (by decide), Int.toNat_natCast, hn, if_neg (by rw [hs.a, hs.c]; omega), hbit]
 · have e1 : d.next j = ⟨d.kind, d.st.set j (after d.kind (rd d.st j) (d.bit j)), (d.norm j).2.1, (d.norm j).2.2, d.code, d.a + (d.norm j).1.length, shV d.code (d.norm j).1.length d.value d.a, false⟩ := rfl
   rw [e1, hn, hbit, hs.k, hs.st, hs.c, hs.a, hs.v, shV_win hb]
   exact ⟨rfl, rfl, rfl, rfl, rfl, by rw [h4]; show s.out.length + 4 + _ = _; omega, by rw [h4], rfl⟩
/-- A decoder tells these events, one behind the other. -/
def Fol : DS → List S72 → DS → Prop
 | d, [], d' => d = d'
 | d, x :: l, d' => ∃ e, d.getI x.f0 = (e, x.f1, 0) ∧ Fol e l d'
theorem fol_of {code : List Int} (hb : Bytes code) : ∀ (l : List S72) (s : ES) (d : DS), s.ok → Sync code s d → (putsE s l).2 = 0 → (∃ t, code = (putsE s l).1.out ++ t) → ((putsE s l).1.low ≤ win code (putsE s l).1.out.length ∧ win code (putsE s l).1.out.length ≤ (putsE s l).1.high) → ∃ d', Fol d l d' ∧ Sync code (putsE s l).1 d'
 | [], s, d, _, hs, _, _, _ => ⟨d, rfl, hs⟩
 | x :: l, s, d, hok, hs, he, hp, hw => by
   unfold putsE at he hp hw ⊢
   by_cases c : s.err x.f0 x.f1 = 0
   · rw [if_pos c] at he hp hw ⊢
     have hok2 := ES.putI_ok hok x.f0 x.f1
     have h1 := win_in hb l (s.putI x.f0 x.f1) hok2 he hp hw
     have hp2 : ∃ t, code = (s.putI x.f0 x.f1).out ++ t := by
      obtain ⟨t, ht⟩ := hp
      obtain ⟨m, hm⟩ := putsE_pre l (s.putI x.f0 x.f1)
      exact ⟨m ++ t, by rw [ht, hm, List.append_assoc]⟩
     obtain ⟨d1, hg, hs1⟩ := back_step hb hs hok c hp2 h1
     obtain ⟨d2, hr, hs2⟩ := fol_of hb l (s.putI x.f0 x.f1) d1 hok2 hs1 he hp hw
     exact ⟨d2, ⟨d1, hg, hr⟩, hs2⟩
   · rw [if_neg c] at he
     exact absurd he c
/-- What is encoded is told again. -/
theorem back_fol {kind : Int} {st : List Int} {l : List S72} (hm : okModel kind st) (he : (putsE (newES kind st) l).2 = 0) {code : List Int} (hb : Bytes code) (hc : code = (putsE (newES kind st) l).1.end_) : ∃ d', Fol (newDS kind st code) l d' ∧ Sync code (putsE (newES kind st) l).1 d' := by
 have hokN := putsE_ok l _ (newES_ok hm)
 have hw := end_win (putsE (newES kind st) l).1.out (putsE (newES kind st) l).1.low (putsE (newES kind st) l).1.high 0 hokN.l hokN.lh hokN.h
 rw [List.replicate_zero, List.append_nil] at hw
 have hc2 : code = (putsE (newES kind st) l).1.out ++ endOf (putsE (newES kind st) l).1.low (putsE (newES kind st) l).1.high := hc
 rw [← hc2] at hw
 exact fol_of hb l (newES kind st) (newDS kind st code) (newES_ok hm) ⟨rfl, rfl, rfl, rfl, rfl, rfl, win_zero hb, rfl⟩ he ⟨_, hc2⟩ hw
end Go.Proofs.Ytkfejicdjpffcaa.Bkp
namespace Go.Proofs.Ytkfejicdjpffcaa.Rpx
open Go Go.RowKit YtkfejicdjpffcaaW PrintWords PrintLast PrintMore U Aid
/-- A pixel, white outside. -/
def px (W H : Int) (P : List Int) (x y : Int) : Int := if 0 ≤ x ∧ 0 ≤ y ∧ x < W ∧ y < H then rd P (y * W + x) else 0
/-- A bitmap's sides and pixels. -/
structure Bm (W H : Int) (P : List Int) : Prop where
 w : 0 ≤ W ∧ W ≤ 200
 h : 0 ≤ H ∧ H ≤ 200
 n : (P.length : Int) = W * H
 p : ∀ v ∈ P, v = 0 ∨ v = 1
theorem Bm.at_ {W H : Int} {P : List Int} (b : Bm W H P) {x y : Int} (hx : 0 ≤ x) (hy : 0 ≤ y) (hw : x < W) (hh : y < H) : 0 ≤ y * W ∧ y * W ≤ 40000 ∧ 0 ≤ y * W + x ∧ y * W + x < P.length := by
 have h1 : 0 ≤ y * W := Int.mul_nonneg hy b.w.1
 have h2 : (y + 1) * W = y * W + W := by rw [Int.add_mul, Int.one_mul]
 have h3 : (y + 1) * W ≤ H * W := Int.mul_le_mul_of_nonneg_right (by omega) b.w.1
 have h5 : H * W ≤ 200 * W := Int.mul_le_mul_of_nonneg_right b.h.2 b.w.1
 have h4 := b.n
 rw [Int.mul_comm] at h4
 have := b.w.2
 omega
theorem px_01 {W H : Int} {P : List Int} (b : Bm W H P) (x y : Int) : px W H P x y = 0 ∨ px W H P x y = 1 := by
 unfold px
 split
 · rename_i h
   have := b.at_ h.1 h.2.1 h.2.2.1 h.2.2.2
   exact b.p _ (rd_mem this.2.2.1 this.2.2.2)
 · exact .inl rfl
theorem pix_eq {W H : Int} {P : List Int} (b : Bm W H P) (x y : Int) : incunableref06_Pix.f W H P x y = some (px W H P x y) := by
 unfold incunableref06_Pix.f px
 by_cases c1 : x < 0
 · rw [if_pos c1, if_neg (by omega)]
 rw [if_neg c1]
 by_cases c2 : y < 0
 · rw [if_pos c2, if_neg (by omega)]
 rw [if_neg c2]
 by_cases c3 : x ≥ W
 · rw [if_pos c3, if_neg (by omega)]
 rw [if_neg c3]
 by_cases c4 : y ≥ H
 · rw [if_pos c4, if_neg (by omega)]
 rw [if_neg c4]
 have h := b.at_ (x := x) (y := y) (by omega) (by omega) (by omega) (by omega)
 have := b.w
 rw [wrap_id (n := y * W) (by omega) (by omega), wrap_id (n := y * W + x) (by omega) (by omega), if_pos h.2.2.1, if_pos h.2.2.2, if_pos (by omega)]
theorem grid_eq {W H : Int} {P : List Int} (b : Bm W H P) (x y : Int) : refine_grid_at.f W H P x y = some (px W H P x y) := pix_eq b x y
/-- The nine pixels around one, from number i on. -/
def flatF (W H : Int) (P : List Int) (x y c : Int) : Nat → Nat → Int × Bool
 | 0, _ => (c, true)
 | d + 1, i => if px W H P (x + (i : Int) % 3 - 1) (y + (i : Int) / 3 - 1) = c then flatF W H P x y c d (i + 1) else (0, false)
def flatP (W H : Int) (P : List Int) (x y : Int) : Int × Bool := flatF W H P x y (px W H P x y) 9 0
theorem alike_loop {W H : Int} {P : List Int} (b : Bm W H P) (t dx dy : Int) (ty : Bool) (kd x y c : Int) (hx : -100000 ≤ x ∧ x ≤ 100000) (hy : -100000 ≤ y ∧ y ≤ 100000) (hdx : -100000 ≤ dx ∧ dx ≤ 100000) (hdy : -100000 ≤ dy ∧ dy ≤ 100000) :
 ∀ (d i : Nat), d + i = 9 → Ev (fun k => incunableref08_Alike.l0 k x y c (i : Int) t dx dy ty kd W H P) (flatF W H P (x - dx) (y - dy) c d i)
 | 0, i, h => by
   refine ev_succ ?_
   simp only [incunableref08_Alike.l0]
   exact ev_neg (by omega) (Ev.now _)
 | d + 1, i, h => by
   refine ev_succ ?_
   simp only [incunableref08_Alike.l0]
   have e1 : Int.tmod (i : Int) 3 = (i : Int) % 3 := Int.tmod_eq_emod_of_nonneg (by omega)
   have e2 : Int.tdiv (i : Int) 3 = (i : Int) / 3 := Int.tdiv_eq_ediv_of_nonneg (by omega)
   rw [e1, e2]
   refine ev_pos (by omega) ?_
   simp (disch := omega) only [wrap_id]
   refine ev_pure (pix_eq b _ _) ?_
   unfold flatF
   by_cases c1 : px W H P (x - dx + (i : Int) % 3 - 1) (y - dy + (i : Int) / 3 - 1) = c
   · rw [if_pos c1]
     refine ev_pos c1 ?_
     have := alike_loop b t dx dy ty kd x y c hx hy hdx hdy d (i + 1) (by omega)
     rw [show ((i + 1 : Nat) : Int) = (i : Int) + 1 by omega] at this
     exact this
   · rw [if_neg c1]
     exact ev_neg c1 (Ev.now _)
theorem alike_ev {W H : Int} {P : List Int} (b : Bm W H P) (t dx dy : Int) (ty : Bool) (kd x y : Int) (hx : -100000 ≤ x ∧ x ≤ 100000) (hy : -100000 ≤ y ∧ y ≤ 100000) (hdx : -100000 ≤ dx ∧ dx ≤ 100000) (hdy : -100000 ≤ dy ∧ dy ≤ 100000) :
 Ev (fun k => incunableref08_Alike.f k t dx dy ty kd W H P x y) (flatP W H P (x - dx) (y - dy)) := by
 unfold incunableref08_Alike.f flatP
 rw [wrap_id (n := x - dx) (by omega) (by omega), wrap_id (n := y - dy) (by omega) (by omega)]
 exact ev_pure (pix_eq b _ _) (alike_loop b t dx dy ty kd x y _ hx hy hdx hdy 9 0 rfl)
/-- A number of pixels at offsets, behind the number n. -/
def ctxN (W H : Int) (P : List Int) (x y : Int) : List S127 → Int → Int
 | [], n => n
 | d :: l, n => ctxN W H P x y l (2 * n + px W H P (x + d.f0) (y + d.f1))
def near (d : S127) : Prop := (-1 ≤ d.f0 ∧ d.f0 ≤ 1) ∧ -1 ≤ d.f1 ∧ d.f1 ≤ 1
def news (t : Int) : List S127 := if t = 1 then [⟨0, -1⟩, ⟨-1, 0⟩] else [⟨-1, -1⟩, ⟨0, -1⟩, ⟨1, -1⟩, ⟨-1, 0⟩]
def besides : List S127 := [⟨0, 0⟩, ⟨-1, 0⟩, ⟨1, 0⟩, ⟨0, -1⟩, ⟨0, 1⟩]
/-- The context of a pixel. -/
def ctxP (t dx dy W H : Int) (P : List Int) (RW RH : Int) (RP : List Int) (x y : Int) : Int := ctxN RW RH RP (x - dx) (y - dy) besides (ctxN W H P x y (news t) 0)
theorem drop127 {l : List S127} {i : Nat} (h : i < l.length) : l.drop i = rd_T127 l (i : Int) :: l.drop (i + 1) ∧ rd_T127 l (i : Int) ∈ l := by
 have e : rd_T127 l (i : Int) = l[i] := by simp [rd_T127, List.getD_eq_getElem?_getD, List.getElem?_eq_getElem h]
 rw [e]
 exact ⟨List.drop_eq_getElem_cons h, List.getElem_mem h⟩
theorem n_step {n v : Int} {d : Nat} (h0 : 0 ≤ n) (h : (n + 1) * 2 ^ (d + 1) ≤ 1048576) (hv : v = 0 ∨ v = 1) : 0 ≤ 2 * n + v ∧ (2 * n + v + 1) * 2 ^ d ≤ 1048576 ∧ n ≤ 1048576 := by
 have hp : (1 : Int) ≤ 2 ^ d := by have : (0 : Int) < 2 ^ d := Int.pow_pos (by decide); omega
 have e : (n + 1) * 2 ^ (d + 1) = (2 * n + 2) * 2 ^ d := by rw [Int.pow_succ, Int.mul_comm (2 ^ d) 2, ← Int.mul_assoc]; congr 1; omega
 rw [e] at h
 have h3 : (2 * n + 2) * 1 ≤ (2 * n + 2) * 2 ^ d := Int.mul_le_mul_of_nonneg_left hp (by omega)
 have h4 : (2 * n + v + 1) * 2 ^ d ≤ (2 * n + 2) * 2 ^ d := Int.mul_le_mul_of_nonneg_right (by omega) (by omega)
 omega
theorem ctx_l1 {RW RH : Int} {RP : List Int} (b : Bm RW RH RP) (t dx dy : Int) (ty : Bool) (kd x y : Int) (hx : -100000 ≤ x ∧ x ≤ 100000) (hy : -100000 ≤ y ∧ y ≤ 100000) (hdx : -100000 ≤ dx ∧ dx ≤ 100000) (hdy : -100000 ≤ dy ∧ dy ≤ 100000) (L : List S127) (hL : ∀ d ∈ L, near d) (h20 : L.length ≤ 20) :
 ∀ (d i : Nat) (n : Int), i + d = L.length → 0 ≤ n → (n + 1) * 2 ^ d ≤ 1048576 → Ev (fun k => incunableref08_Context.l1 k x y n L (L.length : Int) (i : Int) t dx dy ty kd RW RH RP) (ctxN RW RH RP (x - dx) (y - dy) (L.drop i) n)
 | 0, i, n, h, h0, hn => by
   refine ev_succ ?_
   simp only [incunableref08_Context.l1]
   rw [List.drop_of_length_le (by omega)]
   exact ev_neg (by omega) (Ev.now _)
 | d + 1, i, n, h, h0, hn => by
   obtain ⟨e1, e2⟩ := drop127 (l := L) (i := i) (by omega)
   have hd := hL _ e2
   unfold near at hd
   rw [e1]
   refine ev_succ ?_
   simp only [incunableref08_Context.l1]
   refine ev_pos (by omega) (ev_pos (by omega) (ev_pos (by omega) ?_))
   have hv := px_01 b (x - dx + (rd_T127 L (i : Int)).f0) (y - dy + (rd_T127 L (i : Int)).f1)
   have hs := n_step h0 hn hv
   simp (disch := omega) only [wrap_id]
   refine ev_pure (pix_eq b _ _) ?_
   simp (disch := omega) only [wrap_id]
   have := ctx_l1 b t dx dy ty kd x y hx hy hdx hdy L hL h20 d (i + 1) _ (by omega) hs.1 hs.2.1
   rw [show ((i + 1 : Nat) : Int) = (i : Int) + 1 by omega] at this
   exact this
theorem ctx_l0 {W H RW RH : Int} {P RP : List Int} (b : Bm W H P) (t dx dy : Int) (ty : Bool) (kd x y : Int) (hx : -100000 ≤ x ∧ x ≤ 100000) (hy : -100000 ≤ y ∧ y ≤ 100000) (L : List S127) (hL : ∀ d ∈ L, near d) (h20 : L.length ≤ 20) (r : Int) :
 ∀ (d i : Nat) (n : Int), i + d = L.length → 0 ≤ n → (n + 1) * 2 ^ d ≤ 1048576 → Ev (fun k => incunableref08_Context.l1 k x y (ctxN W H P x y (L.drop i) n) besides (besides.length : Int) 0 t dx dy ty kd RW RH RP) r → Ev (fun k => incunableref08_Context.l0 k x y L n (L.length : Int) (i : Int) t dx dy ty kd W H P RW RH RP) r
 | 0, i, n, h, h0, hn, hr => by
   refine ev_succ ?_
   simp only [incunableref08_Context.l0]
   rw [List.drop_of_length_le (by omega)] at hr
   exact ev_neg (by omega) hr
 | d + 1, i, n, h, h0, hn, hr => by
   obtain ⟨e1, e2⟩ := drop127 (l := L) (i := i) (by omega)
   have hd := hL _ e2
   unfold near at hd
   rw [e1] at hr
   refine ev_succ ?_
   simp only [incunableref08_Context.l0]
   refine ev_pos (by omega) (ev_pos (by omega) (ev_pos (by omega) ?_))
   have hv := px_01 b (x + (rd_T127 L (i : Int)).f0) (y + (rd_T127 L (i : Int)).f1)
   have hs := n_step h0 hn hv
   simp (disch := omega) only [wrap_id]
   refine ev_pure (pix_eq b _ _) ?_
   simp (disch := omega) only [wrap_id]
   have := ctx_l0 (RW := RW) (RH := RH) (RP := RP) b t dx dy ty kd x y hx hy L hL h20 r d (i + 1) _ (by omega) hs.1 hs.2.1 hr
   rw [show ((i + 1 : Nat) : Int) = (i : Int) + 1 by omega] at this
   exact this
theorem ctxN_range {W H : Int} {P : List Int} (b : Bm W H P) (x y : Int) : ∀ (l : List S127) (n : Int), 0 ≤ n → 0 ≤ ctxN W H P x y l n ∧ ctxN W H P x y l n + 1 ≤ (n + 1) * 2 ^ l.length
 | [], n, h => by
   simp only [ctxN, List.length_nil, Int.pow_zero]
   omega
 | d :: l, n, h => by
   have hv := px_01 b (x + d.f0) (y + d.f1)
   have ih := ctxN_range b x y l (2 * n + px W H P (x + d.f0) (y + d.f1)) (by omega)
   simp only [ctxN, List.length_cons]
   refine ⟨ih.1, Int.le_trans ih.2 ?_⟩
   have e : (n + 1) * 2 ^ (l.length + 1) = (2 * n + 2) * 2 ^ l.length := by rw [Int.pow_succ, Int.mul_comm (2 ^ l.length) 2, ← Int.mul_assoc]; congr 1; omega
   rw [e]
   have hp : (0 : Int) < 2 ^ l.length := Int.pow_pos (by decide)
   exact Int.mul_le_mul_of_nonneg_right (by omega) (by omega)
theorem near_news (t : Int) : ∀ d ∈ news t, near d := by
 unfold news near
 split <;> simp
theorem news_len (t : Int) : (news t).length = if t = 1 then 2 else 4 := by unfold news; split <;> rfl
/-- The reference's context. -/
theorem context_ev {W H RW RH : Int} {P RP : List Int} (b : Bm W H P) (br : Bm RW RH RP) (t dx dy : Int) (ty : Bool) (kd x y : Int) (hx : -100000 ≤ x ∧ x ≤ 100000) (hy : -100000 ≤ y ∧ y ≤ 100000) (hdx : -100000 ≤ dx ∧ dx ≤ 100000) (hdy : -100000 ≤ dy ∧ dy ≤ 100000) :
 Ev (fun k => incunableref08_Context.f k t dx dy ty kd W H P RW RH RP x y) (ctxP t dx dy W H P RW RH RP x y) := by
 have hl := news_len t
 have hr := ctxN_range b x y (news t) 0 (Int.le_refl _)
 have h5 : (0 + 1) * (2 : Int) ^ (news t).length ≤ 16 := by rw [hl]; split <;> decide
 have key : ∀ r, Ev (fun k => incunableref08_Context.l1 k x y (ctxN W H P x y (news t) 0) besides (besides.length : Int) 0 t dx dy ty kd RW RH RP) r → Ev (fun k => incunableref08_Context.l0 k x y (news t) 0 ((news t).length : Int) 0 t dx dy ty kd W H P RW RH RP) r := fun r hr2 => ctx_l0 b t dx dy ty kd x y hx hy (news t) (near_news t) (by rw [hl]; split <;> decide) r (news t).length 0 0 (by omega) (Int.le_refl _) (by omega) hr2
 have h1 := key _ (ctx_l1 br t dx dy ty kd x y hx hy hdx hdy besides (by unfold besides near; simp) (by decide) 5 0 _ rfl hr.1 (by have : (2 : Int) ^ 5 = 32 := rfl; omega))
 unfold incunableref08_Context.f
 by_cases c : t = 1
 · refine ev_pos c (ev_succ ?_)
   simp only [incunableref08_Context.j0]
   have e : news t = [⟨0, -1⟩, ⟨-1, 0⟩] := if_pos c
   rw [e] at h1
   unfold ctxP
   rw [e]
   exact h1
 · refine ev_neg c (ev_succ ?_)
   simp only [incunableref08_Context.j0]
   have e : news t = [⟨-1, -1⟩, ⟨0, -1⟩, ⟨1, -1⟩, ⟨-1, 0⟩] := if_neg c
   rw [e] at h1
   unfold ctxP
   rw [e]
   exact h1
/-- Whether each pixel of a row beside nine that are the same is like them, from pixel i on. -/
def rowP (dx dy W H : Int) (P : List Int) (RW RH : Int) (RP : List Int) (y : Int) : Nat → Nat → Bool
 | 0, _ => true
 | d + 1, i => if (flatP RW RH RP ((i : Int) - dx) (y - dy)).2 = true then (if px W H P i y = (flatP RW RH RP ((i : Int) - dx) (y - dy)).1 then rowP dx dy W H P RW RH RP y d (i + 1) else false) else rowP dx dy W H P RW RH RP y d (i + 1)
end Go.Proofs.Ytkfejicdjpffcaa.Rpx
namespace Go.Proofs.Ytkfejicdjpffcaa.Rva
open Go Go.RowKit YtkfejicdjpffcaaW PrintWords PrintLast PrintMore U Aid HandAid Cod1 Cod2 Cod3 Ytkfejicdjpffcaa.Mod Rpx
/-- Options that are such. -/
def okO (t dx dy kd : Int) : Bool := decide ((t = 0 ∨ t = 1) ∧ (kd = 0 ∨ kd = 1) ∧ -200 ≤ dx ∧ dx ≤ 200 ∧ -200 ≤ dy ∧ dy ≤ 200)
theorem okO_iff {t dx dy kd : Int} : okO t dx dy kd = true ↔ ((t = 0 ∨ t = 1) ∧ (kd = 0 ∨ kd = 1) ∧ -200 ≤ dx ∧ dx ≤ 200 ∧ -200 ≤ dy ∧ dy ≤ 200) := by unfold okO; exact decide_eq_true_iff
theorem valid_eq (t dx dy : Int) (ty : Bool) (kd : Int) (hx : -9223372036854775808 ≤ dx ∧ dx ≤ 9223372036854775807) (hy : -9223372036854775808 ≤ dy ∧ dy ≤ 9223372036854775807) : refine_Valid.f t dx dy ty kd = some (okO t dx dy kd) := by
 have key : (if mn dx dy ≥ (-200) then (some (decide ((mx (mx (mx dx (wrap64 (-dx))) dy) (wrap64 (-dy))) ≤ 200))) else some false) = some (decide (-200 ≤ dx ∧ dx ≤ 200 ∧ -200 ≤ dy ∧ dy ≤ 200)) := by
  by_cases c : mn dx dy ≥ (-200)
  · rw [if_pos c]
    have hc : -200 ≤ dx ∧ -200 ≤ dy := by unfold mn at c; split at c <;> omega
    rw [wrap_id (n := -dx) (by omega) (by omega), wrap_id (n := -dy) (by omega) (by omega)]
    congr 1
    rw [decide_eq_decide]
    unfold mx
    (repeat' split) <;> omega
  · rw [if_neg c]
    have hc : ¬ (-200 ≤ dx ∧ -200 ≤ dy) := by unfold mn at c; split at c <;> omega
    congr 1
    exact (decide_eq_false (by omega)).symm
 unfold refine_Valid.f okO
 by_cases h0 : t = 0
 · rw [if_pos h0]
   by_cases k0 : kd = 0
   · rw [if_pos k0, key]; congr 1; rw [decide_eq_decide]; omega
   · rw [if_neg k0]
     by_cases k1 : kd = 1
     · rw [if_pos k1, key]; congr 1; rw [decide_eq_decide]; omega
     · rw [if_neg k1]; congr 1; exact (decide_eq_false (by omega)).symm
 · rw [if_neg h0]
   by_cases h1 : t = 1
   · rw [if_pos h1]
     by_cases k0 : kd = 0
     · rw [if_pos k0, key]; congr 1; rw [decide_eq_decide]; omega
     · rw [if_neg k0]
       by_cases k1 : kd = 1
       · rw [if_pos k1, key]; congr 1; rw [decide_eq_decide]; omega
       · rw [if_neg k1]; congr 1; exact (decide_eq_false (by omega)).symm
   · rw [if_neg h1]; congr 1; exact (decide_eq_false (by omega)).symm
theorem rvalid_eq (t dx dy : Int) (ty : Bool) (kd : Int) : incunableref08_Valid.f t dx dy ty kd = some (okO t dx dy kd) := by
 unfold incunableref08_Valid.f okO
 (repeat' split) <;> (congr 1; first | (rw [decide_eq_decide]; omega) | (refine (decide_eq_false ?_).symm; omega))
/-- Sides that a bitmap may have. -/
def okS (w h : Int) : Bool := decide (0 ≤ w ∧ w ≤ 200 ∧ 0 ≤ h ∧ h ≤ 200 ∧ w * h ≤ 8192)
theorem okS_iff {w h : Int} : okS w h = true ↔ (0 ≤ w ∧ w ≤ 200 ∧ 0 ≤ h ∧ h ≤ 200 ∧ w * h ≤ 8192) := by unfold okS; exact decide_eq_true_iff
theorem area {w h : Int} (h0 : 0 ≤ w) (h1 : w ≤ 200) (h2 : 0 ≤ h) (h3 : h ≤ 200) : 0 ≤ w * h ∧ w * h ≤ 40000 := by
 have a1 : w * h ≤ 200 * h := Int.mul_le_mul_of_nonneg_right h1 h2
 have a2 : 0 ≤ w * h := Int.mul_nonneg h0 h2
 omega
theorem fits2_eq (w h : Int) : bitmap_fits.f w h = some (okS w h) := by
 unfold bitmap_fits.f okS
 by_cases c0 : w ≥ 0
 · by_cases c1 : h ≥ 0
   · by_cases c2 : w ≤ 200
     · by_cases c3 : h ≤ 200
       · have := area c0 c2 c1 c3
         rw [if_pos c0, if_pos c1, if_pos c2, if_pos c3, wrap_id (n := w * h) (by omega) (by omega)]
         congr 1; rw [decide_eq_decide]; omega
       · rw [if_pos c0, if_pos c1, if_pos c2, if_neg c3]; congr 1; exact (decide_eq_false (by omega)).symm
     · rw [if_pos c0, if_pos c1, if_neg c2]; congr 1; exact (decide_eq_false (by omega)).symm
   · rw [if_pos c0, if_neg c1]; congr 1; exact (decide_eq_false (by omega)).symm
 · rw [if_neg c0]; congr 1; exact (decide_eq_false (by omega)).symm
theorem issize_eq (w h : Int) : incunableref06_IsSize.f w h = some (okS w h) := by
 unfold incunableref06_IsSize.f okS
 by_cases c0 : w ≥ 0
 · by_cases c2 : w ≤ 200
   · by_cases c1 : h ≥ 0
     · by_cases c3 : h ≤ 200
       · have := area c0 c2 c1 c3
         rw [if_pos c0, if_pos c2, if_pos c1, if_pos c3, wrap_id (n := w * h) (by omega) (by omega)]
         congr 1; rw [decide_eq_decide]; omega
       · rw [if_pos c0, if_pos c2, if_pos c1, if_neg c3]; congr 1; exact (decide_eq_false (by omega)).symm
     · rw [if_pos c0, if_pos c2, if_neg c1]; congr 1; exact (decide_eq_false (by omega)).symm
   · rw [if_pos c0, if_neg c2]; congr 1; exact (decide_eq_false (by omega)).symm
 · rw [if_neg c0]; congr 1; exact (decide_eq_false (by omega)).symm
/-- Pixels that are such. -/
def okP (P : List Int) : Bool := P.all (fun v => decide (v ≤ 1))
/-- A bitmap that is one. -/
def okB (W H : Int) (P : List Int) : Bool := okS W H && decide ((P.length : Int) = W * H) && okP P
theorem okB_bm {W H : Int} {P : List Int} (hb : Bytes P) (h : okB W H P = true) : Bm W H P ∧ W * H ≤ 8192 := by
 unfold okB at h
 rw [Bool.and_eq_true, Bool.and_eq_true, okS_iff, decide_eq_true_iff] at h
 obtain ⟨⟨hs, hl⟩, hp⟩ := h
 refine ⟨⟨by omega, by omega, hl, fun v hv => ?_⟩, by omega⟩
 unfold okP at hp
 have h1 := List.all_eq_true.1 hp v hv
 have h2 := hb v hv
 have h3 := of_decide_eq_true h1
 omega
theorem okP_cons (v : Int) (l : List Int) : okP (v :: l) = (decide (v ≤ 1) && okP l) := rfl
theorem isrow_ev (P : List Int) (hn : P.length ≤ 9223372036854775807) : ∀ (d i : Nat), i + d = P.length → Ev (fun k => incunableref06_IsRow.l0 k P (P.length : Int) (i : Int)) (okP (P.drop i))
 | 0, i, h => by
   refine ev_succ ?_
   simp only [incunableref06_IsRow.l0]
   rw [List.drop_of_length_le (by omega)]
   exact ev_neg (by omega) (Ev.now _)
 | d + 1, i, h => by
   have e := drop_rd (l := P) (i := i) (by omega)
   rw [e, okP_cons]
   refine ev_succ ?_
   simp only [incunableref06_IsRow.l0]
   refine ev_pos (by omega) (ev_pos (by omega) (ev_pos (by omega) ?_))
   by_cases c : rd P (i : Int) > 1
   · rw [decide_eq_false (by omega), Bool.false_and]
     exact ev_pos c (Ev.now _)
   · rw [decide_eq_true (by omega), Bool.true_and]
     refine ev_neg c ?_
     have := isrow_ev P hn d (i + 1) (by omega)
     rw [show ((i + 1 : Nat) : Int) = (i : Int) + 1 by omega] at this
     rw [wrap_id (n := (i : Int) + 1) (by omega) (by omega)]
     exact this
theorem brow_ev (P : List Int) (hn : P.length ≤ 9223372036854775807) : ∀ (d i : Nat), i + d = P.length → Ev (fun k => bitmap_Valid.l0 k P (P.length : Int) (i : Int)) (okP (P.drop i))
 | 0, i, h => by
   refine ev_succ ?_
   simp only [bitmap_Valid.l0]
   rw [List.drop_of_length_le (by omega)]
   exact ev_neg (by omega) (Ev.now _)
 | d + 1, i, h => by
   have e := drop_rd (l := P) (i := i) (by omega)
   rw [e, okP_cons]
   refine ev_succ ?_
   simp only [bitmap_Valid.l0]
   refine ev_pos (by omega) (ev_pos (by omega) (ev_pos (by omega) ?_))
   by_cases c : rd P (i : Int) > 1
   · rw [decide_eq_false (by omega), Bool.false_and]
     exact ev_pos c (Ev.now _)
   · rw [decide_eq_true (by omega), Bool.true_and]
     refine ev_neg c ?_
     have := brow_ev P hn d (i + 1) (by omega)
     rw [show ((i + 1 : Nat) : Int) = (i : Int) + 1 by omega] at this
     rw [wrap_id (n := (i : Int) + 1) (by omega) (by omega)]
     exact this
theorem bvalid_ev (W H : Int) (P : List Int) (hn : P.length ≤ 9223372036854775807) : Ev (fun k => bitmap_Valid.f k W H P) (okB W H P) := by
 unfold bitmap_Valid.f okB
 rw [fits2_eq]
 refine ev_some ?_
 by_cases c : okS W H = true
 · rw [c, Bool.true_and]
   have hs := okS_iff.1 c
   have := area hs.1 hs.2.1 hs.2.2.1 hs.2.2.2.1
   rw [wrap_id (n := W * H) (by omega) (by omega)]
   refine ev_pos rfl (ev_succ ?_)
   simp only [bitmap_Valid.j0]
   by_cases c2 : (P.length : Int) = W * H
   · rw [decide_eq_true c2, Bool.true_and]
     refine ev_neg (by simp [c2]) ?_
     exact brow_ev P hn P.length 0 (by omega)
   · rw [decide_eq_false c2, Bool.false_and]
     exact ev_pos (by simp [c2]) (Ev.now _)
 · have c' : okS W H = false := by simpa using c
   rw [c', Bool.false_and, Bool.false_and]
   refine ev_neg (by decide) (ev_succ ?_)
   simp only [bitmap_Valid.j0]
   exact ev_pos (by trivial) (Ev.now _)
theorem isbitmap_ev (W H : Int) (P : List Int) (hn : P.length ≤ 9223372036854775807) : Ev (fun k => incunableref06_IsBitmap.f k W H P) (okB W H P) := by
 unfold incunableref06_IsBitmap.f okB
 rw [issize_eq]
 refine ev_some ?_
 by_cases c : okS W H = true
 · rw [c, Bool.true_and]
   have hs := okS_iff.1 c
   have := area hs.1 hs.2.1 hs.2.2.1 hs.2.2.2.1
   rw [wrap_id (n := W * H) (by omega) (by omega)]
   refine ev_pos rfl ?_
   by_cases c2 : (P.length : Int) = W * H
   · rw [decide_eq_true c2, Bool.true_and]
     refine ev_pos c2 (ev_bind (isrow_ev P hn P.length 0 (by omega)) (Ev.now _))
   · rw [decide_eq_false c2, Bool.false_and]
     exact ev_neg c2 (Ev.now _)
 · have c' : okS W H = false := by simpa using c
   rw [c', Bool.false_and, Bool.false_and]
   exact ev_neg (by decide) (Ev.now _)
theorem new_loop (n : Nat) (hn : n ≤ 40000) (W H : Int) : ∀ (d i : Nat), i + d = n → Ev (fun k => bitmap_New.l0 k 0 0 (n : Int) (i : Int) W H (List.replicate n 0)) (W, H, List.replicate n 0, 0)
 | 0, i, h => by
   refine ev_succ ?_
   simp only [bitmap_New.l0]
   exact ev_neg (by omega) (Ev.now _)
 | d + 1, i, h => by
   refine ev_succ ?_
   simp only [bitmap_New.l0, List.length_replicate]
   refine ev_pos (by omega) (ev_pos (by omega) (ev_pos (by omega) ?_))
   have e : (List.replicate n (0 : Int)).set ((i : Int).toNat) (0 % 256) = List.replicate n 0 := by
    apply List.ext_getElem
    · simp
    · intro j h1 h2
      rw [List.getElem_set]
      split <;> simp
   rw [e, wrap_id (n := (i : Int) + 1) (by omega) (by omega)]
   have := new_loop n hn W H d (i + 1) (by omega)
   rw [show ((i + 1 : Nat) : Int) = (i : Int) + 1 by omega] at this
   exact this
theorem bnew_ev (w h : Int) : ∃ r : Int × Int × List Int × Int, Ev (fun k => bitmap_New.f k w h 0) r ∧ r.2.2.2 = if okS w h = true then 0 else if w < 0 ∨ h < 0 then 2 else 4 := by
 by_cases c0 : w < 0
 · refine ⟨(0, 0, [], 2), ?_, ?_⟩
   · unfold bitmap_New.f
     refine ev_pos c0 (ev_succ ?_)
     simp only [bitmap_New.j0]
     exact ev_pos (by trivial) (Ev.now _)
   · rw [if_neg (by rw [okS_iff]; omega), if_pos (.inl c0)]
 by_cases c1 : h < 0
 · refine ⟨(0, 0, [], 2), ?_, ?_⟩
   · unfold bitmap_New.f
     refine ev_neg c0 (ev_pos c1 (ev_succ ?_))
     simp only [bitmap_New.j0]
     exact ev_pos (by trivial) (Ev.now _)
   · rw [if_neg (by rw [okS_iff]; omega), if_pos (.inr c1)]
 by_cases c : okS w h = true
 · have hs := okS_iff.1 c
   have ha := area hs.1 hs.2.1 hs.2.2.1 hs.2.2.2.1
   refine ⟨(w, h, List.replicate (w * h).toNat 0, 0), ?_, by rw [if_pos c]⟩
   unfold bitmap_New.f
   refine ev_neg c0 (ev_neg c1 (ev_pos rfl (ev_succ ?_)))
   simp only [bitmap_New.j0]
   refine ev_neg (by decide) ?_
   have hbl : bitmap_blank.f w h = some (w, h, List.replicate (w * h).toNat 0, 0) := by
    unfold bitmap_blank.f
    rw [fits2_eq, c, wrap_id (n := w * h) (by omega) (by omega)]
    simp only [Option.bind_some, if_true]
    rw [if_pos (by omega), if_pos (by omega)]
   refine ev_pure hbl ?_
   have := new_loop (w * h).toNat (by omega) w h (w * h).toNat 0 (by omega)
   simpa using this
 · refine ⟨(0, 0, [], 4), ?_, by rw [if_neg c, if_neg (by omega)]⟩
   have c' : okS w h = false := by simpa using c
   unfold bitmap_New.f
   refine ev_neg c0 (ev_neg c1 (ev_pos rfl (ev_succ ?_)))
   simp only [bitmap_New.j0]
   refine ev_neg (by decide) ?_
   have hbl : bitmap_blank.f w h = some (0, 0, [], 4) := by
    unfold bitmap_blank.f
    rw [fits2_eq, c']
    rfl
   refine ev_pure hbl (ev_succ ?_)
   simp only [bitmap_New.l0]
   exact ev_neg (by simp) (Ev.now _)
/-- How many contexts there are, without the last one. -/
def ctxs (t : Int) : Int := if t = 0 then 512 else 128
theorem contexts_eq (t : Int) : refine_contexts.f t = some (ctxs t) := by
 unfold refine_contexts.f refine_fresh.f ctxs
 split <;> rfl
theorem size_eq (t : Int) : incunableref08_size.f t = some (ctxs t + 1) := by
 unfold incunableref08_size.f ctxs
 split <;> rfl
theorem ctxs_range (t : Int) : 128 ≤ ctxs t ∧ ctxs t ≤ 512 := by unfold ctxs; split <;> decide
/-- Whether n states have the contexts from a base on. -/
def okF (n : Nat) (base t : Int) : Bool := decide (0 ≤ base ∧ base + ctxs t + 1 ≤ n)
theorem okF_iff {n : Nat} {base t : Int} : okF n base t = true ↔ (0 ≤ base ∧ base + ctxs t + 1 ≤ n) := by unfold okF; exact decide_eq_true_iff
theorem asked_eq (t dx dy : Int) (ty : Bool) (kd : Int) (right : Bool) (base kind : Int) (st : List Int) (hn : st.length ≤ 8192) : incunableref08_asked.f t dx dy ty kd right base kind st = some (if okO t dx dy kd = true then (if right = true then (if okF st.length base t = true then 0 else 2) else 30) else 2) := by
 have hr := ctxs_range t
 unfold incunableref08_asked.f
 rw [rvalid_eq]
 simp only [Option.bind_some]
 by_cases c : okO t dx dy kd = true
 · rw [if_pos c, if_pos c]
   by_cases c2 : right = true
   · rw [if_pos c2, if_pos c2]
     by_cases c3 : base < 0
     · rw [if_pos c3, if_neg (by rw [okF_iff]; omega)]
     · rw [if_neg c3, size_eq]
       simp only [Option.bind_some]
       rw [wrap_id (n := (st.length : Int) - (ctxs t + 1)) (by omega) (by omega)]
       by_cases c4 : base > (st.length : Int) - (ctxs t + 1)
       · rw [if_pos c4, if_neg (by rw [okF_iff]; omega)]
       · rw [if_neg c4, if_pos (by rw [okF_iff]; omega)]
   · rw [if_neg c2, if_neg c2]
 · rw [if_neg c, if_neg c]
theorem model_eq (t dx dy : Int) (ty : Bool) (kd : Int) (h : okO t dx dy kd = true) : refine_model.f t dx dy ty kd = some (kd, List.replicate (ctxs t + 1).toNat 0) := by
 have hr := ctxs_range t
 have hk := (okO_iff.1 h).2.1
 unfold refine_model.f
 rw [contexts_eq]
 simp only [Option.bind_some]
 rw [wrap_id (n := ctxs t + 1) (by omega) (by omega), new_eq]
 unfold newModel
 rw [if_pos ⟨hk, by omega, by omega⟩]
 rfl
theorem fresh_eq (t dx dy : Int) (ty : Bool) (kd : Int) : incunableref08_fresh.f t dx dy ty kd = some (kd, List.replicate (ctxs t + 1).toNat 0) := by
 have hr := ctxs_range t
 unfold incunableref08_fresh.f
 rw [size_eq]
 simp only [Option.bind_some]
 rw [if_pos (by omega), if_pos (by omega)]
theorem same_loop (W H : Int) (P : List Int) (W2 H2 : Int) (P2 : List Int) (hl : P.length = P2.length) (he : P = P2) (hn : P.length ≤ 9223372036854775807) : ∀ (d i : Nat), i + d = P.length → Ev (fun k => incunableref06_SameBitmap.l0 k (P.length : Int) (i : Int) W H P W2 H2 P2) true
 | 0, i, h => by
   refine ev_succ ?_
   simp only [incunableref06_SameBitmap.l0]
   exact ev_neg (by omega) (Ev.now _)
 | d + 1, i, h => by
   refine ev_succ ?_
   simp only [incunableref06_SameBitmap.l0]
   refine ev_pos (by omega) (ev_pos (by omega) (ev_pos (by omega) (ev_pos (by omega) (ev_pos (by rw [he]) ?_))))
   rw [wrap_id (n := (i : Int) + 1) (by omega) (by omega)]
   have := same_loop W H P W2 H2 P2 hl he hn d (i + 1) (by omega)
   rw [show ((i + 1 : Nat) : Int) = (i : Int) + 1 by omega] at this
   exact this
theorem same_ev (W H : Int) (P : List Int) (hn : P.length ≤ 9223372036854775807) : Ev (fun k => incunableref06_SameBitmap.f k W H P W H P) true := by
 unfold incunableref06_SameBitmap.f
 refine ev_pos rfl (ev_pos rfl (ev_succ ?_))
 simp only [incunableref06_SameBitmap.j0]
 refine ev_neg (by simp) ?_
 exact same_loop W H P W H P rfl rfl hn P.length 0 (by omega)
theorem psize_eq (t : Int) : refine_Size.f t = some (if t = 0 ∨ t = 1 then (ctxs t + 1, 0) else (0, 2)) := by
 have hr := ctxs_range t
 unfold refine_Size.f
 rw [contexts_eq]
 simp only [Option.bind_some]
 rw [wrap_id (n := ctxs t + 1) (by omega) (by omega)]
 by_cases h0 : t = 0
 · rw [if_pos h0, if_pos (.inl h0)]
 · by_cases h1 : t = 1
   · rw [if_neg h0, if_pos h1, if_pos (.inr h1)]
   · rw [if_neg (by omega : ¬ (t = 0 ∨ t = 1))]
     simp [h0, h1]
end Go.Proofs.Ytkfejicdjpffcaa.Rva
