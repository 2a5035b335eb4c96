import Derived.Test.YtpnmedmghncpiaaPCoderShortx2
import Derived.Test.YtpnmedmghncpiaaPCoderShortx3
import Derived.Test.YtpnmedmghncpiaaAid
import Derived.Test.YtpnmedmghncpiaaHandAid
import Derived.Test.YtpnmedmghncpiaaCod1
import Derived.Test.YtpnmedmghncpiaaCod2
import Derived.Test.YtpnmedmghncpiaaCod3
import Derived.Test.YtpnmedmghncpiaaMod
import Derived.Test.YtpnmedmghncpiaaEnc
import Derived.Test.YtpnmedmghncpiaaMods
import Derived.Test.YtpnmedmghncpiaaEncAt
import Derived.Test.YtpnmedmghncpiaaPut
-- needs: Aid HandAid Cod1 Cod2 Cod3 Mod Enc Mods EncAt Put
-- print: incunableref02_Interval_Part incunableref02_Interval_Fixed incunableref02_Interval_Shifted incunableref02_Interval_Mid incunableref02_Whole incunableref02_Copy
namespace Go.Proofs.Ytpnmedmghncpiaa.RefAt
open Go Go.RowKit Go.Proofs.YtpnmedmghncpiaaW.PrintWords Go.Proofs.YtpnmedmghncpiaaW.PrintLast Go.Proofs.YtpnmedmghncpiaaW.PrintMore Go.Proofs.Ytpnmedmghncpiaa.Aid Go.Proofs.Ytpnmedmghncpiaa.HandAid Go.Proofs.Ytpnmedmghncpiaa.Cod1 Go.Proofs.Ytpnmedmghncpiaa.Cod2 Go.Proofs.Ytpnmedmghncpiaa.Cod3 Go.Proofs.Ytpnmedmghncpiaa.Mod Go.Proofs.Ytpnmedmghncpiaa.Enc Go.Proofs.Ytpnmedmghncpiaa.Mods Go.Proofs.Ytpnmedmghncpiaa.EncAt Go.Proofs.Ytpnmedmghncpiaa.Put Go.Proofs.Ytpnmedmghncpiaa.PCoderShort
set_option linter.unusedVariables false
set_option linter.unusedSimpArgs false
/-- The reference's encoder: its cells. -/
def ref5 (kind : Int) (v : Value) (low high : Int) (o : Value) : Array Value := #[.int .i64 kind, v, .int .u64 low, .int .u64 high, o]
structure RefRow (W : World) (S : Nat → Prop) (g : Nat) (kind : Int) (A : Option Addr) (c : Nat) (st : List Int) (low high : Int) (vo : Value) (out : List Int) : Prop where
  b : W.heap[g]? = some (.cells (ref5 kind (.slice A st.length c) low high vo) 85 (0, 0))
  s : Kd.R (Kd.int .i64) 3 W 0 S (.slice A st.length c) st
  o : Kd.R (Kd.int .u8) 5 W 0 S vo out
  g : S g
section
variable {W W' : World} {S S' : Nat → Prop} {g : Nat} {kind : Int} {A : Option Addr} {c : Nat} {st : List Int} {low high : Int} {vo : Value} {out : List Int}
theorem RefRow.kept (h : RefRow W S g kind A c st low high vo out) (hk : Mods W W' S') (hne : ∀ k, S k → ¬ S' k) : RefRow W' S g kind A c st low high vo out :=
  ⟨blk_kept h.b hk.kept (hne g h.g), Kd.R_kept h.s hk.kept hne, Kd.R_kept h.o hk.kept hne, h.g⟩
theorem RefRow.below (h : RefRow W S g kind A c st low high vo out) (hb : Below W.heap.size W W') : RefRow W' S g kind A c st low high vo out :=
  ⟨blk_below h.b hb, Kd.R_below h.s hb, Kd.R_below h.o hb, h.g⟩
theorem RefRow.drewN (h : RefRow W S g kind A c st low high vo out) (m : Nat) : RefRow (W.drewN m) S g kind A c st low high vo out := h.below (pw_below_drewN (Below.refl _ _) m)
theorem RefRow.drew (h : RefRow W S g kind A c st low high vo out) : RefRow W.drew S g kind A c st low high vo out := h.below (below_drew (Below.refl _ _))
theorem RefRow.mono (h : RefRow W S g kind A c st low high vo out) (hs : ∀ k, S k → S' k) : RefRow W S' g kind A c st low high vo out :=
  ⟨h.b, Kd.R_mono h.s hs, Kd.R_mono h.o hs, hs g h.g⟩
theorem RefRow.bound (h : RefRow W S g kind A c st low high vo out) : RefRow W (fun k => S k ∧ k < W.heap.size) g kind A c st low high vo out :=
  ⟨h.b, Kd.R_mono (Kd.R_bound h.s) (fun _ hk => ⟨hk.1, hk.2.2.1⟩), Kd.R_mono (Kd.R_bound h.o) (fun _ hk => ⟨hk.1, hk.2.2.1⟩), h.g, blk_lt h.b⟩
theorem RefRow.c0 (h : RefRow W S g kind A c st low high vo out) : W.cell? ⟨g, 0, none⟩ = some (.int .i64 kind) := (blk_cell h.b 0).trans rfl
theorem RefRow.c1 (h : RefRow W S g kind A c st low high vo out) : W.cell? ⟨g, 1, none⟩ = some (.slice A st.length c) := (blk_cell h.b 1).trans rfl
theorem RefRow.c2 (h : RefRow W S g kind A c st low high vo out) : W.cell? ⟨g, 2, none⟩ = some (.int .u64 low) := (blk_cell h.b 2).trans rfl
theorem RefRow.c3 (h : RefRow W S g kind A c st low high vo out) : W.cell? ⟨g, 3, none⟩ = some (.int .u64 high) := (blk_cell h.b 3).trans rfl
theorem RefRow.c4 (h : RefRow W S g kind A c st low high vo out) : W.cell? ⟨g, 4, none⟩ = some vo := (blk_cell h.b 4).trans rfl
theorem RefRow.fz (h : RefRow W S g kind A c st low high vo out) (i : Nat) : W.frozen? ⟨g, i, none⟩ = false := blk_frozen h.b i
theorem RefRow.cell (h : RefRow W S g kind A c st low high vo out) {i : Nat} (hi : i < st.length) : ∃ b, A = some ⟨b, 0, none⟩ ∧ W.cell? ⟨b, i, none⟩ = some (.int .i64 (rd st i)) ∧ W.frozen? ⟨b, i, none⟩ = false ∧ b ≠ g := by
  obtain ⟨b, cap, hv, _, _, cells, hc⟩ := Kd.R_form h.s (by omega)
  injection hv with hA _ hcap
  subst hA hcap
  have h1 := Kd.R_cell (0 : Int) h.s (i : Int) (by omega) (by omega)
  have hne : b ≠ g := blk_ne hc h.b (by decide)
  exact ⟨b, rfl, h1.1, h1.2, hne⟩
theorem RefRow.cut (h : RefRow W S g kind A c st low high vo out) (l' h' : Int) : RefRow ((W.setCell ⟨g, 2, none⟩ (.int .u64 l')).setCell ⟨g, 3, none⟩ (.int .u64 h')) S g kind A c st l' h' vo out := by
  have h1 : (W.setCell ⟨g, 2, none⟩ (.int .u64 l')).heap[g]? = some (.cells (ref5 kind (.slice A st.length c) l' high vo) 85 (0, 0)) := blk_put h.b 2 _ rfl
  exact ⟨blk_put h1 3 _ rfl, Kd.R_set (Kd.R_set h.s h.b (by decide) _ _) h1 (by decide) _ _, Kd.R_set (Kd.R_set h.o h.b (by decide) _ _) h1 (by decide) _ _, h.g⟩
theorem RefRow.setst {b : Nat} (h : RefRow W S g kind (some ⟨b, 0, none⟩) c st low high vo out) {i : Nat} (hi : i < st.length) (x : Int) : RefRow (W.setCell ⟨b, i, none⟩ (.int .i64 x)) S g kind (some ⟨b, 0, none⟩) c (st.set i x) low high vo out := by
  obtain ⟨b', hA, _, _, hne⟩ := h.cell hi
  injection hA with hA
  injection hA with hA _ _
  subst hA
  obtain ⟨cells, hty⟩ := Kd.R_typed h.s b (by simp [Value.ownBlock])
  have hp := (Kd.R_put (enc := Value.int .i64) h.s (i : Int) x).1
  rw [Int.toNat_natCast] at hp
  have hl : (st.set i x).length = st.length := List.length_set
  refine ⟨?_, ?_, Kd.R_set h.o hty (by decide) _ _, h.g⟩
  · rw [hl]
    exact blk_far h.b (Ne.symm hne) _
  · rw [hl]
    exact hp
theorem RefRow.grew {v1 : Value} {out1 : List Int} (h : RefRow W S g kind A c st low high vo out) (hg : W.grownBy W' vo.ownBlock) (hR : Kd.R (Kd.int .u8) 5 W' 0 S v1 out1) : RefRow (W'.setCell ⟨g, 4, none⟩ v1) S g kind A c st low high v1 out1 := by
  have hb : W'.heap[g]? = some (.cells (ref5 kind (.slice A st.length c) low high vo) 85 (0, 0)) := blk_grown h.b hg (Kd.R_ne h.o h.b (by decide))
  have hs := Kd.R_over h.s h.o (by decide) hg
  exact ⟨blk_put hb 4 _ rfl, Kd.R_set hs hb (by decide) _ _, Kd.R_set hR hb (by decide) _ _, h.g⟩
end
def RefAt (W : World) (S : Nat → Prop) (g : Nat) (s : ES) : Prop := ∃ A c vo, RefRow W S g s.kind A c s.st s.low s.high vo s.out
theorem RefAt.kept {W W' : World} {S S' : Nat → Prop} {g : Nat} {s : ES} (h : RefAt W S g s) (hk : Mods W W' S') (hne : ∀ k, S k → ¬ S' k) : RefAt W' S g s := by
  obtain ⟨A, c, vo, h⟩ := h
  exact ⟨A, c, vo, h.kept hk hne⟩
theorem RefAt.below {W W' : World} {S : Nat → Prop} {g : Nat} {s : ES} (h : RefAt W S g s) (hb : Below W.heap.size W W') : RefAt W' S g s := by
  obtain ⟨A, c, vo, h⟩ := h
  exact ⟨A, c, vo, h.below hb⟩
theorem RefAt.mono {W : World} {S S' : Nat → Prop} {g : Nat} {s : ES} (h : RefAt W S g s) (hs : ∀ k, S k → S' k) : RefAt W S' g s := by
  obtain ⟨A, c, vo, h⟩ := h
  exact ⟨A, c, vo, h.mono hs⟩
theorem RefAt.bound {W : World} {S : Nat → Prop} {g : Nat} {s : ES} (h : RefAt W S g s) : RefAt W (fun k => S k ∧ k < W.heap.size) g s := by
  obtain ⟨A, c, vo, h⟩ := h
  exact ⟨A, c, vo, h.bound⟩
theorem u64_id {x : Int} (h : 0 ≤ x) (h' : x < 18446744073709551616) : IntKind.u64.wrap x = x := wraps_u64 x h (by omega)
theorem mid_eq (low high p : Int) (h0 : 0 ≤ low) (h1 : low ≤ high) (h2 : high ≤ 4294967295) (h3 : 1 ≤ p) (h4 : p ≤ 4095) : incunableref02_Interval_Mid.f low high p = some (midOf low high p) := by
  have ha : (high - low) / 4096 * p ≤ (high - low) / 4096 * 4095 := Int.mul_le_mul_of_nonneg_left (by omega) (by omega)
  have hb : (high - low) % 4096 * p ≤ (high - low) % 4096 * 4095 := Int.mul_le_mul_of_nonneg_left (by omega) (by omega)
  have hc : 0 ≤ (high - low) / 4096 * p := Int.mul_nonneg (by omega) (by omega)
  have hd : 0 ≤ (high - low) % 4096 * p := Int.mul_nonneg (by omega) (by omega)
  unfold incunableref02_Interval_Mid.f midOf
  rw [u64_id (x := high - low) (by omega) (by omega), Int.tdiv_eq_ediv_of_nonneg (by omega), Int.tmod_eq_emod_of_nonneg (by omega), u64_id (x := p) (by omega) (by omega), u64_id (x := (high - low) / 4096) (by omega) (by omega), u64_id (x := (high - low) / 4096 * p) hc (by omega), u64_id (x := (high - low) % 4096 * p) hd (by omega), Int.tdiv_eq_ediv_of_nonneg hd, u64_id (x := (high - low) % 4096 * p / 4096) (by omega) (by omega), u64_id (x := low + (high - low) / 4096 * p) (by omega) (by omega), u64_id (by omega) (by omega)]
theorem part_eq (low high p bit : Int) (h0 : 0 ≤ low) (h1 : low ≤ high) (h2 : high ≤ 4294967295) (h3 : 1 ≤ p) (h4 : p ≤ 4095) : incunableref02_Interval_Part.f low high p bit = some (cutL low (midOf low high p) bit, cutH high (midOf low high p) bit) := by
  have hm := mid_range low high p h1 h3 h4
  unfold incunableref02_Interval_Part.f cutL cutH
  rw [mid_eq low high p h0 h1 h2 h3 h4]
  simp only [Option.bind_some]
  by_cases c : bit = 1
  · rw [if_pos c, if_pos c, if_pos c]
  · rw [if_neg c, if_neg c, if_neg c, u64_id (by omega) (by omega)]
theorem part_calls (low high p bit : Int) (w : World) (h0 : 0 ≤ low) (h1 : low ≤ high) (h2 : high ≤ 4294967295) (h3 : 1 ≤ p) (h4 : p ≤ 4095) : Calls Try.prog 54 #[.agg #[.int .u64 low, .int .u64 high], .int .i64 p, .int .i64 bit] w fun e w' => e = .returned (.agg #[.int .u64 (cutL low (midOf low high p) bit), .int .u64 (cutH high (midOf low high p) bit)]) ∧ Below w.heap.size w w' :=
  incunableref02_Interval_Part.calls low high p bit _ _ w (part_eq low high p bit h0 h1 h2 h3 h4)
theorem fixed_calls (low high : Int) (w : World) : Calls Try.prog 55 #[.agg #[.int .u64 low, .int .u64 high]] w fun e w' => e = .returned (.bool (decide (low / 16777216 = high / 16777216))) ∧ Below w.heap.size w w' :=
  incunableref02_Interval_Fixed.calls low high _ w rfl
theorem shift_calls (low high : Int) (w : World) (h0 : 0 ≤ low) (h1 : low ≤ 4294967295) (h2 : 0 ≤ high) (h3 : high ≤ 4294967295) : Calls Try.prog 56 #[.agg #[.int .u64 low, .int .u64 high]] w fun e w' => e = .returned (.agg #[.int .u64 (low % 16777216 * 256), .int .u64 (high % 16777216 * 256 + 255)]) ∧ Below w.heap.size w w' :=
  incunableref02_Interval_Shifted.calls low high _ _ w (by
    unfold incunableref02_Interval_Shifted.f
    rw [Int.tmod_eq_emod_of_nonneg h0, Int.tmod_eq_emod_of_nonneg h2, u64_id (x := low % 16777216 * 256) (by omega) (by omega), u64_id (x := high % 16777216 * 256) (by omega) (by omega), u64_id (by omega) (by omega)])
theorem likelyB (kind s : Int) (w : World) (hs : okState kind s) : Calls Try.prog 32 #[.int .i64 kind, .int .i64 s] w fun e w' => e = .returned (.int .i64 (likely kind s)) ∧ Below w.heap.size w w' :=
  (ref_likely kind s w hs).mono (fun e w' h => ⟨h.1, h.2 ▸ Below.refl _ _⟩)
end Go.Proofs.Ytpnmedmghncpiaa.RefAt
