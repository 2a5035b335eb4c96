import Derived.Test.YtlnhahnnjbfjdaaMNumberGets1
import Derived.Test.YtlnhahnnjbfjdaaMNumberGets2
import Derived.Laws.ResultCell
import Derived.RegionTactic
import Derived.ChangeAlike
import Derived.BigRegion
import Derived.Deep.RegionWith
import Derived.IntWalk
set_option linter.unusedVariables false
set_option linter.unusedSimpArgs false
namespace Go.Proofs.Ytlnhahnnjbfjdaa.RDec
open Go Go.RowKit Go.Proofs.YtlnhahnnjbfjdaaW.PrintWords Go.Proofs.YtlnhahnnjbfjdaaW.PrintLast Go.Proofs.YtlnhahnnjbfjdaaW.PrintMore Go.Proofs.Ytlnhahnnjbfjdaa.Aid Go.Proofs.Ytlnhahnnjbfjdaa.HandAid Go.Proofs.Ytlnhahnnjbfjdaa.Cod1 Go.Proofs.Ytlnhahnnjbfjdaa.Cod2 Go.Proofs.Ytlnhahnnjbfjdaa.Cod3 Go.Proofs.Ytlnhahnnjbfjdaa.Mod Go.Proofs.Ytlnhahnnjbfjdaa.Enc Go.Proofs.Ytlnhahnnjbfjdaa.Mods Go.Proofs.Ytlnhahnnjbfjdaa.EncAt Go.Proofs.Ytlnhahnnjbfjdaa.Put Go.Proofs.Ytlnhahnnjbfjdaa.End Go.Proofs.Ytlnhahnnjbfjdaa.Snc Go.Proofs.Ytlnhahnnjbfjdaa.RefAt Go.Proofs.Ytlnhahnnjbfjdaa.Dec Go.Proofs.Ytlnhahnnjbfjdaa.Get Go.Proofs.Ytlnhahnnjbfjdaa.U
attribute [local go_sem low] max2_int
attribute [local go_sem] min2_int max_two min_two
theorem max_sub (k n : Nat) : Builtin.max2 (.int .i64 0) (.int .i64 ((k : Int) - (n : Int))) = pure (.int .i64 ((k - n : Nat) : Int)) := by
  rw [max2_int]
  congr 2
  split <;> omega
attribute [local go_sem high] max_sub
/-- The reference's decoder: its cells. -/
def dec9 (kind : Int) (v : Value) (low high : Int) (vc : Value) (a value be : Int) (ended : Bool) : Array Value := #[.int .i64 kind, v, .int .u64 low, .int .u64 high, vc, .int .i64 a, .int .u64 value, .int .i64 be, .bool ended]
structure RDecRow (W : World) (S : Nat → Prop) (g : Nat) (kind : Int) (A : Option Addr) (c : Nat) (st : List Int) (low high : Int) (vc : Value) (code : List Int) (a value be : Int) (ended : Bool) : Prop where
  b : W.heap[g]? = some (.cells (dec9 kind (.slice A st.length c) low high vc a value be ended) 104 (0, 0))
  s : Kd.R (Kd.int .i64) 3 W 0 S (.slice A st.length c) st
  o : Kd.R (Kd.int .u8) 5 W 0 S vc code
  g : S g
section
variable {W W' : World} {S S' : Nat → Prop} {g : Nat} {kind : Int} {A : Option Addr} {c : Nat} {st : List Int} {low high : Int} {vc : Value} {code : List Int} {a value be : Int} {ended : Bool}
theorem RDecRow.kept (h : RDecRow W S g kind A c st low high vc code a value be ended) (hk : Mods W W' S') (hne : ∀ k, S k → ¬ S' k) : RDecRow W' S g kind A c st low high vc code a value be ended :=
  ⟨blk_kept h.b hk.kept (hne g h.g), Kd.R_kept h.s hk.kept hne, Kd.R_kept h.o hk.kept hne, h.g⟩
theorem RDecRow.below (h : RDecRow W S g kind A c st low high vc code a value be ended) (hb : Below W.heap.size W W') : RDecRow W' S g kind A c st low high vc code a value be ended :=
  ⟨blk_below h.b hb, Kd.R_below h.s hb, Kd.R_below h.o hb, h.g⟩
theorem RDecRow.drewN (h : RDecRow W S g kind A c st low high vc code a value be ended) (m : Nat) : RDecRow (W.drewN m) S g kind A c st low high vc code a value be ended := h.below (pw_below_drewN (Below.refl _ _) m)
theorem RDecRow.drew (h : RDecRow W S g kind A c st low high vc code a value be ended) : RDecRow W.drew S g kind A c st low high vc code a value be ended := h.below (below_drew (Below.refl _ _))
theorem RDecRow.mono (h : RDecRow W S g kind A c st low high vc code a value be ended) (hs : ∀ k, S k → S' k) : RDecRow W S' g kind A c st low high vc code a value be ended :=
  ⟨h.b, Kd.R_mono h.s hs, Kd.R_mono h.o hs, hs g h.g⟩
theorem RDecRow.c0 (h : RDecRow W S g kind A c st low high vc code a value be ended) : W.cell? ⟨g, 0, none⟩ = some (.int .i64 kind) := (blk_cell h.b 0).trans rfl
theorem RDecRow.c1 (h : RDecRow W S g kind A c st low high vc code a value be ended) : W.cell? ⟨g, 1, none⟩ = some (.slice A st.length c) := (blk_cell h.b 1).trans rfl
theorem RDecRow.c2 (h : RDecRow W S g kind A c st low high vc code a value be ended) : W.cell? ⟨g, 2, none⟩ = some (.int .u64 low) := (blk_cell h.b 2).trans rfl
theorem RDecRow.c3 (h : RDecRow W S g kind A c st low high vc code a value be ended) : W.cell? ⟨g, 3, none⟩ = some (.int .u64 high) := (blk_cell h.b 3).trans rfl
theorem RDecRow.c4 (h : RDecRow W S g kind A c st low high vc code a value be ended) : W.cell? ⟨g, 4, none⟩ = some vc := (blk_cell h.b 4).trans rfl
theorem RDecRow.c5 (h : RDecRow W S g kind A c st low high vc code a value be ended) : W.cell? ⟨g, 5, none⟩ = some (.int .i64 a) := (blk_cell h.b 5).trans rfl
theorem RDecRow.c6 (h : RDecRow W S g kind A c st low high vc code a value be ended) : W.cell? ⟨g, 6, none⟩ = some (.int .u64 value) := (blk_cell h.b 6).trans rfl
theorem RDecRow.c7 (h : RDecRow W S g kind A c st low high vc code a value be ended) : W.cell? ⟨g, 7, none⟩ = some (.int .i64 be) := (blk_cell h.b 7).trans rfl
theorem RDecRow.c8 (h : RDecRow W S g kind A c st low high vc code a value be ended) : W.cell? ⟨g, 8, none⟩ = some (.bool ended) := (blk_cell h.b 8).trans rfl
theorem RDecRow.fz (h : RDecRow W S g kind A c st low high vc code a value be ended) (i : Nat) : W.frozen? ⟨g, i, none⟩ = false := blk_frozen h.b i
theorem RDecRow.cell (h : RDecRow W S g kind A c st low high vc code a value be ended) {i : Nat} (hi : i < st.length) : ∃ b, A = some ⟨b, 0, none⟩ ∧ W.cell? ⟨b, i, none⟩ = some (.int .i64 (rd st i)) ∧ W.frozen? ⟨b, i, none⟩ = false ∧ b ≠ g := by
  obtain ⟨b, cap, hv, _, _, cells, hc⟩ := Kd.R_form h.s (by omega)
  injection hv with hA _ hcap
  subst hA hcap
  have h1 := Kd.R_cell (0 : Int) h.s (i : Int) (by omega) (by omega)
  have hne : b ≠ g := blk_ne hc h.b (by decide)
  exact ⟨b, rfl, h1.1, h1.2, hne⟩
theorem RDecRow.put (h : RDecRow W S g kind A c st low high vc code a value be ended) (j : Nat) (u : Value) {kind' low' high' a' value' be' : Int} {ended' : Bool} (e : (dec9 kind (.slice A st.length c) low high vc a value be ended).setIfInBounds j u = dec9 kind' (.slice A st.length c) low' high' vc a' value' be' ended') : RDecRow (W.setCell ⟨g, j, none⟩ u) S g kind' A c st low' high' vc code a' value' be' ended' :=
  ⟨blk_put h.b j u e, Kd.R_set h.s h.b (by decide) _ _, Kd.R_set h.o h.b (by decide) _ _, h.g⟩
theorem RDecRow.setst {b : Nat} (h : RDecRow W S g kind (some ⟨b, 0, none⟩) c st low high vc code a value be ended) {i : Nat} (hi : i < st.length) (x : Int) : RDecRow (W.setCell ⟨b, i, none⟩ (.int .i64 x)) S g kind (some ⟨b, 0, none⟩) c (st.set i x) low high vc code a value be ended := by
  obtain ⟨b', hA, _, _, hne⟩ := h.cell hi
  injection hA with hA
  injection hA with hA _ _
  subst hA
  obtain ⟨cells, hty⟩ := Kd.R_typed h.s b (by simp [Value.ownBlock])
  have hp := (Kd.R_put (enc := Value.int .i64) h.s (i : Int) x).1
  rw [Int.toNat_natCast] at hp
  have hl : (st.set i x).length = st.length := List.length_set
  refine ⟨?_, ?_, Kd.R_set h.o hty (by decide) _ _, h.g⟩
  · rw [hl]
    exact blk_far h.b (Ne.symm hne) _
  · rw [hl]
    exact hp
/-- A write in another block. -/
theorem RDecRow.far (h : RDecRow W S g kind A c st low high vc code a value be ended) {p : Addr} (hp : ¬ S p.block) (u : Value) : RDecRow (W.setCell p u) S g kind A c st low high vc code a value be ended :=
  h.kept ((Mods.refl W (fun k => k = p.block)).setCell (.inl rfl) u) (fun k hk he => hp (he ▸ hk))
end
theorem byte_calls (Ac : Option Addr) (cc : Nat) (code : List Int) (i : Nat) (w : World) (hC : Kd.C (Kd.int .u8) w Ac code.length code) (hby : Bytes code) :
    Calls Try.prog 55 #[.slice Ac code.length cc, .int .i64 i] w fun e w' => e = .returned (.int .u64 (Dec.byteOf code i)) ∧ w = w' := by
  have HBY := Aside0.mk hby
  clear hby
  by_cases hlt : i < code.length
  · have hb : Dec.byteOf code i = rd code i := if_pos hlt
    obtain ⟨ad, hA, hx⟩ := Kd.at_int hC (i : Int) (by omega) (by omega)
    subst hA
    rw [Int.toNat_natCast] at hx
    have hr := byteOf_range HBY.out i
    rw [hb] at hr
    have hi : (i : Int) < (code.length : Int) := by omega
    have HBB := Aside0.mk hb
    clear hlt hb hC
    go_enter Try.func55, Try.ntmps55
    go_wp2
    go_ret
    exact ⟨by rw [HBB.out]; rfl, rfl⟩
  · have hb : Dec.byteOf code i = 0 := if_neg hlt
    have hi : ¬ (i : Int) < (code.length : Int) := by omega
    have HBB := Aside0.mk hb
    clear hlt hb hC
    go_enter Try.func55, Try.ntmps55
    go_wp2
    go_ret
    exact ⟨by rw [HBB.out]; rfl, rfl⟩
theorem rmid_calls (low high p : Int) (w : World) (h0 : 0 ≤ low) (h1 : low ≤ high) (h2 : high ≤ 4294967295) (h3 : 1 ≤ p) (h4 : p ≤ 4095) : Calls Try.prog 78 #[.agg #[.int .u64 low, .int .u64 high], .int .i64 p] w fun e w' => e = .returned (.int .u64 (midOf low high p)) ∧ Below w.heap.size w w' :=
  incunableref02_Interval_Mid.calls low high p _ w (mid_eq low high p h0 h1 h2 h3 h4)
/-- What a Get that takes a bit leaves. -/
def RGetPost (w : World) (S : Nat → Prop) (g : Nat) (kind : Int) (b c : Nat) (st : List Int) (low high mid : Int) (vc : Value) (code : List Int) (a : Nat) (value : Int) (i : Nat) (bit : Int) (e : Ending) (w' : World) : Prop :=
  (∃ l h n, normE 4 (cutL low mid bit) (cutH high mid bit) = (n, l, h) ∧ ((a + n.length - code.length > 4 ∧ e = .returned (.tuple #[.int .i64 0, .int .i64 6]) ∧ RDecRow w' S g kind (some ⟨b, 0, none⟩) c st low high vc code a value ((a - code.length : Nat) : Int) true) ∨ (¬ a + n.length - code.length > 4 ∧ e = .returned (.tuple #[.int .i64 bit, .int .i64 0]) ∧ RDecRow w' S g kind (some ⟨b, 0, none⟩) c (st.set i (after kind (rd st i) bit)) l h vc code ((a + n.length : Nat) : Int) (shV code n.length value a) ((a + n.length - code.length : Nat) : Int) false))) ∧ Mods w w' S
set_option maxHeartbeats 4000000 in
set_option maxRecDepth 100000 in
theorem rget_row0 (w : World) (S : Nat → Prop) (g : Nat) (kind : Int) (b c : Nat) (st : List Int) (low high mid : Int) (vc : Value) (code : List Int) (a : Nat) (value : Int) (i : Nat) (hE : RDecRow w S g kind (some ⟨b, 0, none⟩) c st low high vc code a value ((a - code.length : Nat) : Int) false) (hSb : ∀ k, S k → k < w.heap.size) (hi : i < st.length) (hn : st.length ≤ 8192) (hs : okState kind (rd st i)) (hl0 : 0 ≤ low) (hlh : low ≤ high) (hh : high ≤ 4294967295) (hmid : midOf low high (likely kind (rd st i)) = mid) (hm0 : 0 ≤ mid) (hm1 : mid ≤ 4294967295) (hI0 : PutInv [] (cutL low mid 0) (cutH high mid 0) 4 (cutL low mid 0) (cutH high mid 0) []) (hv0 : 0 ≤ value) (hv1 : value ≤ 4294967295) (hby : Bytes code) (hlen : code.length ≤ 1099511627776) (ha : a - code.length ≤ 4) (hvb : ¬ value ≤ mid) :
    Calls Try.prog 61 #[.pointer (some ⟨g, 0, none⟩), .int .i64 i] w (RGetPost w S g kind b c st low high mid vc code a value i 0) := by
  have HE := Aside0.mk hE
  have hSg : S g := hE.g
  have hSb2 : S b := hE.s.1 b (by simp [Value.ownBlock])
  obtain ⟨Ac, cc, hvc⟩ := Kd.R_slice hE.o
  subst hvc
  have k0 := hE.c0
  have k1 := hE.c1
  have k8 := hE.c8
  have ks : w.cell? ⟨b, i, none⟩ = some (.int .i64 (rd st i)) := by obtain ⟨b', hA, hc, _⟩ := hE.cell hi; cases hA; exact hc
  have hlk := likely_range kind (rd st i) hs
  have HMID := fun W => Aside0.mk (hmid ▸ rmid_calls low high (likely kind (rd st i)) W hl0 hlh hh hlk.1 hlk.2)
  have HP := fun W => Aside0.mk (hmid ▸ part_calls low high (likely kind (rd st i)) 0 W hl0 hlh hh hlk.1 hlk.2)
  have HI := Aside0.mk hI0
  have HBY := Aside0.mk hby
  have HSB := Aside0.mk hSb
  have hu := Try.underlying101
  clear hE hmid hI0 hby hSb
  have hi1 : (0 : Int) ≤ (i : Int) := by omega
  have hi2 : (i : Int) < (st.length : Int) := by omega
  go_enter Try.func61, Try.ntmps61
  go_wp2
  refine start_ (n := 15) (S := fun w' => w'.cell? ⟨g, 0, none⟩ = some (.int .i64 kind) ∧ w'.cell? ⟨g, 1, none⟩ = some (.slice (some ⟨b, 0, none⟩) st.length c) ∧ w'.cell? ⟨b, i, none⟩ = some (.int .i64 (rd st i))) (ds := []) #[false, false, false, false, false, false, false, false, false, false, false, false, false, false, false] (by kernel_rfl) rfl rfl ⟨k0, k1, ks⟩ (fun hHeld => ?_)
  refine pure_ (i := 0) (N := some 30) (v := ?_) (a' := ?_) #[true, false, false, false, false, false, false, false, false, false, false, false, false, false, false] rfl rfl (by kernel_rfl) (fun _ _ _ h => h) (Or.inl ⟨by rfl, ?_⟩) ?_ ?_
  rotate_left
  · intro w'
    go_simp
    with_reducible rfl
  rotate_left
  · simp only [Act.put, List.setIfInBounds_toArray, List.set_cons_zero, List.set_cons_succ, i64_w, i32_w]
    rfl
  refine pure_ (i := 1) (N := some 31) (v := ?_) (a' := ?_) #[true, true, false, false, false, false, false, false, false, false, false, false, false, false, false] rfl rfl (by kernel_rfl) (fun _ _ _ h => h) (Or.inl ⟨by rfl, ?_⟩) ?_ ?_
  rotate_left
  · intro w'
    go_simp
    with_reducible rfl
  rotate_left
  · simp only [Act.put, List.setIfInBounds_toArray, List.set_cons_zero, List.set_cons_succ, i64_w, i32_w]
    rfl
  refine pure_ (i := 2) (N := some 32) (v := ?_) (a' := ?_) #[true, true, true, false, false, false, false, false, false, false, false, false, false, false, false] rfl rfl (by kernel_rfl) (fun _ _ _ h => h) (Or.inl ⟨by rfl, ?_⟩) ?_ ?_
  rotate_left
  · intro w'
    go_simp
    with_reducible rfl
  rotate_left
  · simp only [Act.put, List.setIfInBounds_toArray, List.set_cons_zero, List.set_cons_succ, i64_w, i32_w]
    rfl
  refine pure_ (i := 3) (N := some 33) (v := ?_) (a' := ?_) #[true, true, true, true, false, false, false, false, false, false, false, false, false, false, false] rfl rfl (by kernel_rfl) (fun _ _ _ h => h) (Or.inl ⟨by rfl, ?_⟩) ?_ ?_
  rotate_left
  · intro w'
    go_simp
    with_reducible rfl
  rotate_left
  · simp only [Act.put, List.setIfInBounds_toArray, List.set_cons_zero, List.set_cons_succ, i64_w, i32_w]
    rfl
  refine pure_ (i := 5) (N := some 35) (v := ?_) (a' := ?_) #[true, true, true, true, false, true, false, false, false, false, false, false, false, false, false] rfl rfl (by kernel_rfl) (fun _ _ _ h => h) (Or.inl ⟨by rfl, ?_⟩) ?_ ?_
  rotate_left
  · intro w'
    go_simp
    with_reducible rfl
  rotate_left
  · simp only [Act.put, List.setIfInBounds_toArray, List.set_cons_zero, List.set_cons_succ, i64_w, i32_w]
    rfl
  refine pure_ (i := 6) (N := some 36) (v := ?_) (a' := ?_) #[true, true, true, true, false, true, true, false, false, false, false, false, false, false, false] rfl rfl (by kernel_rfl) (fun _ _ _ h => h) (Or.inl ⟨by rfl, ?_⟩) ?_ ?_
  rotate_left
  · intro w'
    go_simp
    with_reducible rfl
  rotate_left
  · simp only [Act.put, List.setIfInBounds_toArray, List.set_cons_zero, List.set_cons_succ, i64_w, i32_w]
    rfl
  refine pure_ (i := 7) (N := some 37) (v := ?_) (a' := ?_) #[true, true, true, true, false, true, true, true, false, false, false, false, false, false, false] rfl rfl (by kernel_rfl) (fun _ _ _ h => h) (Or.inl ⟨by rfl, ?_⟩) ?_ ?_
  rotate_left
  · intro w'
    go_simp
    with_reducible rfl
  rotate_left
  · simp only [Act.put, List.setIfInBounds_toArray, List.set_cons_zero, List.set_cons_succ, i64_w, i32_w]
    rfl
  refine pure_ (i := 8) (N := some 38) (v := ?_) (a' := ?_) #[true, true, true, true, false, true, true, true, true, false, false, false, false, false, false] rfl rfl (by kernel_rfl) (fun _ _ _ h => h) (Or.inl ⟨by rfl, ?_⟩) ?_ ?_
  rotate_left
  · intro w'
    go_simp
    with_reducible rfl
  rotate_left
  · simp only [Act.put, List.setIfInBounds_toArray, List.set_cons_zero, List.set_cons_succ, i64_w, i32_w]
    rfl
  refine pure_ (i := 10) (N := some 40) (v := ?_) (a' := ?_) #[true, true, true, true, false, true, true, true, true, false, true, false, false, false, false] rfl rfl (by kernel_rfl) (fun _ _ _ h => h) (Or.inl ⟨by rfl, ?_⟩) ?_ ?_
  rotate_left
  · intro w'
    go_simp
    with_reducible rfl
  rotate_left
  · simp only [Act.put, List.setIfInBounds_toArray, List.set_cons_zero, List.set_cons_succ, i64_w, i32_w]
    rfl
  refine take_ (i := 4) (N := some 34) (v := ?_) (a' := ?_) #[true, true, true, true, true, true, true, true, true, false, true, false, false, false, false] rfl rfl (by kernel_rfl) (fun _ _ _ h => h) (Or.inl ⟨by rfl, ?_⟩) hHeld ?_ ?_
  rotate_left
  · rintro w' ⟨s0, s1, s2⟩
    go_simp
    with_reducible rfl
  rotate_left
  · simp only [Act.put, List.setIfInBounds_toArray, List.set_cons_zero, List.set_cons_succ, i64_w, i32_w]
    rfl
  refine take_ (i := 9) (N := some 39) (v := ?_) (a' := ?_) #[true, true, true, true, true, true, true, true, true, true, true, false, false, false, false] rfl rfl (by kernel_rfl) (fun _ _ _ h => h) (Or.inl ⟨by rfl, ?_⟩) hHeld ?_ ?_
  rotate_left
  · rintro w' ⟨s0, s1, s2⟩
    go_simp
    with_reducible rfl
  rotate_left
  · simp only [Act.put, List.setIfInBounds_toArray, List.set_cons_zero, List.set_cons_succ, i64_w, i32_w]
    rfl
  refine pure_ (i := 11) (N := some 41) (v := ?_) (a' := ?_) #[true, true, true, true, true, true, true, true, true, true, true, true, false, false, false] rfl rfl (by kernel_rfl) (fun _ _ _ h => h) (Or.inl ⟨by rfl, ?_⟩) ?_ ?_
  rotate_left
  · intro w'
    go_simp
    with_reducible rfl
  rotate_left
  · simp only [Act.put, List.setIfInBounds_toArray, List.set_cons_zero, List.set_cons_succ, i64_w, i32_w]
    rfl
  refine take_ (i := 12) (N := some 42) (v := ?_) (a' := ?_) #[true, true, true, true, true, true, true, true, true, true, true, true, true, false, false] rfl rfl (by kernel_rfl) (fun _ _ _ h => h) (Or.inl ⟨by rfl, ?_⟩) hHeld ?_ ?_
  rotate_left
  · rintro w' ⟨s0, s1, s2⟩
    go_simp
    with_reducible rfl
  rotate_left
  · simp only [Act.put, List.setIfInBounds_toArray, List.set_cons_zero, List.set_cons_succ, i64_w, i32_w]
    rfl
  refine one_ (i := 13) (N := some 43) #[true, true, true, true, true, true, true, true, true, true, true, true, true, true, false] rfl rfl (by kernel_rfl) (by decide) (fun K hK => ?_)
  refine goes_ Try.func77 (by kernel_rfl) rfl #[.int .i64 kind, .int .i64 (rd st i)] (by rfl) rfl rfl (by simp only [List.map_toArray, List.map_cons, List.map_nil]; rfl) ?_
  with_reducible refine (likelyB kind (rd st i) _ hs).mono ?_
  rintro e w3 ⟨rfl, hb3⟩
  refine ⟨_, rfl, ?_⟩
  have hb3' := below_undrew1 hb3
  have HE3 := Aside0.mk (HE.out.below hb3')
  have HM3 := Aside0.mk ((Mods.refl w S).below hb3')
  clear hb3 hb3'
  refine hK.out _ _ ⟨HE3.out.c0, HE3.out.c1, by obtain ⟨b', hA, hc, _⟩ := HE3.out.cell hi; cases hA; exact hc⟩ (fun hHeld => ?_)
  clear hK K
  refine norm_ (a' := ?_) ?_ ?_
  rotate_left
  · show Act.put _ (some 43) _ = _
    simp only [Act.put, List.setIfInBounds_toArray, List.set_cons_zero, List.set_cons_succ, i64_w, i32_w]
    rfl
  refine pure_ (i := 14) (N := some 6) (v := ?_) (a' := ?_) #[true, true, true, true, true, true, true, true, true, true, true, true, true, true, true] rfl rfl (by kernel_rfl) (fun _ _ _ h => h) (Or.inl ⟨by rfl, ?_⟩) ?_ ?_
  rotate_left
  · intro w'
    go_simp
    with_reducible rfl
  rotate_left
  · simp only [Act.put, List.setIfInBounds_toArray, List.set_cons_zero, List.set_cons_succ, i64_w, i32_w]
    rfl
  refine done_ (by kernel_rfl) ?_
  clear k0 k1 ks k8 HE
  go_wp2
  have HE3 := Aside0.mk HE3.out.drew
  have HM3 := Aside0.mk HM3.out.drew
  have k2 := HE3.out.c2
  have k3 := HE3.out.c3
  have k6 := HE3.out.c6
  refine start_ (n := 11) (S := fun w' => w'.cell? ⟨g, 2, none⟩ = some (.int .u64 low) ∧ w'.cell? ⟨g, 3, none⟩ = some (.int .u64 high) ∧ w'.cell? ⟨g, 6, none⟩ = some (.int .u64 value)) (ds := []) #[false, false, false, false, false, false, false, false, false, false, false] (by kernel_rfl) rfl rfl ⟨k2, k3, k6⟩ (fun hHeld => ?_)
  refine pure_ (i := 0) (N := some 44) (v := ?_) (a' := ?_) #[true, false, false, false, false, false, false, false, false, false, false] rfl rfl (by kernel_rfl) (fun _ _ _ h => h) (Or.inl ⟨by rfl, ?_⟩) ?_ ?_
  rotate_left
  · intro w'
    go_simp
    with_reducible rfl
  rotate_left
  · simp only [Act.put, List.setIfInBounds_toArray, List.set_cons_zero, List.set_cons_succ, i64_w, i32_w]
    rfl
  refine pure_ (i := 1) (N := some 45) (v := ?_) (a' := ?_) #[true, true, false, false, false, false, false, false, false, false, false] rfl rfl (by kernel_rfl) (fun _ _ _ h => h) (Or.inl ⟨by rfl, ?_⟩) ?_ ?_
  rotate_left
  · intro w'
    go_simp
    with_reducible rfl
  rotate_left
  · simp only [Act.put, List.setIfInBounds_toArray, List.set_cons_zero, List.set_cons_succ, i64_w, i32_w]
    rfl
  refine pure_ (i := 2) (N := some 46) (v := ?_) (a' := ?_) #[true, true, true, false, false, false, false, false, false, false, false] rfl rfl (by kernel_rfl) (fun _ _ _ h => h) (Or.inl ⟨by rfl, ?_⟩) ?_ ?_
  rotate_left
  · intro w'
    go_simp
    with_reducible rfl
  rotate_left
  · simp only [Act.put, List.setIfInBounds_toArray, List.set_cons_zero, List.set_cons_succ, i64_w, i32_w]
    rfl
  refine pure_ (i := 4) (N := some 48) (v := ?_) (a' := ?_) #[true, true, true, false, true, false, false, false, false, false, false] rfl rfl (by kernel_rfl) (fun _ _ _ h => h) (Or.inl ⟨by rfl, ?_⟩) ?_ ?_
  rotate_left
  · intro w'
    go_simp
    with_reducible rfl
  rotate_left
  · simp only [Act.put, List.setIfInBounds_toArray, List.set_cons_zero, List.set_cons_succ, i64_w, i32_w]
    rfl
  refine pure_ (i := 5) (N := some 49) (v := ?_) (a' := ?_) #[true, true, true, false, true, true, false, false, false, false, false] rfl rfl (by kernel_rfl) (fun _ _ _ h => h) (Or.inl ⟨by rfl, ?_⟩) ?_ ?_
  rotate_left
  · intro w'
    go_simp
    with_reducible rfl
  rotate_left
  · simp only [Act.put, List.setIfInBounds_toArray, List.set_cons_zero, List.set_cons_succ, i64_w, i32_w]
    rfl
  refine pure_ (i := 6) (N := some 50) (v := ?_) (a' := ?_) #[true, true, true, false, true, true, true, false, false, false, false] rfl rfl (by kernel_rfl) (fun _ _ _ h => h) (Or.inl ⟨by rfl, ?_⟩) ?_ ?_
  rotate_left
  · intro w'
    go_simp
    with_reducible rfl
  rotate_left
  · simp only [Act.put, List.setIfInBounds_toArray, List.set_cons_zero, List.set_cons_succ, i64_w, i32_w]
    rfl
  refine pure_ (i := 8) (N := some 52) (v := ?_) (a' := ?_) #[true, true, true, false, true, true, true, false, true, false, false] rfl rfl (by kernel_rfl) (fun _ _ _ h => h) (Or.inl ⟨by rfl, ?_⟩) ?_ ?_
  rotate_left
  · intro w'
    go_simp
    with_reducible rfl
  rotate_left
  · simp only [Act.put, List.setIfInBounds_toArray, List.set_cons_zero, List.set_cons_succ, i64_w, i32_w]
    rfl
  refine take_ (i := 3) (N := some 47) (v := ?_) (a' := ?_) #[true, true, true, true, true, true, true, false, true, false, false] rfl rfl (by kernel_rfl) (fun _ _ _ h => h) (Or.inl ⟨by rfl, ?_⟩) hHeld ?_ ?_
  rotate_left
  · rintro w' ⟨s0, s1, s2⟩
    go_simp
    with_reducible rfl
  rotate_left
  · simp only [Act.put, List.setIfInBounds_toArray, List.set_cons_zero, List.set_cons_succ, i64_w, i32_w]
    rfl
  refine take_ (i := 7) (N := some 51) (v := ?_) (a' := ?_) #[true, true, true, true, true, true, true, true, true, false, false] rfl rfl (by kernel_rfl) (fun _ _ _ h => h) (Or.inl ⟨by rfl, ?_⟩) hHeld ?_ ?_
  rotate_left
  · rintro w' ⟨s0, s1, s2⟩
    go_simp
    with_reducible rfl
  rotate_left
  · simp only [Act.put, List.setIfInBounds_toArray, List.set_cons_zero, List.set_cons_succ, i64_w, i32_w]
    rfl
  refine one_ (i := 9) (N := some 53) #[true, true, true, true, true, true, true, true, true, true, false] rfl rfl (by kernel_rfl) (by decide) (fun K hK => ?_)
  refine goes_ Try.func78 (by kernel_rfl) rfl #[.agg #[.int .u64 low, .int .u64 high], .int .i64 (likely kind (rd st i))] (by rfl) rfl rfl (by simp only [List.map_toArray, List.map_cons, List.map_nil]; rfl) ?_
  with_reducible refine ((HMID _).out).mono ?_
  rintro e w4 ⟨rfl, hb4⟩
  refine ⟨_, rfl, ?_⟩
  have HE4 := Aside0.mk (HE3.out.below hb4)
  have HM4 := Aside0.mk (HM3.out.below hb4)
  clear hb4
  refine hK.out _ _ ⟨HE4.out.c2, HE4.out.c3, HE4.out.c6⟩ (fun hHeld => ?_)
  clear hK K
  refine norm_ (a' := ?_) ?_ ?_
  rotate_left
  · show Act.put _ (some 53) _ = _
    simp only [Act.put, List.setIfInBounds_toArray, List.set_cons_zero, List.set_cons_succ, i64_w, i32_w]
    rfl
  refine pure_ (i := 10) (N := some 54) (v := ?_) (a' := ?_) #[true, true, true, true, true, true, true, true, true, true, true] rfl rfl (by kernel_rfl) (fun _ _ _ h => h) (Or.inl ⟨by rfl, ?_⟩) ?_ ?_
  rotate_left
  · intro w'
    go_simp
    with_reducible rfl
  rotate_left
  · simp only [Act.put, List.setIfInBounds_toArray, List.set_cons_zero, List.set_cons_succ, i64_w, i32_w]
    rfl
  refine done_ (by kernel_rfl) ?_
  clear k2 k3 k6 HE3 HM3
  go_wp2
  have HE4 := Aside0.mk HE4.out.drew
  have HM4 := Aside0.mk HM4.out.drew
  have p2 := HE4.out.c2
  have p3 := HE4.out.c3
  have p5 := HE4.out.c5
  have p6 := HE4.out.c6
  refine start_ (n := 19) (S := fun w' => w'.cell? ⟨g, 2, none⟩ = some (.int .u64 low) ∧ w'.cell? ⟨g, 3, none⟩ = some (.int .u64 high) ∧ w'.cell? ⟨g, 5, none⟩ = some (.int .i64 a) ∧ w'.cell? ⟨g, 6, none⟩ = some (.int .u64 value)) (ds := []) #[false, false, false, false, false, false, false, false, false, false, false, false, false, false, false, false, false, false, false] (by kernel_rfl) rfl rfl ⟨p2, p3, p5, p6⟩ (fun hHeld => ?_)
  generalize w4.drew = wd at p2 p3 p5 p6 HE4 HM4 hHeld ⊢
  refine pure_ (i := 0) (N := some 55) (v := ?_) (a' := ?_) #[true, false, false, false, false, false, false, false, false, false, false, false, false, false, false, false, false, false, false] rfl rfl (by kernel_rfl) (fun _ _ _ h => h) (Or.inl ⟨by rfl, ?_⟩) ?_ ?_
  rotate_left
  · intro w'
    go_simp
    with_reducible rfl
  rotate_left
  · simp only [Act.put, List.setIfInBounds_toArray, List.set_cons_zero, List.set_cons_succ, i64_w, i32_w]
    rfl
  refine pure_ (i := 1) (N := some 56) (v := ?_) (a' := ?_) #[true, true, false, false, false, false, false, false, false, false, false, false, false, false, false, false, false, false, false] rfl rfl (by kernel_rfl) (fun _ _ _ h => h) (Or.inl ⟨by rfl, ?_⟩) ?_ ?_
  rotate_left
  · intro w'
    go_simp
    with_reducible rfl
  rotate_left
  · simp only [Act.put, List.setIfInBounds_toArray, List.set_cons_zero, List.set_cons_succ, i64_w, i32_w]
    rfl
  refine pure_ (i := 2) (N := some 57) (v := ?_) (a' := ?_) #[true, true, true, false, false, false, false, false, false, false, false, false, false, false, false, false, false, false, false] rfl rfl (by kernel_rfl) (fun _ _ _ h => h) (Or.inl ⟨by rfl, ?_⟩) ?_ ?_
  rotate_left
  · intro w'
    go_simp
    with_reducible rfl
  rotate_left
  · simp only [Act.put, List.setIfInBounds_toArray, List.set_cons_zero, List.set_cons_succ, i64_w, i32_w]
    rfl
  refine pure_ (i := 4) (N := some 59) (v := ?_) (a' := ?_) #[true, true, true, false, true, false, false, false, false, false, false, false, false, false, false, false, false, false, false] rfl rfl (by kernel_rfl) (fun _ _ _ h => h) (Or.inl ⟨by rfl, ?_⟩) ?_ ?_
  rotate_left
  · intro w'
    go_simp
    with_reducible rfl
  rotate_left
  · simp only [Act.put, List.setIfInBounds_toArray, List.set_cons_zero, List.set_cons_succ, i64_w, i32_w]
    rfl
  refine pure_ (i := 5) (N := some 60) (v := ?_) (a' := ?_) #[true, true, true, false, true, true, false, false, false, false, false, false, false, false, false, false, false, false, false] rfl rfl (by kernel_rfl) (fun _ _ _ h => h) (Or.inl ⟨by rfl, ?_⟩) ?_ ?_
  rotate_left
  · intro w'
    go_simp
    with_reducible rfl
  rotate_left
  · simp only [Act.put, List.setIfInBounds_toArray, List.set_cons_zero, List.set_cons_succ, i64_w, i32_w]
    rfl
  refine pure_ (i := 7) (N := some 62) (v := ?_) (a' := ?_) #[true, true, true, false, true, true, false, true, false, false, false, false, false, false, false, false, false, false, false] rfl rfl (by kernel_rfl) (fun _ _ _ h => h) (Or.inl ⟨by rfl, ?_⟩) ?_ ?_
  rotate_left
  · intro w'
    go_simp
    with_reducible rfl
  rotate_left
  · simp only [Act.put, List.setIfInBounds_toArray, List.set_cons_zero, List.set_cons_succ, i64_w, i32_w]
    rfl
  refine pure_ (i := 8) (N := some 63) (v := ?_) (a' := ?_) #[true, true, true, false, true, true, false, true, true, false, false, false, false, false, false, false, false, false, false] rfl rfl (by kernel_rfl) (fun _ _ _ h => h) (Or.inl ⟨by rfl, ?_⟩) ?_ ?_
  rotate_left
  · intro w'
    go_simp
    with_reducible rfl
  rotate_left
  · simp only [Act.put, List.setIfInBounds_toArray, List.set_cons_zero, List.set_cons_succ, i64_w, i32_w]
    rfl
  refine pure_ (i := 9) (N := some 64) (v := ?_) (a' := ?_) #[true, true, true, false, true, true, false, true, true, true, false, false, false, false, false, false, false, false, false] rfl rfl (by kernel_rfl) (fun _ _ _ h => h) (Or.inl ⟨by rfl, ?_⟩) ?_ ?_
  rotate_left
  · intro w'
    go_simp
    with_reducible rfl
  rotate_left
  · simp only [Act.put, List.setIfInBounds_toArray, List.set_cons_zero, List.set_cons_succ, i64_w, i32_w]
    rfl
  refine pure_ (i := 11) (N := some 66) (v := ?_) (a' := ?_) #[true, true, true, false, true, true, false, true, true, true, false, true, false, false, false, false, false, false, false] rfl rfl (by kernel_rfl) (fun _ _ _ h => h) (Or.inl ⟨by rfl, ?_⟩) ?_ ?_
  rotate_left
  · intro w'
    go_simp
    with_reducible rfl
  rotate_left
  · simp only [Act.put, List.setIfInBounds_toArray, List.set_cons_zero, List.set_cons_succ, i64_w, i32_w]
    rfl
  refine pure_ (i := 12) (N := some 67) (v := ?_) (a' := ?_) #[true, true, true, false, true, true, false, true, true, true, false, true, true, false, false, false, false, false, false] rfl rfl (by kernel_rfl) (fun _ _ _ h => h) (Or.inl ⟨by rfl, ?_⟩) ?_ ?_
  rotate_left
  · intro w'
    go_simp
    with_reducible rfl
  rotate_left
  · simp only [Act.put, List.setIfInBounds_toArray, List.set_cons_zero, List.set_cons_succ, i64_w, i32_w]
    rfl
  refine pure_ (i := 13) (N := some 68) (v := ?_) (a' := ?_) #[true, true, true, false, true, true, false, true, true, true, false, true, true, true, false, false, false, false, false] rfl rfl (by kernel_rfl) (fun _ _ _ h => h) (Or.inl ⟨by rfl, ?_⟩) ?_ ?_
  rotate_left
  · intro w'
    go_simp
    with_reducible rfl
  rotate_left
  · simp only [Act.put, List.setIfInBounds_toArray, List.set_cons_zero, List.set_cons_succ, i64_w, i32_w]
    rfl
  refine take_ (i := 3) (N := some 58) (v := ?_) (a' := ?_) #[true, true, true, true, true, true, false, true, true, true, false, true, true, true, false, false, false, false, false] rfl rfl (by kernel_rfl) (fun _ _ _ h => h) (Or.inl ⟨by rfl, ?_⟩) hHeld ?_ ?_
  rotate_left
  · rintro w' ⟨s0, s1, s2, s3⟩
    go_simp
    with_reducible rfl
  rotate_left
  · simp only [Act.put, List.setIfInBounds_toArray, List.set_cons_zero, List.set_cons_succ, i64_w, i32_w]
    rfl
  refine take_ (i := 10) (N := some 65) (v := ?_) (a' := ?_) #[true, true, true, true, true, true, false, true, true, true, true, true, true, true, false, false, false, false, false] rfl rfl (by kernel_rfl) (fun _ _ _ h => h) (Or.inl ⟨by rfl, ?_⟩) hHeld ?_ ?_
  rotate_left
  · rintro w' ⟨s0, s1, s2, s3⟩
    go_simp
    with_reducible rfl
  rotate_left
  · simp only [Act.put, List.setIfInBounds_toArray, List.set_cons_zero, List.set_cons_succ, i64_w, i32_w]
    rfl
  refine take_ (i := 14) (N := some 69) (v := ?_) (a' := ?_) #[true, true, true, true, true, true, false, true, true, true, true, true, true, true, true, false, false, false, false] rfl rfl (by kernel_rfl) (fun _ _ _ h => h) (Or.inl ⟨by rfl, ?_⟩) hHeld ?_ ?_
  rotate_left
  · rintro w' ⟨s0, s1, s2, s3⟩
    go_simp
    with_reducible rfl
  rotate_left
  · simp only [Act.put, List.setIfInBounds_toArray, List.set_cons_zero, List.set_cons_succ, i64_w, i32_w]
    rfl
  refine join_ (σ := Nat) 3 #[true, true, true, true, true, true, true, true, true, true, true, true, true, true, true, true, false, false, false] (fun s => [(61, .agg #[.int .u64 (cutL low mid 0), .int .u64 (cutH high mid 0)]), (8, .pointer (some ⟨s, 0, none⟩))]) (fun s w' => w'.heap[s]? = some (.cells #[.int .u64 0, .int .u64 0] 101 (0, 0)) ∧ wd.heap.size ≤ s ∧ Below wd.heap.size wd w') ?_ ?_
  rotate_left
  · intro hCont
    refine two_ (i := 6) (j := 15) (Ni := some 61) (Nj := some 8) #[true, true, true, true, true, true, true, true, true, true, true, true, true, true, true, false, false, false, false] #[true, true, true, true, true, true, false, true, true, true, true, true, true, true, true, true, false, false, false] rfl rfl rfl rfl (by kernel_rfl) (by decide) (by decide) (fun K hK => ?_) (fun K hK => ?_)
    · skip
      refine goes_ Try.func79 (by kernel_rfl) rfl #[.agg #[.int .u64 low, .int .u64 high], .int .i64 (likely kind (rd st i)), .int .i64 0] (by rfl) rfl rfl (by simp only [List.map_toArray, List.map_cons, List.map_nil]; rfl) ?_
      with_reducible refine ((HP _).out).mono ?_
      rintro e wk ⟨rfl, hk⟩
      refine ⟨_, rfl, ?_⟩
      have t2 := pw_cell_below hk p2
      have t3 := pw_cell_below hk p3
      have t5 := pw_cell_below hk p5
      have t6 := pw_cell_below hk p6
      refine hK.out _ _ ⟨t2, t3, t5, t6⟩ (fun hHeld => ?_)
      clear hK K
      refine norm_ (a' := ?_) ?_ ?_
      rotate_left
      · show Act.put _ (some 61) _ = _
        simp only [Act.put, List.setIfInBounds_toArray, List.set_cons_zero, List.set_cons_succ, i64_w, i32_w]
        rfl
      refine one_ (i := 15) (N := some 8) #[true, true, true, true, true, true, true, true, true, true, true, true, true, true, true, true, false, false, false] rfl rfl (by kernel_rfl) (by decide) (fun K hK => ?_)
      refine value_ (w1 := ?_) (v := ?_) (by rfl) rfl ?_ ?_
      rotate_left 2
      · go_simp
        constructor
        · rfl
        · rfl
      refine hK.out _ _ ⟨pw_cell_below (below_alloc (Below.refl _ _) _) t2, pw_cell_below (below_alloc (Below.refl _ _) _) t3, pw_cell_below (below_alloc (Below.refl _ _) _) t5, pw_cell_below (below_alloc (Below.refl _ _) _) t6⟩ (fun hHeld => ?_)
      clear hK K
      refine norm_ (a' := ?_) ?_ ?_
      rotate_left
      · show Act.put _ (some 8) _ = _
        simp only [Act.put, List.setIfInBounds_toArray, List.set_cons_zero, List.set_cons_succ, i64_w, i32_w]
        rfl
      exact norm_ (by simp only [putAll, Act.put, List.setIfInBounds_toArray, List.set_cons_zero, List.set_cons_succ]) (hCont wk.heap.size _ ⟨blk_new _ _, hk.size, below_alloc hk _⟩)
    · skip
      refine value_ (w1 := ?_) (v := ?_) (by rfl) rfl ?_ ?_
      rotate_left 2
      · go_simp
        constructor
        · rfl
        · rfl
      refine hK.out _ _ ⟨pw_cell_below (below_alloc (Below.refl _ _) _) p2, pw_cell_below (below_alloc (Below.refl _ _) _) p3, pw_cell_below (below_alloc (Below.refl _ _) _) p5, pw_cell_below (below_alloc (Below.refl _ _) _) p6⟩ (fun hHeld => ?_)
      clear hK K
      refine norm_ (a' := ?_) ?_ ?_
      rotate_left
      · show Act.put _ (some 8) _ = _
        simp only [Act.put, List.setIfInBounds_toArray, List.set_cons_zero, List.set_cons_succ, i64_w, i32_w]
        rfl
      refine one_ (i := 6) (N := some 61) #[true, true, true, true, true, true, true, true, true, true, true, true, true, true, true, true, false, false, false] rfl rfl (by kernel_rfl) (by decide) (fun K hK => ?_)
      refine goes_ Try.func79 (by kernel_rfl) rfl #[.agg #[.int .u64 low, .int .u64 high], .int .i64 (likely kind (rd st i)), .int .i64 0] (by rfl) rfl rfl (by simp only [List.map_toArray, List.map_cons, List.map_nil]; rfl) ?_
      with_reducible refine ((HP _).out).mono ?_
      rintro e wk ⟨rfl, hk⟩
      refine ⟨_, rfl, ?_⟩
      have t2 := pw_cell_below hk (pw_cell_below (below_alloc (Below.refl _ _) _) p2)
      have t3 := pw_cell_below hk (pw_cell_below (below_alloc (Below.refl _ _) _) p3)
      have t5 := pw_cell_below hk (pw_cell_below (below_alloc (Below.refl _ _) _) p5)
      have t6 := pw_cell_below hk (pw_cell_below (below_alloc (Below.refl _ _) _) p6)
      refine hK.out _ _ ⟨t2, t3, t5, t6⟩ (fun hHeld => ?_)
      clear hK K
      refine norm_ (a' := ?_) ?_ ?_
      rotate_left
      · show Act.put _ (some 61) _ = _
        simp only [Act.put, List.setIfInBounds_toArray, List.set_cons_zero, List.set_cons_succ, i64_w, i32_w]
        rfl
      exact norm_ (by simp only [putAll, Act.put, List.setIfInBounds_toArray, List.set_cons_zero, List.set_cons_succ]) (hCont wd.heap.size _ ⟨blk_below (blk_new _ _) hk, Nat.le_refl _, below_then (below_alloc (Below.refl _ _) _) (by simp) hk⟩)
  rintro q w5 ⟨hq, hqs, hqb⟩
  have t2 := pw_cell_below hqb p2
  have t3 := pw_cell_below hqb p3
  have t5 := pw_cell_below hqb p5
  have t6 := pw_cell_below hqb p6
  have hHeld : w5.cell? ⟨g, 2, none⟩ = some (.int .u64 low) ∧ w5.cell? ⟨g, 3, none⟩ = some (.int .u64 high) ∧ w5.cell? ⟨g, 5, none⟩ = some (.int .i64 a) ∧ w5.cell? ⟨g, 6, none⟩ = some (.int .u64 value) := ⟨t2, t3, t5, t6⟩
  have z0 : w5.cell? ⟨q, 0, none⟩ = some (.int .u64 0) := (blk_cell hq 0).trans rfl
  have z1 : w5.cell? ⟨q, 1, none⟩ = some (.int .u64 0) := (blk_cell hq 1).trans rfl
  have zf0 := blk_frozen hq 0
  have zf1 := blk_frozen hq 1
  have HQ := Aside0.mk hq
  have HQS := Aside0.mk hqs
  have HQB := Aside0.mk hqb
  clear hq hqs hqb
  refine norm_ (a' := ?_) ?_ ?_
  rotate_left
  · simp only [putAll, Act.put, List.setIfInBounds_toArray, List.set_cons_zero, List.set_cons_succ]
    rfl
  refine one_ (i := 16) (N := none) #[true, true, true, true, true, true, true, true, true, true, true, true, true, true, true, true, true, false, false] rfl rfl (by kernel_rfl) (by decide) (fun K hK => ?_)
  refine skip_ (w1 := ?_) (by rfl) rfl ?_ ?_
  rotate_left
  · go_simp
    rfl
  refine hK.out _ _ ⟨pw_cell_below ((HQB.out.setCell (p := ⟨q, 0, none⟩) HQS.out _).setCell (p := ⟨q, 1, none⟩) HQS.out _) p2, pw_cell_below ((HQB.out.setCell (p := ⟨q, 0, none⟩) HQS.out _).setCell (p := ⟨q, 1, none⟩) HQS.out _) p3, pw_cell_below ((HQB.out.setCell (p := ⟨q, 0, none⟩) HQS.out _).setCell (p := ⟨q, 1, none⟩) HQS.out _) p5, pw_cell_below ((HQB.out.setCell (p := ⟨q, 0, none⟩) HQS.out _).setCell (p := ⟨q, 1, none⟩) HQS.out _) p6⟩ (fun hHeld => ?_)
  clear hK K
  refine pure_ (i := 17) (N := some 9) (v := ?_) (a' := ?_) #[true, true, true, true, true, true, true, true, true, true, true, true, true, true, true, true, true, true, false] rfl rfl (by kernel_rfl) (fun _ _ _ h => h) (Or.inl ⟨by rfl, ?_⟩) ?_ ?_
  rotate_left
  · intro w'
    go_simp
    with_reducible rfl
  rotate_left
  · simp only [Act.put, List.setIfInBounds_toArray, List.set_cons_zero, List.set_cons_succ, i64_w, i32_w]
    rfl
  refine pure_ (i := 18) (N := some 10) (v := ?_) (a' := ?_) #[true, true, true, true, true, true, true, true, true, true, true, true, true, true, true, true, true, true, true] rfl rfl (by kernel_rfl) (fun _ _ _ h => h) (Or.inl ⟨by rfl, ?_⟩) ?_ ?_
  rotate_left
  · intro w'
    go_simp
    with_reducible rfl
  rotate_left
  · simp only [Act.put, List.setIfInBounds_toArray, List.set_cons_zero, List.set_cons_succ, i64_w, i32_w]
    rfl
  refine done_ (by kernel_rfl) ?_
  obtain ⟨w6, hw6⟩ : ∃ w6, w6 = (w5.setCell ⟨q, 0, none⟩ (.int .u64 (cutL low mid 0))).setCell ⟨q, 1, none⟩ (.int .u64 (cutH high mid 0)) := ⟨_, rfl⟩
  rw [← hw6]
  have hB6 : Below wd.heap.size wd w6 := hw6 ▸ (HQB.out.setCell (p := ⟨q, 0, none⟩) HQS.out _).setCell (p := ⟨q, 1, none⟩) HQS.out _
  have hq1 : (w5.setCell ⟨q, 0, none⟩ (.int .u64 (cutL low mid 0))).heap[q]? = some (.cells #[.int .u64 (cutL low mid 0), .int .u64 0] 101 (0, 0)) := blk_put (cs := #[.int .u64 0, .int .u64 0]) HQ.out 0 _ rfl
  have HQ6 := Aside0.mk (show w6.heap[q]? = some (.cells #[.int .u64 (cutL low mid 0), .int .u64 (cutH high mid 0)] 101 (0, 0)) from hw6 ▸ blk_put (cs := #[.int .u64 (cutL low mid 0), .int .u64 0]) hq1 1 _ rfl)
  have HE6 := Aside0.mk (HE4.out.below hB6)
  have HM6 := Aside0.mk (HM4.out.below hB6)
  have hqn : ¬ S q := fun hk => by have h1 := HSB.out q hk; have h2 := HM4.out.size; have h3 := HQS.out; omega
  have hgq : g ≠ q := fun he => hqn (he ▸ hSg)
  have HQN := Aside0.mk hqn
  have HQS2 := Aside0.mk (show w.heap.size ≤ q from Nat.le_trans HM4.out.size HQS.out)
  clear hw6 hB6 hq1 hqn HE4 HM4 HQ HQS HQB z0 z1 zf0 zf1 t2 t3 t5 t6 p2 p3 p5 p6
  go_wp2
  skip
  go_loopg [9, 10] 4 (fun d s9 s10 wr => ∃ (l h : Int) (n : List Int) (k : Nat) (v : Int), s9 = .int .i64 k ∧ s10 = .int .u64 v ∧ (0 ≤ v ∧ v ≤ 4294967295) ∧ Aside0 (k = a + n.length ∧ v = shV code n.length value a) ∧ Aside0 (RDecRow wr S g kind (some ⟨b, 0, none⟩) c st low high (.slice Ac code.length cc) code a value ((a - code.length : Nat) : Int) false) ∧ Aside0 (Mods w wr S) ∧ Aside0 (wr.heap[q]? = some (.cells #[.int .u64 l, .int .u64 h] 101 (0, 0))) ∧ Aside0 (PutInv [] (cutL low mid 0) (cutH high mid 0) d l h n))
  case atStart => exact ⟨_, _, [], a, value, rfl, rfl, ⟨hv0, hv1⟩, ⟨rfl, rfl⟩, HE6, HM6, HQ6, HI⟩
  clear HE6 HM6 HQ6 HI
  case round =>
    obtain ⟨l, h, n, k, v, rfl, rfl, hv, HKV, HE7, HM7, HQ7, HPI⟩ := hrel
    have hp0 := HPI.out.l0
    have hp1 := HPI.out.lh
    have hp2 := HPI.out.h0
    have hp3 := HPI.out.len
    rw [List.length_nil] at hp3
    have hka : k ≤ 2199023255552 := by have := HKV.out.1; omega
    have hs7 := fixed_calls l h
    have z0 : wr.cell? ⟨q, 0, none⟩ = some (.int .u64 l) := (blk_cell HQ7.out 0).trans rfl
    have z1 : wr.cell? ⟨q, 1, none⟩ = some (.int .u64 h) := (blk_cell HQ7.out 1).trans rfl
    by_cases cx : l / 16777216 = h / 16777216
    · rw [decide_eq_true cx] at hs7
      have HSA := Aside0.mk hs7
      clear hs7
      obtain ⟨d', hd', hP'⟩ := HPI.out.step cx
      have HP' := Aside0.mk hP'
      have HD := Aside0.mk hd'
      have hbr := byteOf_range HBY.out k
      clear hd' hP' cx
      go_wp2_with (first
        | (go_at_call 80; refine (HSA.out _).mono ?_; rintro e w8 ⟨rfl, hb8⟩; have HE8 := Aside0.mk (HE7.out.below hb8); have HM8 := Aside0.mk (HM7.out.below hb8); have HQ8 := Aside0.mk (blk_below HQ7.out hb8); have z0 : w8.cell? ⟨q, 0, none⟩ = some (.int .u64 l) := (blk_cell HQ8.out 0).trans rfl; have z1 : w8.cell? ⟨q, 1, none⟩ = some (.int .u64 h) := (blk_cell HQ8.out 1).trans rfl; clear hb8)
        | (go_at_call 81; refine (shift_calls l h _ hp0 (by omega) (by omega) hp2).mono ?_; rintro e w9 ⟨rfl, hb9⟩; have HE9 := Aside0.mk (HE8.out.below hb9); have HM9 := Aside0.mk (HM8.out.below hb9); have HQ9 := Aside0.mk (blk_below HQ8.out hb9); have z0 : w9.cell? ⟨q, 0, none⟩ = some (.int .u64 l) := (blk_cell HQ9.out 0).trans rfl; have z1 : w9.cell? ⟨q, 1, none⟩ = some (.int .u64 h) := (blk_cell HQ9.out 1).trans rfl; have zf0 := blk_frozen HQ9.out 0; have zf1 := blk_frozen HQ9.out 1; have k4 := HE9.out.c4; clear hb9))
      obtain ⟨w10, hw10⟩ : ∃ w10, w10 = (w9.setCell ⟨q, 0, none⟩ (.int .u64 (l % 16777216 * 256))).setCell ⟨q, 1, none⟩ (.int .u64 (h % 16777216 * 256 + 255)) := ⟨_, rfl⟩
      rw [← hw10]
      have hq10 : (w9.setCell ⟨q, 0, none⟩ (.int .u64 (l % 16777216 * 256))).heap[q]? = some (.cells #[.int .u64 (l % 16777216 * 256), .int .u64 h] 101 (0, 0)) := blk_put (cs := #[.int .u64 l, .int .u64 h]) HQ9.out 0 _ rfl
      have HQ10 := Aside0.mk (show w10.heap[q]? = some (.cells #[.int .u64 (l % 16777216 * 256), .int .u64 (h % 16777216 * 256 + 255)] 101 (0, 0)) from hw10 ▸ blk_put (cs := #[.int .u64 (l % 16777216 * 256), .int .u64 h]) hq10 1 _ rfl)
      have HE10 := Aside0.mk (show RDecRow w10 S g kind (some ⟨b, 0, none⟩) c st low high (.slice Ac code.length cc) code a value ((a - code.length : Nat) : Int) false from hw10 ▸ (HE9.out.far (p := ⟨q, 0, none⟩) HQN.out _).far (p := ⟨q, 1, none⟩) HQN.out _)
      have hqs : w.heap.size ≤ q := by have h1 := HQS2.out; omega
      have HM10 := Aside0.mk (show Mods w w10 S from hw10 ▸ (HM9.out.setCell (p := ⟨q, 0, none⟩) (.inr hqs) _).setCell (p := ⟨q, 1, none⟩) (.inr hqs) _)
      clear hw10 hq10 hqs z0 z1 zf0 zf1 k4 HE9 HM9 HQ9 HE8 HM8 HQ8
      refine (byte_calls Ac cc code k _ (Kd.R_reads' HE10.out.o).2.2 HBY.out).mono ?_
      rintro e w11 ⟨rfl, rfl⟩
      go_wp2
      go_roundg d'
      case measure => have := HD.out; omega
      case rel =>
        have h1 := HKV.out
        refine ⟨_, _, _, k + 1, _, rfl, rfl, by omega, ⟨?_, ?_⟩, HE10, HM10, HQ10, HP'⟩
        · rw [List.length_append, List.length_cons, List.length_nil, h1.1]
          omega
        · rw [List.length_append, List.length_cons, List.length_nil, Nat.zero_add, shV_succ, ← h1.2, ← h1.1]
    · rw [decide_eq_false cx] at hs7
      have HSA := Aside0.mk hs7
      clear hs7
      have HCC := Aside0.mk (HPI.out.done cx)
      clear cx
      have HN := Aside0.mk (show normE 4 (cutL low mid 0) (cutH high mid 0) = (n, l, h) from by
        have h1 := HCC.out
        rw [List.nil_append] at h1
        exact Prod.ext h1.1.symm h1.2)
      obtain ⟨be, hbe⟩ : ∃ be : Nat, k - code.length = be := ⟨_, rfl⟩
      have HBE := Aside0.mk hbe
      have hbk : be ≤ 2199023255552 := by omega
      by_cases hb4 : (be : Int) > 4
      · have HB4 := Aside0.mk hb4
        go_wp2_with (go_at_call 80; refine (HSA.out _).mono ?_; rintro e w8 ⟨rfl, hb8⟩; have HE8 := Aside0.mk (HE7.out.below hb8); have HM8 := Aside0.mk (HM7.out.below hb8); have k4 := HE8.out.c4; have k8 := HE8.out.c8; have f8 := HE8.out.fz 8; clear hb8)
        go_ret2
        have h1 := HKV.out
        refine ⟨⟨l, h, n, HN.out, .inl ⟨by have := HB4.out; have := HBE.out; omega, rfl, HE8.out.put 8 _ rfl⟩⟩, HM8.out.setCell (.inl hSg) _⟩
      · have HB4 := Aside0.mk hb4
        go_wp2_with (go_at_call 80; refine (HSA.out _).mono ?_; rintro e w8 ⟨rfl, hb8⟩; have HE8 := Aside0.mk (HE7.out.below hb8); have HM8 := Aside0.mk (HM7.out.below hb8); have HQ8 := Aside0.mk (blk_below HQ7.out hb8); have k4 := HE8.out.c4; clear hb8)
        have HE8 := Aside0.mk HE8.out.drew
        have HM8 := Aside0.mk HM8.out.drew
        have HQ8 := Aside0.mk (blk_drew HQ8.out)
        have k0 := HE8.out.c0
        have k1 := HE8.out.c1
        have ks : w8.drew.cell? ⟨b, i, none⟩ = some (.int .i64 (rd st i)) := by obtain ⟨b', hA, hc, _⟩ := HE8.out.cell hi; cases hA; exact hc
        clear k4
        refine start_ (n := 23) (S := fun w' => w'.cell? ⟨g, 0, none⟩ = some (.int .i64 kind) ∧ w'.cell? ⟨g, 1, none⟩ = some (.slice (some ⟨b, 0, none⟩) st.length c) ∧ w'.cell? ⟨b, i, none⟩ = some (.int .i64 (rd st i))) (ds := [22]) #[false, false, false, false, false, false, false, false, false, false, false, false, false, false, false, false, false, false, false, false, false, false, false] (by kernel_rfl) rfl rfl ⟨k0, k1, ks⟩ (fun hHeld => ?_)
        refine pure_ (i := 0) (N := some 99) (v := ?_) (a' := ?_) #[true, false, false, false, false, false, false, false, false, false, false, false, false, false, false, false, false, false, false, false, false, false, false] rfl rfl (by kernel_rfl) (fun _ _ _ h => h) (Or.inl ⟨by rfl, ?_⟩) ?_ ?_
        rotate_left
        · intro w'
          go_simp
          with_reducible rfl
        rotate_left
        · simp only [Act.put, List.setIfInBounds_toArray, List.set_cons_zero, List.set_cons_succ, i64_w, i32_w]
          rfl
        refine pure_ (i := 1) (N := some 100) (v := ?_) (a' := ?_) #[true, true, false, false, false, false, false, false, false, false, false, false, false, false, false, false, false, false, false, false, false, false, false] rfl rfl (by kernel_rfl) (fun _ _ _ h => h) (Or.inl ⟨by rfl, ?_⟩) ?_ ?_
        rotate_left
        · intro w'
          go_simp
          with_reducible rfl
        rotate_left
        · simp only [Act.put, List.setIfInBounds_toArray, List.set_cons_zero, List.set_cons_succ, i64_w, i32_w]
          rfl
        refine pure_ (i := 2) (N := some 101) (v := ?_) (a' := ?_) #[true, true, true, false, false, false, false, false, false, false, false, false, false, false, false, false, false, false, false, false, false, false, false] rfl rfl (by kernel_rfl) (fun _ _ _ h => h) (Or.inl ⟨by rfl, ?_⟩) ?_ ?_
        rotate_left
        · intro w'
          go_simp
          with_reducible rfl
        rotate_left
        · simp only [Act.put, List.setIfInBounds_toArray, List.set_cons_zero, List.set_cons_succ, i64_w, i32_w]
          rfl
        refine pure_ (i := 3) (N := some 102) (v := ?_) (a' := ?_) #[true, true, true, true, false, false, false, false, false, false, false, false, false, false, false, false, false, false, false, false, false, false, false] rfl rfl (by kernel_rfl) (fun _ _ _ h => h) (Or.inl ⟨by rfl, ?_⟩) ?_ ?_
        rotate_left
        · intro w'
          go_simp
          with_reducible rfl
        rotate_left
        · simp only [Act.put, List.setIfInBounds_toArray, List.set_cons_zero, List.set_cons_succ, i64_w, i32_w]
          rfl
        refine pure_ (i := 5) (N := some 104) (v := ?_) (a' := ?_) #[true, true, true, true, false, true, false, false, false, false, false, false, false, false, false, false, false, false, false, false, false, false, false] rfl rfl (by kernel_rfl) (fun _ _ _ h => h) (Or.inl ⟨by rfl, ?_⟩) ?_ ?_
        rotate_left
        · intro w'
          go_simp
          with_reducible rfl
        rotate_left
        · simp only [Act.put, List.setIfInBounds_toArray, List.set_cons_zero, List.set_cons_succ, i64_w, i32_w]
          rfl
        refine pure_ (i := 6) (N := some 105) (v := ?_) (a' := ?_) #[true, true, true, true, false, true, true, false, false, false, false, false, false, false, false, false, false, false, false, false, false, false, false] rfl rfl (by kernel_rfl) (fun _ _ _ h => h) (Or.inl ⟨by rfl, ?_⟩) ?_ ?_
        rotate_left
        · intro w'
          go_simp
          with_reducible rfl
        rotate_left
        · simp only [Act.put, List.setIfInBounds_toArray, List.set_cons_zero, List.set_cons_succ, i64_w, i32_w]
          rfl
        refine pure_ (i := 7) (N := some 106) (v := ?_) (a' := ?_) #[true, true, true, true, false, true, true, true, false, false, false, false, false, false, false, false, false, false, false, false, false, false, false] rfl rfl (by kernel_rfl) (fun _ _ _ h => h) (Or.inl ⟨by rfl, ?_⟩) ?_ ?_
        rotate_left
        · intro w'
          go_simp
          with_reducible rfl
        rotate_left
        · simp only [Act.put, List.setIfInBounds_toArray, List.set_cons_zero, List.set_cons_succ, i64_w, i32_w]
          rfl
        refine pure_ (i := 8) (N := some 107) (v := ?_) (a' := ?_) #[true, true, true, true, false, true, true, true, true, false, false, false, false, false, false, false, false, false, false, false, false, false, false] rfl rfl (by kernel_rfl) (fun _ _ _ h => h) (Or.inl ⟨by rfl, ?_⟩) ?_ ?_
        rotate_left
        · intro w'
          go_simp
          with_reducible rfl
        rotate_left
        · simp only [Act.put, List.setIfInBounds_toArray, List.set_cons_zero, List.set_cons_succ, i64_w, i32_w]
          rfl
        refine pure_ (i := 9) (N := some 108) (v := ?_) (a' := ?_) #[true, true, true, true, false, true, true, true, true, true, false, false, false, false, false, false, false, false, false, false, false, false, false] rfl rfl (by kernel_rfl) (fun _ _ _ h => h) (Or.inl ⟨by rfl, ?_⟩) ?_ ?_
        rotate_left
        · intro w'
          go_simp
          with_reducible rfl
        rotate_left
        · simp only [Act.put, List.setIfInBounds_toArray, List.set_cons_zero, List.set_cons_succ, i64_w, i32_w]
          rfl
        refine pure_ (i := 11) (N := some 110) (v := ?_) (a' := ?_) #[true, true, true, true, false, true, true, true, true, true, false, true, false, false, false, false, false, false, false, false, false, false, false] rfl rfl (by kernel_rfl) (fun _ _ _ h => h) (Or.inl ⟨by rfl, ?_⟩) ?_ ?_
        rotate_left
        · intro w'
          go_simp
          with_reducible rfl
        rotate_left
        · simp only [Act.put, List.setIfInBounds_toArray, List.set_cons_zero, List.set_cons_succ, i64_w, i32_w]
          rfl
        refine pure_ (i := 12) (N := some 111) (v := ?_) (a' := ?_) #[true, true, true, true, false, true, true, true, true, true, false, true, true, false, false, false, false, false, false, false, false, false, false] rfl rfl (by kernel_rfl) (fun _ _ _ h => h) (Or.inl ⟨by rfl, ?_⟩) ?_ ?_
        rotate_left
        · intro w'
          go_simp
          with_reducible rfl
        rotate_left
        · simp only [Act.put, List.setIfInBounds_toArray, List.set_cons_zero, List.set_cons_succ, i64_w, i32_w]
          rfl
        refine pure_ (i := 13) (N := some 112) (v := ?_) (a' := ?_) #[true, true, true, true, false, true, true, true, true, true, false, true, true, true, false, false, false, false, false, false, false, false, false] rfl rfl (by kernel_rfl) (fun _ _ _ h => h) (Or.inl ⟨by rfl, ?_⟩) ?_ ?_
        rotate_left
        · intro w'
          go_simp
          with_reducible rfl
        rotate_left
        · simp only [Act.put, List.setIfInBounds_toArray, List.set_cons_zero, List.set_cons_succ, i64_w, i32_w]
          rfl
        refine pure_ (i := 14) (N := some 113) (v := ?_) (a' := ?_) #[true, true, true, true, false, true, true, true, true, true, false, true, true, true, true, false, false, false, false, false, false, false, false] rfl rfl (by kernel_rfl) (fun _ _ _ h => h) (Or.inl ⟨by rfl, ?_⟩) ?_ ?_
        rotate_left
        · intro w'
          go_simp
          with_reducible rfl
        rotate_left
        · simp only [Act.put, List.setIfInBounds_toArray, List.set_cons_zero, List.set_cons_succ, i64_w, i32_w]
          rfl
        refine pure_ (i := 16) (N := some 115) (v := ?_) (a' := ?_) #[true, true, true, true, false, true, true, true, true, true, false, true, true, true, true, false, true, false, false, false, false, false, false] rfl rfl (by kernel_rfl) (fun _ _ _ h => h) (Or.inl ⟨by rfl, ?_⟩) ?_ ?_
        rotate_left
        · intro w'
          go_simp
          with_reducible rfl
        rotate_left
        · simp only [Act.put, List.setIfInBounds_toArray, List.set_cons_zero, List.set_cons_succ, i64_w, i32_w]
          rfl
        refine pure_ (i := 19) (N := some 118) (v := ?_) (a' := ?_) #[true, true, true, true, false, true, true, true, true, true, false, true, true, true, true, false, true, false, false, true, false, false, false] rfl rfl (by kernel_rfl) (fun _ _ _ h => h) (Or.inl ⟨by rfl, ?_⟩) ?_ ?_
        rotate_left
        · intro w'
          go_simp
          with_reducible rfl
        rotate_left
        · simp only [Act.put, List.setIfInBounds_toArray, List.set_cons_zero, List.set_cons_succ, i64_w, i32_w]
          rfl
        refine take_ (i := 4) (N := some 103) (v := ?_) (a' := ?_) #[true, true, true, true, true, true, true, true, true, true, false, true, true, true, true, false, true, false, false, true, false, false, false] rfl rfl (by kernel_rfl) (fun _ _ _ h => h) (Or.inl ⟨by rfl, ?_⟩) hHeld ?_ ?_
        rotate_left
        · rintro w' ⟨s0, s1, s2⟩
          go_simp
          with_reducible rfl
        rotate_left
        · simp only [Act.put, List.setIfInBounds_toArray, List.set_cons_zero, List.set_cons_succ, i64_w, i32_w]
          rfl
        refine take_ (i := 10) (N := some 109) (v := ?_) (a' := ?_) #[true, true, true, true, true, true, true, true, true, true, true, true, true, true, true, false, true, false, false, true, false, false, false] rfl rfl (by kernel_rfl) (fun _ _ _ h => h) (Or.inl ⟨by rfl, ?_⟩) hHeld ?_ ?_
        rotate_left
        · rintro w' ⟨s0, s1, s2⟩
          go_simp
          with_reducible rfl
        rotate_left
        · simp only [Act.put, List.setIfInBounds_toArray, List.set_cons_zero, List.set_cons_succ, i64_w, i32_w]
          rfl
        refine take_ (i := 15) (N := some 114) (v := ?_) (a' := ?_) #[true, true, true, true, true, true, true, true, true, true, true, true, true, true, true, true, true, false, false, true, false, false, false] rfl rfl (by kernel_rfl) (fun _ _ _ h => h) (Or.inl ⟨by rfl, ?_⟩) hHeld ?_ ?_
        rotate_left
        · rintro w' ⟨s0, s1, s2⟩
          go_simp
          with_reducible rfl
        rotate_left
        · simp only [Act.put, List.setIfInBounds_toArray, List.set_cons_zero, List.set_cons_succ, i64_w, i32_w]
          rfl
        refine pure_ (i := 17) (N := some 116) (v := ?_) (a' := ?_) #[true, true, true, true, true, true, true, true, true, true, true, true, true, true, true, true, true, true, false, true, false, false, false] rfl rfl (by kernel_rfl) (fun _ _ _ h => h) (Or.inl ⟨by rfl, ?_⟩) ?_ ?_
        rotate_left
        · intro w'
          go_simp
          with_reducible rfl
        rotate_left
        · simp only [Act.put, List.setIfInBounds_toArray, List.set_cons_zero, List.set_cons_succ, i64_w, i32_w]
          rfl
        refine take_ (i := 18) (N := some 117) (v := ?_) (a' := ?_) #[true, true, true, true, true, true, true, true, true, true, true, true, true, true, true, true, true, true, true, true, false, false, false] rfl rfl (by kernel_rfl) (fun _ _ _ h => h) (Or.inl ⟨by rfl, ?_⟩) hHeld ?_ ?_
        rotate_left
        · rintro w' ⟨s0, s1, s2⟩
          go_simp
          with_reducible rfl
        rotate_left
        · simp only [Act.put, List.setIfInBounds_toArray, List.set_cons_zero, List.set_cons_succ, i64_w, i32_w]
          rfl
        refine one_ (i := 20) (N := some 119) #[true, true, true, true, true, true, true, true, true, true, true, true, true, true, true, true, true, true, true, true, true, false, false] rfl rfl (by kernel_rfl) (by decide) (fun K hK => ?_)
        refine goes_ Try.func82 (by kernel_rfl) rfl #[.int .i64 kind, .int .i64 (rd st i), .int .i64 0] (by rfl) rfl rfl (by simp only [List.map_toArray, List.map_cons, List.map_nil]; rfl) ?_
        with_reducible refine (ref_after kind (rd st i) 0 _ hs (by decide)).mono ?_
        rintro e w9 ⟨rfl, hb9⟩
        refine ⟨_, rfl, ?_⟩
        have HE9 := Aside0.mk (HE8.out.below hb9)
        have HM9 := Aside0.mk (HM8.out.below hb9)
        have HQ9 := Aside0.mk (blk_below HQ8.out hb9)
        have c9 : w9.cell? ⟨b, i, none⟩ = some (.int .i64 (rd st i)) := by obtain ⟨b', hA, hc, _⟩ := HE9.out.cell hi; cases hA; exact hc
        have f9 : w9.frozen? ⟨b, i, none⟩ = false := by obtain ⟨b', hA, _, hf, _⟩ := HE9.out.cell hi; cases hA; exact hf
        clear hb9
        refine hK.out _ _ ⟨HE9.out.c0, HE9.out.c1, c9⟩ (fun hHeld => ?_)
        clear hK K
        refine norm_ (a' := ?_) ?_ ?_
        rotate_left
        · show Act.put _ (some 119) _ = _
          simp only [Act.put, List.setIfInBounds_toArray, List.set_cons_zero, List.set_cons_succ, i64_w, i32_w]
          rfl
        refine pure_ (i := 21) (N := some 120) (v := ?_) (a' := ?_) #[true, true, true, true, true, true, true, true, true, true, true, true, true, true, true, true, true, true, true, true, true, true, false] rfl rfl (by kernel_rfl) (fun _ _ _ h => h) (Or.inl ⟨by rfl, ?_⟩) ?_ ?_
        rotate_left
        · intro w'
          go_simp
          with_reducible rfl
        rotate_left
        · simp only [Act.put, List.setIfInBounds_toArray, List.set_cons_zero, List.set_cons_succ, i64_w, i32_w]
          rfl
        refine last_ (i := 22) (N := none) #[true, true, true, true, true, true, true, true, true, true, true, true, true, true, true, true, true, true, true, true, true, true, true] rfl rfl (by kernel_rfl) (by decide) (fun K hK => ?_)
        refine skip_ (w1 := ?_) (by rfl) rfl ?_ ?_
        rotate_left
        · go_simp
          rfl
        refine hK.out _ _ ?_
        clear hK K
        refine done_ (by kernel_rfl) ?_
        obtain ⟨w10, hw10⟩ : ∃ w10, w10 = w9.setCell ⟨b, i, none⟩ (.int .i64 (after kind (rd st i) 0)) := ⟨_, rfl⟩
        rw [← hw10]
        have HE10 := Aside0.mk (show RDecRow w10 S g kind (some ⟨b, 0, none⟩) c (st.set i (after kind (rd st i) 0)) low high (.slice Ac code.length cc) code a value ((a - code.length : Nat) : Int) false from hw10 ▸ HE9.out.setst hi _)
        have HM10 := Aside0.mk (show Mods w w10 S from hw10 ▸ HM9.out.setCell (.inl hSb2) _)
        have hqb : q ≠ b := fun he => HQN.out (he ▸ hSb2)
        have HQ10 := Aside0.mk (show w10.heap[q]? = some (.cells #[.int .u64 l, .int .u64 h] 101 (0, 0)) from hw10 ▸ blk_far HQ9.out hqb _)
        have z0 : w10.cell? ⟨q, 0, none⟩ = some (.int .u64 l) := (blk_cell HQ10.out 0).trans rfl
        have z1 : w10.cell? ⟨q, 1, none⟩ = some (.int .u64 h) := (blk_cell HQ10.out 1).trans rfl
        have c2 := HE10.out.c2
        have c3 := HE10.out.c3
        have c5 := HE10.out.c5
        have c6 := HE10.out.c6
        have c7 := HE10.out.c7
        have f2 := HE10.out.fz 2
        have f3 := HE10.out.fz 3
        have f5 := HE10.out.fz 5
        have f6 := HE10.out.fz 6
        have f7 := HE10.out.fz 7
        clear hw10 k0 k1 ks c9 f9
        go_wp2
        go_ret2
        have h1 := HKV.out
        refine ⟨⟨l, h, n, HN.out, .inr ⟨by have := HB4.out; have := HBE.out; omega, rfl, ?_⟩⟩, ((((HM10.out.setCell (p := ⟨g, 2, none⟩) (.inl hSg) _).setCell (p := ⟨g, 3, none⟩) (.inl hSg) _).setCell (p := ⟨g, 5, none⟩) (.inl hSg) _).setCell (p := ⟨g, 6, none⟩) (.inl hSg) _).setCell (p := ⟨g, 7, none⟩) (.inl hSg) _⟩
        rw [← h1.2, ← h1.1, HBE.out]
        exact ((((HE10.out.put (low' := l) 2 _ rfl).put (high' := h) 3 _ rfl).put (a' := (k : Int)) 5 _ rfl).put (value' := v) 6 _ rfl).put (be' := (be : Int)) 7 _ rfl
set_option maxHeartbeats 4000000 in
set_option maxRecDepth 100000 in
theorem rget_row1 (w : World) (S : Nat → Prop) (g : Nat) (kind : Int) (b c : Nat) (st : List Int) (low high mid : Int) (vc : Value) (code : List Int) (a : Nat) (value : Int) (i : Nat) (hE : RDecRow w S g kind (some ⟨b, 0, none⟩) c st low high vc code a value ((a - code.length : Nat) : Int) false) (hSb : ∀ k, S k → k < w.heap.size) (hi : i < st.length) (hn : st.length ≤ 8192) (hs : okState kind (rd st i)) (hl0 : 0 ≤ low) (hlh : low ≤ high) (hh : high ≤ 4294967295) (hmid : midOf low high (likely kind (rd st i)) = mid) (hm0 : 0 ≤ mid) (hm1 : mid ≤ 4294967295) (hI0 : PutInv [] (cutL low mid 1) (cutH high mid 1) 4 (cutL low mid 1) (cutH high mid 1) []) (hv0 : 0 ≤ value) (hv1 : value ≤ 4294967295) (hby : Bytes code) (hlen : code.length ≤ 1099511627776) (ha : a - code.length ≤ 4) (hvb : value ≤ mid) :
    Calls Try.prog 61 #[.pointer (some ⟨g, 0, none⟩), .int .i64 i] w (RGetPost w S g kind b c st low high mid vc code a value i 1) := by
  have HE := Aside0.mk hE
  have hSg : S g := hE.g
  have hSb2 : S b := hE.s.1 b (by simp [Value.ownBlock])
  obtain ⟨Ac, cc, hvc⟩ := Kd.R_slice hE.o
  subst hvc
  have k0 := hE.c0
  have k1 := hE.c1
  have k8 := hE.c8
  have ks : w.cell? ⟨b, i, none⟩ = some (.int .i64 (rd st i)) := by obtain ⟨b', hA, hc, _⟩ := hE.cell hi; cases hA; exact hc
  have hlk := likely_range kind (rd st i) hs
  have HMID := fun W => Aside0.mk (hmid ▸ rmid_calls low high (likely kind (rd st i)) W hl0 hlh hh hlk.1 hlk.2)
  have HP := fun W => Aside0.mk (hmid ▸ part_calls low high (likely kind (rd st i)) 1 W hl0 hlh hh hlk.1 hlk.2)
  have HI := Aside0.mk hI0
  have HBY := Aside0.mk hby
  have HSB := Aside0.mk hSb
  have hu := Try.underlying101
  clear hE hmid hI0 hby hSb
  have hi1 : (0 : Int) ≤ (i : Int) := by omega
  have hi2 : (i : Int) < (st.length : Int) := by omega
  go_enter Try.func61, Try.ntmps61
  go_wp2
  refine start_ (n := 15) (S := fun w' => w'.cell? ⟨g, 0, none⟩ = some (.int .i64 kind) ∧ w'.cell? ⟨g, 1, none⟩ = some (.slice (some ⟨b, 0, none⟩) st.length c) ∧ w'.cell? ⟨b, i, none⟩ = some (.int .i64 (rd st i))) (ds := []) #[false, false, false, false, false, false, false, false, false, false, false, false, false, false, false] (by kernel_rfl) rfl rfl ⟨k0, k1, ks⟩ (fun hHeld => ?_)
  refine pure_ (i := 0) (N := some 30) (v := ?_) (a' := ?_) #[true, false, false, false, false, false, false, false, false, false, false, false, false, false, false] rfl rfl (by kernel_rfl) (fun _ _ _ h => h) (Or.inl ⟨by rfl, ?_⟩) ?_ ?_
  rotate_left
  · intro w'
    go_simp
    with_reducible rfl
  rotate_left
  · simp only [Act.put, List.setIfInBounds_toArray, List.set_cons_zero, List.set_cons_succ, i64_w, i32_w]
    rfl
  refine pure_ (i := 1) (N := some 31) (v := ?_) (a' := ?_) #[true, true, false, false, false, false, false, false, false, false, false, false, false, false, false] rfl rfl (by kernel_rfl) (fun _ _ _ h => h) (Or.inl ⟨by rfl, ?_⟩) ?_ ?_
  rotate_left
  · intro w'
    go_simp
    with_reducible rfl
  rotate_left
  · simp only [Act.put, List.setIfInBounds_toArray, List.set_cons_zero, List.set_cons_succ, i64_w, i32_w]
    rfl
  refine pure_ (i := 2) (N := some 32) (v := ?_) (a' := ?_) #[true, true, true, false, false, false, false, false, false, false, false, false, false, false, false] rfl rfl (by kernel_rfl) (fun _ _ _ h => h) (Or.inl ⟨by rfl, ?_⟩) ?_ ?_
  rotate_left
  · intro w'
    go_simp
    with_reducible rfl
  rotate_left
  · simp only [Act.put, List.setIfInBounds_toArray, List.set_cons_zero, List.set_cons_succ, i64_w, i32_w]
    rfl
  refine pure_ (i := 3) (N := some 33) (v := ?_) (a' := ?_) #[true, true, true, true, false, false, false, false, false, false, false, false, false, false, false] rfl rfl (by kernel_rfl) (fun _ _ _ h => h) (Or.inl ⟨by rfl, ?_⟩) ?_ ?_
  rotate_left
  · intro w'
    go_simp
    with_reducible rfl
  rotate_left
  · simp only [Act.put, List.setIfInBounds_toArray, List.set_cons_zero, List.set_cons_succ, i64_w, i32_w]
    rfl
  refine pure_ (i := 5) (N := some 35) (v := ?_) (a' := ?_) #[true, true, true, true, false, true, false, false, false, false, false, false, false, false, false] rfl rfl (by kernel_rfl) (fun _ _ _ h => h) (Or.inl ⟨by rfl, ?_⟩) ?_ ?_
  rotate_left
  · intro w'
    go_simp
    with_reducible rfl
  rotate_left
  · simp only [Act.put, List.setIfInBounds_toArray, List.set_cons_zero, List.set_cons_succ, i64_w, i32_w]
    rfl
  refine pure_ (i := 6) (N := some 36) (v := ?_) (a' := ?_) #[true, true, true, true, false, true, true, false, false, false, false, false, false, false, false] rfl rfl (by kernel_rfl) (fun _ _ _ h => h) (Or.inl ⟨by rfl, ?_⟩) ?_ ?_
  rotate_left
  · intro w'
    go_simp
    with_reducible rfl
  rotate_left
  · simp only [Act.put, List.setIfInBounds_toArray, List.set_cons_zero, List.set_cons_succ, i64_w, i32_w]
    rfl
  refine pure_ (i := 7) (N := some 37) (v := ?_) (a' := ?_) #[true, true, true, true, false, true, true, true, false, false, false, false, false, false, false] rfl rfl (by kernel_rfl) (fun _ _ _ h => h) (Or.inl ⟨by rfl, ?_⟩) ?_ ?_
  rotate_left
  · intro w'
    go_simp
    with_reducible rfl
  rotate_left
  · simp only [Act.put, List.setIfInBounds_toArray, List.set_cons_zero, List.set_cons_succ, i64_w, i32_w]
    rfl
  refine pure_ (i := 8) (N := some 38) (v := ?_) (a' := ?_) #[true, true, true, true, false, true, true, true, true, false, false, false, false, false, false] rfl rfl (by kernel_rfl) (fun _ _ _ h => h) (Or.inl ⟨by rfl, ?_⟩) ?_ ?_
  rotate_left
  · intro w'
    go_simp
    with_reducible rfl
  rotate_left
  · simp only [Act.put, List.setIfInBounds_toArray, List.set_cons_zero, List.set_cons_succ, i64_w, i32_w]
    rfl
  refine pure_ (i := 10) (N := some 40) (v := ?_) (a' := ?_) #[true, true, true, true, false, true, true, true, true, false, true, false, false, false, false] rfl rfl (by kernel_rfl) (fun _ _ _ h => h) (Or.inl ⟨by rfl, ?_⟩) ?_ ?_
  rotate_left
  · intro w'
    go_simp
    with_reducible rfl
  rotate_left
  · simp only [Act.put, List.setIfInBounds_toArray, List.set_cons_zero, List.set_cons_succ, i64_w, i32_w]
    rfl
  refine take_ (i := 4) (N := some 34) (v := ?_) (a' := ?_) #[true, true, true, true, true, true, true, true, true, false, true, false, false, false, false] rfl rfl (by kernel_rfl) (fun _ _ _ h => h) (Or.inl ⟨by rfl, ?_⟩) hHeld ?_ ?_
  rotate_left
  · rintro w' ⟨s0, s1, s2⟩
    go_simp
    with_reducible rfl
  rotate_left
  · simp only [Act.put, List.setIfInBounds_toArray, List.set_cons_zero, List.set_cons_succ, i64_w, i32_w]
    rfl
  refine take_ (i := 9) (N := some 39) (v := ?_) (a' := ?_) #[true, true, true, true, true, true, true, true, true, true, true, false, false, false, false] rfl rfl (by kernel_rfl) (fun _ _ _ h => h) (Or.inl ⟨by rfl, ?_⟩) hHeld ?_ ?_
  rotate_left
  · rintro w' ⟨s0, s1, s2⟩
    go_simp
    with_reducible rfl
  rotate_left
  · simp only [Act.put, List.setIfInBounds_toArray, List.set_cons_zero, List.set_cons_succ, i64_w, i32_w]
    rfl
  refine pure_ (i := 11) (N := some 41) (v := ?_) (a' := ?_) #[true, true, true, true, true, true, true, true, true, true, true, true, false, false, false] rfl rfl (by kernel_rfl) (fun _ _ _ h => h) (Or.inl ⟨by rfl, ?_⟩) ?_ ?_
  rotate_left
  · intro w'
    go_simp
    with_reducible rfl
  rotate_left
  · simp only [Act.put, List.setIfInBounds_toArray, List.set_cons_zero, List.set_cons_succ, i64_w, i32_w]
    rfl
  refine take_ (i := 12) (N := some 42) (v := ?_) (a' := ?_) #[true, true, true, true, true, true, true, true, true, true, true, true, true, false, false] rfl rfl (by kernel_rfl) (fun _ _ _ h => h) (Or.inl ⟨by rfl, ?_⟩) hHeld ?_ ?_
  rotate_left
  · rintro w' ⟨s0, s1, s2⟩
    go_simp
    with_reducible rfl
  rotate_left
  · simp only [Act.put, List.setIfInBounds_toArray, List.set_cons_zero, List.set_cons_succ, i64_w, i32_w]
    rfl
  refine one_ (i := 13) (N := some 43) #[true, true, true, true, true, true, true, true, true, true, true, true, true, true, false] rfl rfl (by kernel_rfl) (by decide) (fun K hK => ?_)
  refine goes_ Try.func77 (by kernel_rfl) rfl #[.int .i64 kind, .int .i64 (rd st i)] (by rfl) rfl rfl (by simp only [List.map_toArray, List.map_cons, List.map_nil]; rfl) ?_
  with_reducible refine (likelyB kind (rd st i) _ hs).mono ?_
  rintro e w3 ⟨rfl, hb3⟩
  refine ⟨_, rfl, ?_⟩
  have hb3' := below_undrew1 hb3
  have HE3 := Aside0.mk (HE.out.below hb3')
  have HM3 := Aside0.mk ((Mods.refl w S).below hb3')
  clear hb3 hb3'
  refine hK.out _ _ ⟨HE3.out.c0, HE3.out.c1, by obtain ⟨b', hA, hc, _⟩ := HE3.out.cell hi; cases hA; exact hc⟩ (fun hHeld => ?_)
  clear hK K
  refine norm_ (a' := ?_) ?_ ?_
  rotate_left
  · show Act.put _ (some 43) _ = _
    simp only [Act.put, List.setIfInBounds_toArray, List.set_cons_zero, List.set_cons_succ, i64_w, i32_w]
    rfl
  refine pure_ (i := 14) (N := some 6) (v := ?_) (a' := ?_) #[true, true, true, true, true, true, true, true, true, true, true, true, true, true, true] rfl rfl (by kernel_rfl) (fun _ _ _ h => h) (Or.inl ⟨by rfl, ?_⟩) ?_ ?_
  rotate_left
  · intro w'
    go_simp
    with_reducible rfl
  rotate_left
  · simp only [Act.put, List.setIfInBounds_toArray, List.set_cons_zero, List.set_cons_succ, i64_w, i32_w]
    rfl
  refine done_ (by kernel_rfl) ?_
  clear k0 k1 ks k8 HE
  go_wp2
  have HE3 := Aside0.mk HE3.out.drew
  have HM3 := Aside0.mk HM3.out.drew
  have k2 := HE3.out.c2
  have k3 := HE3.out.c3
  have k6 := HE3.out.c6
  refine start_ (n := 11) (S := fun w' => w'.cell? ⟨g, 2, none⟩ = some (.int .u64 low) ∧ w'.cell? ⟨g, 3, none⟩ = some (.int .u64 high) ∧ w'.cell? ⟨g, 6, none⟩ = some (.int .u64 value)) (ds := []) #[false, false, false, false, false, false, false, false, false, false, false] (by kernel_rfl) rfl rfl ⟨k2, k3, k6⟩ (fun hHeld => ?_)
  refine pure_ (i := 0) (N := some 44) (v := ?_) (a' := ?_) #[true, false, false, false, false, false, false, false, false, false, false] rfl rfl (by kernel_rfl) (fun _ _ _ h => h) (Or.inl ⟨by rfl, ?_⟩) ?_ ?_
  rotate_left
  · intro w'
    go_simp
    with_reducible rfl
  rotate_left
  · simp only [Act.put, List.setIfInBounds_toArray, List.set_cons_zero, List.set_cons_succ, i64_w, i32_w]
    rfl
  refine pure_ (i := 1) (N := some 45) (v := ?_) (a' := ?_) #[true, true, false, false, false, false, false, false, false, false, false] rfl rfl (by kernel_rfl) (fun _ _ _ h => h) (Or.inl ⟨by rfl, ?_⟩) ?_ ?_
  rotate_left
  · intro w'
    go_simp
    with_reducible rfl
  rotate_left
  · simp only [Act.put, List.setIfInBounds_toArray, List.set_cons_zero, List.set_cons_succ, i64_w, i32_w]
    rfl
  refine pure_ (i := 2) (N := some 46) (v := ?_) (a' := ?_) #[true, true, true, false, false, false, false, false, false, false, false] rfl rfl (by kernel_rfl) (fun _ _ _ h => h) (Or.inl ⟨by rfl, ?_⟩) ?_ ?_
  rotate_left
  · intro w'
    go_simp
    with_reducible rfl
  rotate_left
  · simp only [Act.put, List.setIfInBounds_toArray, List.set_cons_zero, List.set_cons_succ, i64_w, i32_w]
    rfl
  refine pure_ (i := 4) (N := some 48) (v := ?_) (a' := ?_) #[true, true, true, false, true, false, false, false, false, false, false] rfl rfl (by kernel_rfl) (fun _ _ _ h => h) (Or.inl ⟨by rfl, ?_⟩) ?_ ?_
  rotate_left
  · intro w'
    go_simp
    with_reducible rfl
  rotate_left
  · simp only [Act.put, List.setIfInBounds_toArray, List.set_cons_zero, List.set_cons_succ, i64_w, i32_w]
    rfl
  refine pure_ (i := 5) (N := some 49) (v := ?_) (a' := ?_) #[true, true, true, false, true, true, false, false, false, false, false] rfl rfl (by kernel_rfl) (fun _ _ _ h => h) (Or.inl ⟨by rfl, ?_⟩) ?_ ?_
  rotate_left
  · intro w'
    go_simp
    with_reducible rfl
  rotate_left
  · simp only [Act.put, List.setIfInBounds_toArray, List.set_cons_zero, List.set_cons_succ, i64_w, i32_w]
    rfl
  refine pure_ (i := 6) (N := some 50) (v := ?_) (a' := ?_) #[true, true, true, false, true, true, true, false, false, false, false] rfl rfl (by kernel_rfl) (fun _ _ _ h => h) (Or.inl ⟨by rfl, ?_⟩) ?_ ?_
  rotate_left
  · intro w'
    go_simp
    with_reducible rfl
  rotate_left
  · simp only [Act.put, List.setIfInBounds_toArray, List.set_cons_zero, List.set_cons_succ, i64_w, i32_w]
    rfl
  refine pure_ (i := 8) (N := some 52) (v := ?_) (a' := ?_) #[true, true, true, false, true, true, true, false, true, false, false] rfl rfl (by kernel_rfl) (fun _ _ _ h => h) (Or.inl ⟨by rfl, ?_⟩) ?_ ?_
  rotate_left
  · intro w'
    go_simp
    with_reducible rfl
  rotate_left
  · simp only [Act.put, List.setIfInBounds_toArray, List.set_cons_zero, List.set_cons_succ, i64_w, i32_w]
    rfl
  refine take_ (i := 3) (N := some 47) (v := ?_) (a' := ?_) #[true, true, true, true, true, true, true, false, true, false, false] rfl rfl (by kernel_rfl) (fun _ _ _ h => h) (Or.inl ⟨by rfl, ?_⟩) hHeld ?_ ?_
  rotate_left
  · rintro w' ⟨s0, s1, s2⟩
    go_simp
    with_reducible rfl
  rotate_left
  · simp only [Act.put, List.setIfInBounds_toArray, List.set_cons_zero, List.set_cons_succ, i64_w, i32_w]
    rfl
  refine take_ (i := 7) (N := some 51) (v := ?_) (a' := ?_) #[true, true, true, true, true, true, true, true, true, false, false] rfl rfl (by kernel_rfl) (fun _ _ _ h => h) (Or.inl ⟨by rfl, ?_⟩) hHeld ?_ ?_
  rotate_left
  · rintro w' ⟨s0, s1, s2⟩
    go_simp
    with_reducible rfl
  rotate_left
  · simp only [Act.put, List.setIfInBounds_toArray, List.set_cons_zero, List.set_cons_succ, i64_w, i32_w]
    rfl
  refine one_ (i := 9) (N := some 53) #[true, true, true, true, true, true, true, true, true, true, false] rfl rfl (by kernel_rfl) (by decide) (fun K hK => ?_)
  refine goes_ Try.func78 (by kernel_rfl) rfl #[.agg #[.int .u64 low, .int .u64 high], .int .i64 (likely kind (rd st i))] (by rfl) rfl rfl (by simp only [List.map_toArray, List.map_cons, List.map_nil]; rfl) ?_
  with_reducible refine ((HMID _).out).mono ?_
  rintro e w4 ⟨rfl, hb4⟩
  refine ⟨_, rfl, ?_⟩
  have HE4 := Aside0.mk (HE3.out.below hb4)
  have HM4 := Aside0.mk (HM3.out.below hb4)
  clear hb4
  refine hK.out _ _ ⟨HE4.out.c2, HE4.out.c3, HE4.out.c6⟩ (fun hHeld => ?_)
  clear hK K
  refine norm_ (a' := ?_) ?_ ?_
  rotate_left
  · show Act.put _ (some 53) _ = _
    simp only [Act.put, List.setIfInBounds_toArray, List.set_cons_zero, List.set_cons_succ, i64_w, i32_w]
    rfl
  refine pure_ (i := 10) (N := some 54) (v := ?_) (a' := ?_) #[true, true, true, true, true, true, true, true, true, true, true] rfl rfl (by kernel_rfl) (fun _ _ _ h => h) (Or.inl ⟨by rfl, ?_⟩) ?_ ?_
  rotate_left
  · intro w'
    go_simp
    with_reducible rfl
  rotate_left
  · simp only [Act.put, List.setIfInBounds_toArray, List.set_cons_zero, List.set_cons_succ, i64_w, i32_w]
    rfl
  refine done_ (by kernel_rfl) ?_
  clear k2 k3 k6 HE3 HM3
  go_wp2
  have HE4 := Aside0.mk HE4.out.drew
  have HM4 := Aside0.mk HM4.out.drew
  have p2 := HE4.out.c2
  have p3 := HE4.out.c3
  have p5 := HE4.out.c5
  have p6 := HE4.out.c6
  refine start_ (n := 19) (S := fun w' => w'.cell? ⟨g, 2, none⟩ = some (.int .u64 low) ∧ w'.cell? ⟨g, 3, none⟩ = some (.int .u64 high) ∧ w'.cell? ⟨g, 5, none⟩ = some (.int .i64 a) ∧ w'.cell? ⟨g, 6, none⟩ = some (.int .u64 value)) (ds := []) #[false, false, false, false, false, false, false, false, false, false, false, false, false, false, false, false, false, false, false] (by kernel_rfl) rfl rfl ⟨p2, p3, p5, p6⟩ (fun hHeld => ?_)
  generalize w4.drew = wd at p2 p3 p5 p6 HE4 HM4 hHeld ⊢
  refine pure_ (i := 0) (N := some 55) (v := ?_) (a' := ?_) #[true, false, false, false, false, false, false, false, false, false, false, false, false, false, false, false, false, false, false] rfl rfl (by kernel_rfl) (fun _ _ _ h => h) (Or.inl ⟨by rfl, ?_⟩) ?_ ?_
  rotate_left
  · intro w'
    go_simp
    with_reducible rfl
  rotate_left
  · simp only [Act.put, List.setIfInBounds_toArray, List.set_cons_zero, List.set_cons_succ, i64_w, i32_w]
    rfl
  refine pure_ (i := 1) (N := some 56) (v := ?_) (a' := ?_) #[true, true, false, false, false, false, false, false, false, false, false, false, false, false, false, false, false, false, false] rfl rfl (by kernel_rfl) (fun _ _ _ h => h) (Or.inl ⟨by rfl, ?_⟩) ?_ ?_
  rotate_left
  · intro w'
    go_simp
    with_reducible rfl
  rotate_left
  · simp only [Act.put, List.setIfInBounds_toArray, List.set_cons_zero, List.set_cons_succ, i64_w, i32_w]
    rfl
  refine pure_ (i := 2) (N := some 57) (v := ?_) (a' := ?_) #[true, true, true, false, false, false, false, false, false, false, false, false, false, false, false, false, false, false, false] rfl rfl (by kernel_rfl) (fun _ _ _ h => h) (Or.inl ⟨by rfl, ?_⟩) ?_ ?_
  rotate_left
  · intro w'
    go_simp
    with_reducible rfl
  rotate_left
  · simp only [Act.put, List.setIfInBounds_toArray, List.set_cons_zero, List.set_cons_succ, i64_w, i32_w]
    rfl
  refine pure_ (i := 4) (N := some 59) (v := ?_) (a' := ?_) #[true, true, true, false, true, false, false, false, false, false, false, false, false, false, false, false, false, false, false] rfl rfl (by kernel_rfl) (fun _ _ _ h => h) (Or.inl ⟨by rfl, ?_⟩) ?_ ?_
  rotate_left
  · intro w'
    go_simp
    with_reducible rfl
  rotate_left
  · simp only [Act.put, List.setIfInBounds_toArray, List.set_cons_zero, List.set_cons_succ, i64_w, i32_w]
    rfl
  refine pure_ (i := 5) (N := some 60) (v := ?_) (a' := ?_) #[true, true, true, false, true, true, false, false, false, false, false, false, false, false, false, false, false, false, false] rfl rfl (by kernel_rfl) (fun _ _ _ h => h) (Or.inl ⟨by rfl, ?_⟩) ?_ ?_
  rotate_left
  · intro w'
    go_simp
    with_reducible rfl
  rotate_left
  · simp only [Act.put, List.setIfInBounds_toArray, List.set_cons_zero, List.set_cons_succ, i64_w, i32_w]
    rfl
  refine pure_ (i := 7) (N := some 62) (v := ?_) (a' := ?_) #[true, true, true, false, true, true, false, true, false, false, false, false, false, false, false, false, false, false, false] rfl rfl (by kernel_rfl) (fun _ _ _ h => h) (Or.inl ⟨by rfl, ?_⟩) ?_ ?_
  rotate_left
  · intro w'
    go_simp
    with_reducible rfl
  rotate_left
  · simp only [Act.put, List.setIfInBounds_toArray, List.set_cons_zero, List.set_cons_succ, i64_w, i32_w]
    rfl
  refine pure_ (i := 8) (N := some 63) (v := ?_) (a' := ?_) #[true, true, true, false, true, true, false, true, true, false, false, false, false, false, false, false, false, false, false] rfl rfl (by kernel_rfl) (fun _ _ _ h => h) (Or.inl ⟨by rfl, ?_⟩) ?_ ?_
  rotate_left
  · intro w'
    go_simp
    with_reducible rfl
  rotate_left
  · simp only [Act.put, List.setIfInBounds_toArray, List.set_cons_zero, List.set_cons_succ, i64_w, i32_w]
    rfl
  refine pure_ (i := 9) (N := some 64) (v := ?_) (a' := ?_) #[true, true, true, false, true, true, false, true, true, true, false, false, false, false, false, false, false, false, false] rfl rfl (by kernel_rfl) (fun _ _ _ h => h) (Or.inl ⟨by rfl, ?_⟩) ?_ ?_
  rotate_left
  · intro w'
    go_simp
    with_reducible rfl
  rotate_left
  · simp only [Act.put, List.setIfInBounds_toArray, List.set_cons_zero, List.set_cons_succ, i64_w, i32_w]
    rfl
  refine pure_ (i := 11) (N := some 66) (v := ?_) (a' := ?_) #[true, true, true, false, true, true, false, true, true, true, false, true, false, false, false, false, false, false, false] rfl rfl (by kernel_rfl) (fun _ _ _ h => h) (Or.inl ⟨by rfl, ?_⟩) ?_ ?_
  rotate_left
  · intro w'
    go_simp
    with_reducible rfl
  rotate_left
  · simp only [Act.put, List.setIfInBounds_toArray, List.set_cons_zero, List.set_cons_succ, i64_w, i32_w]
    rfl
  refine pure_ (i := 12) (N := some 67) (v := ?_) (a' := ?_) #[true, true, true, false, true, true, false, true, true, true, false, true, true, false, false, false, false, false, false] rfl rfl (by kernel_rfl) (fun _ _ _ h => h) (Or.inl ⟨by rfl, ?_⟩) ?_ ?_
  rotate_left
  · intro w'
    go_simp
    with_reducible rfl
  rotate_left
  · simp only [Act.put, List.setIfInBounds_toArray, List.set_cons_zero, List.set_cons_succ, i64_w, i32_w]
    rfl
  refine pure_ (i := 13) (N := some 68) (v := ?_) (a' := ?_) #[true, true, true, false, true, true, false, true, true, true, false, true, true, true, false, false, false, false, false] rfl rfl (by kernel_rfl) (fun _ _ _ h => h) (Or.inl ⟨by rfl, ?_⟩) ?_ ?_
  rotate_left
  · intro w'
    go_simp
    with_reducible rfl
  rotate_left
  · simp only [Act.put, List.setIfInBounds_toArray, List.set_cons_zero, List.set_cons_succ, i64_w, i32_w]
    rfl
  refine take_ (i := 3) (N := some 58) (v := ?_) (a' := ?_) #[true, true, true, true, true, true, false, true, true, true, false, true, true, true, false, false, false, false, false] rfl rfl (by kernel_rfl) (fun _ _ _ h => h) (Or.inl ⟨by rfl, ?_⟩) hHeld ?_ ?_
  rotate_left
  · rintro w' ⟨s0, s1, s2, s3⟩
    go_simp
    with_reducible rfl
  rotate_left
  · simp only [Act.put, List.setIfInBounds_toArray, List.set_cons_zero, List.set_cons_succ, i64_w, i32_w]
    rfl
  refine take_ (i := 10) (N := some 65) (v := ?_) (a' := ?_) #[true, true, true, true, true, true, false, true, true, true, true, true, true, true, false, false, false, false, false] rfl rfl (by kernel_rfl) (fun _ _ _ h => h) (Or.inl ⟨by rfl, ?_⟩) hHeld ?_ ?_
  rotate_left
  · rintro w' ⟨s0, s1, s2, s3⟩
    go_simp
    with_reducible rfl
  rotate_left
  · simp only [Act.put, List.setIfInBounds_toArray, List.set_cons_zero, List.set_cons_succ, i64_w, i32_w]
    rfl
  refine take_ (i := 14) (N := some 69) (v := ?_) (a' := ?_) #[true, true, true, true, true, true, false, true, true, true, true, true, true, true, true, false, false, false, false] rfl rfl (by kernel_rfl) (fun _ _ _ h => h) (Or.inl ⟨by rfl, ?_⟩) hHeld ?_ ?_
  rotate_left
  · rintro w' ⟨s0, s1, s2, s3⟩
    go_simp
    with_reducible rfl
  rotate_left
  · simp only [Act.put, List.setIfInBounds_toArray, List.set_cons_zero, List.set_cons_succ, i64_w, i32_w]
    rfl
  refine join_ (σ := Nat) 3 #[true, true, true, true, true, true, true, true, true, true, true, true, true, true, true, true, false, false, false] (fun s => [(61, .agg #[.int .u64 (cutL low mid 1), .int .u64 (cutH high mid 1)]), (8, .pointer (some ⟨s, 0, none⟩))]) (fun s w' => w'.heap[s]? = some (.cells #[.int .u64 0, .int .u64 0] 101 (0, 0)) ∧ wd.heap.size ≤ s ∧ Below wd.heap.size wd w') ?_ ?_
  rotate_left
  · intro hCont
    refine two_ (i := 6) (j := 15) (Ni := some 61) (Nj := some 8) #[true, true, true, true, true, true, true, true, true, true, true, true, true, true, true, false, false, false, false] #[true, true, true, true, true, true, false, true, true, true, true, true, true, true, true, true, false, false, false] rfl rfl rfl rfl (by kernel_rfl) (by decide) (by decide) (fun K hK => ?_) (fun K hK => ?_)
    · skip
      refine goes_ Try.func79 (by kernel_rfl) rfl #[.agg #[.int .u64 low, .int .u64 high], .int .i64 (likely kind (rd st i)), .int .i64 1] (by rfl) rfl rfl (by simp only [List.map_toArray, List.map_cons, List.map_nil]; rfl) ?_
      with_reducible refine ((HP _).out).mono ?_
      rintro e wk ⟨rfl, hk⟩
      refine ⟨_, rfl, ?_⟩
      have t2 := pw_cell_below hk p2
      have t3 := pw_cell_below hk p3
      have t5 := pw_cell_below hk p5
      have t6 := pw_cell_below hk p6
      refine hK.out _ _ ⟨t2, t3, t5, t6⟩ (fun hHeld => ?_)
      clear hK K
      refine norm_ (a' := ?_) ?_ ?_
      rotate_left
      · show Act.put _ (some 61) _ = _
        simp only [Act.put, List.setIfInBounds_toArray, List.set_cons_zero, List.set_cons_succ, i64_w, i32_w]
        rfl
      refine one_ (i := 15) (N := some 8) #[true, true, true, true, true, true, true, true, true, true, true, true, true, true, true, true, false, false, false] rfl rfl (by kernel_rfl) (by decide) (fun K hK => ?_)
      refine value_ (w1 := ?_) (v := ?_) (by rfl) rfl ?_ ?_
      rotate_left 2
      · go_simp
        constructor
        · rfl
        · rfl
      refine hK.out _ _ ⟨pw_cell_below (below_alloc (Below.refl _ _) _) t2, pw_cell_below (below_alloc (Below.refl _ _) _) t3, pw_cell_below (below_alloc (Below.refl _ _) _) t5, pw_cell_below (below_alloc (Below.refl _ _) _) t6⟩ (fun hHeld => ?_)
      clear hK K
      refine norm_ (a' := ?_) ?_ ?_
      rotate_left
      · show Act.put _ (some 8) _ = _
        simp only [Act.put, List.setIfInBounds_toArray, List.set_cons_zero, List.set_cons_succ, i64_w, i32_w]
        rfl
      exact norm_ (by simp only [putAll, Act.put, List.setIfInBounds_toArray, List.set_cons_zero, List.set_cons_succ]) (hCont wk.heap.size _ ⟨blk_new _ _, hk.size, below_alloc hk _⟩)
    · skip
      refine value_ (w1 := ?_) (v := ?_) (by rfl) rfl ?_ ?_
      rotate_left 2
      · go_simp
        constructor
        · rfl
        · rfl
      refine hK.out _ _ ⟨pw_cell_below (below_alloc (Below.refl _ _) _) p2, pw_cell_below (below_alloc (Below.refl _ _) _) p3, pw_cell_below (below_alloc (Below.refl _ _) _) p5, pw_cell_below (below_alloc (Below.refl _ _) _) p6⟩ (fun hHeld => ?_)
      clear hK K
      refine norm_ (a' := ?_) ?_ ?_
      rotate_left
      · show Act.put _ (some 8) _ = _
        simp only [Act.put, List.setIfInBounds_toArray, List.set_cons_zero, List.set_cons_succ, i64_w, i32_w]
        rfl
      refine one_ (i := 6) (N := some 61) #[true, true, true, true, true, true, true, true, true, true, true, true, true, true, true, true, false, false, false] rfl rfl (by kernel_rfl) (by decide) (fun K hK => ?_)
      refine goes_ Try.func79 (by kernel_rfl) rfl #[.agg #[.int .u64 low, .int .u64 high], .int .i64 (likely kind (rd st i)), .int .i64 1] (by rfl) rfl rfl (by simp only [List.map_toArray, List.map_cons, List.map_nil]; rfl) ?_
      with_reducible refine ((HP _).out).mono ?_
      rintro e wk ⟨rfl, hk⟩
      refine ⟨_, rfl, ?_⟩
      have t2 := pw_cell_below hk (pw_cell_below (below_alloc (Below.refl _ _) _) p2)
      have t3 := pw_cell_below hk (pw_cell_below (below_alloc (Below.refl _ _) _) p3)
      have t5 := pw_cell_below hk (pw_cell_below (below_alloc (Below.refl _ _) _) p5)
      have t6 := pw_cell_below hk (pw_cell_below (below_alloc (Below.refl _ _) _) p6)
      refine hK.out _ _ ⟨t2, t3, t5, t6⟩ (fun hHeld => ?_)
      clear hK K
      refine norm_ (a' := ?_) ?_ ?_
      rotate_left
      · show Act.put _ (some 61) _ = _
        simp only [Act.put, List.setIfInBounds_toArray, List.set_cons_zero, List.set_cons_succ, i64_w, i32_w]
        rfl
      exact norm_ (by simp only [putAll, Act.put, List.setIfInBounds_toArray, List.set_cons_zero, List.set_cons_succ]) (hCont wd.heap.size _ ⟨blk_below (blk_new _ _) hk, Nat.le_refl _, below_then (below_alloc (Below.refl _ _) _) (by simp) hk⟩)
  rintro q w5 ⟨hq, hqs, hqb⟩
  have t2 := pw_cell_below hqb p2
  have t3 := pw_cell_below hqb p3
  have t5 := pw_cell_below hqb p5
  have t6 := pw_cell_below hqb p6
  have hHeld : w5.cell? ⟨g, 2, none⟩ = some (.int .u64 low) ∧ w5.cell? ⟨g, 3, none⟩ = some (.int .u64 high) ∧ w5.cell? ⟨g, 5, none⟩ = some (.int .i64 a) ∧ w5.cell? ⟨g, 6, none⟩ = some (.int .u64 value) := ⟨t2, t3, t5, t6⟩
  have z0 : w5.cell? ⟨q, 0, none⟩ = some (.int .u64 0) := (blk_cell hq 0).trans rfl
  have z1 : w5.cell? ⟨q, 1, none⟩ = some (.int .u64 0) := (blk_cell hq 1).trans rfl
  have zf0 := blk_frozen hq 0
  have zf1 := blk_frozen hq 1
  have HQ := Aside0.mk hq
  have HQS := Aside0.mk hqs
  have HQB := Aside0.mk hqb
  clear hq hqs hqb
  refine norm_ (a' := ?_) ?_ ?_
  rotate_left
  · simp only [putAll, Act.put, List.setIfInBounds_toArray, List.set_cons_zero, List.set_cons_succ]
    rfl
  refine one_ (i := 16) (N := none) #[true, true, true, true, true, true, true, true, true, true, true, true, true, true, true, true, true, false, false] rfl rfl (by kernel_rfl) (by decide) (fun K hK => ?_)
  refine skip_ (w1 := ?_) (by rfl) rfl ?_ ?_
  rotate_left
  · go_simp
    rfl
  refine hK.out _ _ ⟨pw_cell_below ((HQB.out.setCell (p := ⟨q, 0, none⟩) HQS.out _).setCell (p := ⟨q, 1, none⟩) HQS.out _) p2, pw_cell_below ((HQB.out.setCell (p := ⟨q, 0, none⟩) HQS.out _).setCell (p := ⟨q, 1, none⟩) HQS.out _) p3, pw_cell_below ((HQB.out.setCell (p := ⟨q, 0, none⟩) HQS.out _).setCell (p := ⟨q, 1, none⟩) HQS.out _) p5, pw_cell_below ((HQB.out.setCell (p := ⟨q, 0, none⟩) HQS.out _).setCell (p := ⟨q, 1, none⟩) HQS.out _) p6⟩ (fun hHeld => ?_)
  clear hK K
  refine pure_ (i := 17) (N := some 9) (v := ?_) (a' := ?_) #[true, true, true, true, true, true, true, true, true, true, true, true, true, true, true, true, true, true, false] rfl rfl (by kernel_rfl) (fun _ _ _ h => h) (Or.inl ⟨by rfl, ?_⟩) ?_ ?_
  rotate_left
  · intro w'
    go_simp
    with_reducible rfl
  rotate_left
  · simp only [Act.put, List.setIfInBounds_toArray, List.set_cons_zero, List.set_cons_succ, i64_w, i32_w]
    rfl
  refine pure_ (i := 18) (N := some 10) (v := ?_) (a' := ?_) #[true, true, true, true, true, true, true, true, true, true, true, true, true, true, true, true, true, true, true] rfl rfl (by kernel_rfl) (fun _ _ _ h => h) (Or.inl ⟨by rfl, ?_⟩) ?_ ?_
  rotate_left
  · intro w'
    go_simp
    with_reducible rfl
  rotate_left
  · simp only [Act.put, List.setIfInBounds_toArray, List.set_cons_zero, List.set_cons_succ, i64_w, i32_w]
    rfl
  refine done_ (by kernel_rfl) ?_
  obtain ⟨w6, hw6⟩ : ∃ w6, w6 = (w5.setCell ⟨q, 0, none⟩ (.int .u64 (cutL low mid 1))).setCell ⟨q, 1, none⟩ (.int .u64 (cutH high mid 1)) := ⟨_, rfl⟩
  rw [← hw6]
  have hB6 : Below wd.heap.size wd w6 := hw6 ▸ (HQB.out.setCell (p := ⟨q, 0, none⟩) HQS.out _).setCell (p := ⟨q, 1, none⟩) HQS.out _
  have hq1 : (w5.setCell ⟨q, 0, none⟩ (.int .u64 (cutL low mid 1))).heap[q]? = some (.cells #[.int .u64 (cutL low mid 1), .int .u64 0] 101 (0, 0)) := blk_put (cs := #[.int .u64 0, .int .u64 0]) HQ.out 0 _ rfl
  have HQ6 := Aside0.mk (show w6.heap[q]? = some (.cells #[.int .u64 (cutL low mid 1), .int .u64 (cutH high mid 1)] 101 (0, 0)) from hw6 ▸ blk_put (cs := #[.int .u64 (cutL low mid 1), .int .u64 0]) hq1 1 _ rfl)
  have HE6 := Aside0.mk (HE4.out.below hB6)
  have HM6 := Aside0.mk (HM4.out.below hB6)
  have hqn : ¬ S q := fun hk => by have h1 := HSB.out q hk; have h2 := HM4.out.size; have h3 := HQS.out; omega
  have hgq : g ≠ q := fun he => hqn (he ▸ hSg)
  have HQN := Aside0.mk hqn
  have HQS2 := Aside0.mk (show w.heap.size ≤ q from Nat.le_trans HM4.out.size HQS.out)
  clear hw6 hB6 hq1 hqn HE4 HM4 HQ HQS HQB z0 z1 zf0 zf1 t2 t3 t5 t6 p2 p3 p5 p6
  go_wp2
  try rw [decide_eq_true hvb]
  try simp only [decide_eq_false (show ¬ st.length ≤ i by omega), Bool.or_false]
  go_loopg [9, 10] 4 (fun d s9 s10 wr => ∃ (l h : Int) (n : List Int) (k : Nat) (v : Int), s9 = .int .i64 k ∧ s10 = .int .u64 v ∧ (0 ≤ v ∧ v ≤ 4294967295) ∧ Aside0 (k = a + n.length ∧ v = shV code n.length value a) ∧ Aside0 (RDecRow wr S g kind (some ⟨b, 0, none⟩) c st low high (.slice Ac code.length cc) code a value ((a - code.length : Nat) : Int) false) ∧ Aside0 (Mods w wr S) ∧ Aside0 (wr.heap[q]? = some (.cells #[.int .u64 l, .int .u64 h] 101 (0, 0))) ∧ Aside0 (PutInv [] (cutL low mid 1) (cutH high mid 1) d l h n))
  case atStart => exact ⟨_, _, [], a, value, rfl, rfl, ⟨hv0, hv1⟩, ⟨rfl, rfl⟩, HE6, HM6, HQ6, HI⟩
  clear HE6 HM6 HQ6 HI
  case round =>
    obtain ⟨l, h, n, k, v, rfl, rfl, hv, HKV, HE7, HM7, HQ7, HPI⟩ := hrel
    have hp0 := HPI.out.l0
    have hp1 := HPI.out.lh
    have hp2 := HPI.out.h0
    have hp3 := HPI.out.len
    rw [List.length_nil] at hp3
    have hka : k ≤ 2199023255552 := by have := HKV.out.1; omega
    have hs7 := fixed_calls l h
    have z0 : wr.cell? ⟨q, 0, none⟩ = some (.int .u64 l) := (blk_cell HQ7.out 0).trans rfl
    have z1 : wr.cell? ⟨q, 1, none⟩ = some (.int .u64 h) := (blk_cell HQ7.out 1).trans rfl
    by_cases cx : l / 16777216 = h / 16777216
    · rw [decide_eq_true cx] at hs7
      have HSA := Aside0.mk hs7
      clear hs7
      obtain ⟨d', hd', hP'⟩ := HPI.out.step cx
      have HP' := Aside0.mk hP'
      have HD := Aside0.mk hd'
      have hbr := byteOf_range HBY.out k
      clear hd' hP' cx
      go_wp2_with (first
        | (go_at_call 80; refine (HSA.out _).mono ?_; rintro e w8 ⟨rfl, hb8⟩; have HE8 := Aside0.mk (HE7.out.below hb8); have HM8 := Aside0.mk (HM7.out.below hb8); have HQ8 := Aside0.mk (blk_below HQ7.out hb8); have z0 : w8.cell? ⟨q, 0, none⟩ = some (.int .u64 l) := (blk_cell HQ8.out 0).trans rfl; have z1 : w8.cell? ⟨q, 1, none⟩ = some (.int .u64 h) := (blk_cell HQ8.out 1).trans rfl; clear hb8)
        | (go_at_call 81; refine (shift_calls l h _ hp0 (by omega) (by omega) hp2).mono ?_; rintro e w9 ⟨rfl, hb9⟩; have HE9 := Aside0.mk (HE8.out.below hb9); have HM9 := Aside0.mk (HM8.out.below hb9); have HQ9 := Aside0.mk (blk_below HQ8.out hb9); have z0 : w9.cell? ⟨q, 0, none⟩ = some (.int .u64 l) := (blk_cell HQ9.out 0).trans rfl; have z1 : w9.cell? ⟨q, 1, none⟩ = some (.int .u64 h) := (blk_cell HQ9.out 1).trans rfl; have zf0 := blk_frozen HQ9.out 0; have zf1 := blk_frozen HQ9.out 1; have k4 := HE9.out.c4; clear hb9))
      obtain ⟨w10, hw10⟩ : ∃ w10, w10 = (w9.setCell ⟨q, 0, none⟩ (.int .u64 (l % 16777216 * 256))).setCell ⟨q, 1, none⟩ (.int .u64 (h % 16777216 * 256 + 255)) := ⟨_, rfl⟩
      rw [← hw10]
      have hq10 : (w9.setCell ⟨q, 0, none⟩ (.int .u64 (l % 16777216 * 256))).heap[q]? = some (.cells #[.int .u64 (l % 16777216 * 256), .int .u64 h] 101 (0, 0)) := blk_put (cs := #[.int .u64 l, .int .u64 h]) HQ9.out 0 _ rfl
      have HQ10 := Aside0.mk (show w10.heap[q]? = some (.cells #[.int .u64 (l % 16777216 * 256), .int .u64 (h % 16777216 * 256 + 255)] 101 (0, 0)) from hw10 ▸ blk_put (cs := #[.int .u64 (l % 16777216 * 256), .int .u64 h]) hq10 1 _ rfl)
      have HE10 := Aside0.mk (show RDecRow w10 S g kind (some ⟨b, 0, none⟩) c st low high (.slice Ac code.length cc) code a value ((a - code.length : Nat) : Int) false from hw10 ▸ (HE9.out.far (p := ⟨q, 0, none⟩) HQN.out _).far (p := ⟨q, 1, none⟩) HQN.out _)
      have hqs : w.heap.size ≤ q := by have h1 := HQS2.out; omega
      have HM10 := Aside0.mk (show Mods w w10 S from hw10 ▸ (HM9.out.setCell (p := ⟨q, 0, none⟩) (.inr hqs) _).setCell (p := ⟨q, 1, none⟩) (.inr hqs) _)
      clear hw10 hq10 hqs z0 z1 zf0 zf1 k4 HE9 HM9 HQ9 HE8 HM8 HQ8
      refine (byte_calls Ac cc code k _ (Kd.R_reads' HE10.out.o).2.2 HBY.out).mono ?_
      rintro e w11 ⟨rfl, rfl⟩
      go_wp2
      go_roundg d'
      case measure => have := HD.out; omega
      case rel =>
        have h1 := HKV.out
        refine ⟨_, _, _, k + 1, _, rfl, rfl, by omega, ⟨?_, ?_⟩, HE10, HM10, HQ10, HP'⟩
        · rw [List.length_append, List.length_cons, List.length_nil, h1.1]
          omega
        · rw [List.length_append, List.length_cons, List.length_nil, Nat.zero_add, shV_succ, ← h1.2, ← h1.1]
    · rw [decide_eq_false cx] at hs7
      have HSA := Aside0.mk hs7
      clear hs7
      have HCC := Aside0.mk (HPI.out.done cx)
      clear cx
      have HN := Aside0.mk (show normE 4 (cutL low mid 1) (cutH high mid 1) = (n, l, h) from by
        have h1 := HCC.out
        rw [List.nil_append] at h1
        exact Prod.ext h1.1.symm h1.2)
      obtain ⟨be, hbe⟩ : ∃ be : Nat, k - code.length = be := ⟨_, rfl⟩
      have HBE := Aside0.mk hbe
      have hbk : be ≤ 2199023255552 := by omega
      by_cases hb4 : (be : Int) > 4
      · have HB4 := Aside0.mk hb4
        go_wp2_with (go_at_call 80; refine (HSA.out _).mono ?_; rintro e w8 ⟨rfl, hb8⟩; have HE8 := Aside0.mk (HE7.out.below hb8); have HM8 := Aside0.mk (HM7.out.below hb8); have k4 := HE8.out.c4; have k8 := HE8.out.c8; have f8 := HE8.out.fz 8; clear hb8)
        go_ret2
        have h1 := HKV.out
        refine ⟨⟨l, h, n, HN.out, .inl ⟨by have := HB4.out; have := HBE.out; omega, rfl, HE8.out.put 8 _ rfl⟩⟩, HM8.out.setCell (.inl hSg) _⟩
      · have HB4 := Aside0.mk hb4
        go_wp2_with (go_at_call 80; refine (HSA.out _).mono ?_; rintro e w8 ⟨rfl, hb8⟩; have HE8 := Aside0.mk (HE7.out.below hb8); have HM8 := Aside0.mk (HM7.out.below hb8); have HQ8 := Aside0.mk (blk_below HQ7.out hb8); have k4 := HE8.out.c4; clear hb8)
        have HE8 := Aside0.mk HE8.out.drew
        have HM8 := Aside0.mk HM8.out.drew
        have HQ8 := Aside0.mk (blk_drew HQ8.out)
        have k0 := HE8.out.c0
        have k1 := HE8.out.c1
        have ks : w8.drew.cell? ⟨b, i, none⟩ = some (.int .i64 (rd st i)) := by obtain ⟨b', hA, hc, _⟩ := HE8.out.cell hi; cases hA; exact hc
        clear k4
        refine start_ (n := 23) (S := fun w' => w'.cell? ⟨g, 0, none⟩ = some (.int .i64 kind) ∧ w'.cell? ⟨g, 1, none⟩ = some (.slice (some ⟨b, 0, none⟩) st.length c) ∧ w'.cell? ⟨b, i, none⟩ = some (.int .i64 (rd st i))) (ds := [22]) #[false, false, false, false, false, false, false, false, false, false, false, false, false, false, false, false, false, false, false, false, false, false, false] (by kernel_rfl) rfl rfl ⟨k0, k1, ks⟩ (fun hHeld => ?_)
        refine pure_ (i := 0) (N := some 99) (v := ?_) (a' := ?_) #[true, false, false, false, false, false, false, false, false, false, false, false, false, false, false, false, false, false, false, false, false, false, false] rfl rfl (by kernel_rfl) (fun _ _ _ h => h) (Or.inl ⟨by rfl, ?_⟩) ?_ ?_
        rotate_left
        · intro w'
          go_simp
          with_reducible rfl
        rotate_left
        · simp only [Act.put, List.setIfInBounds_toArray, List.set_cons_zero, List.set_cons_succ, i64_w, i32_w]
          rfl
        refine pure_ (i := 1) (N := some 100) (v := ?_) (a' := ?_) #[true, true, false, false, false, false, false, false, false, false, false, false, false, false, false, false, false, false, false, false, false, false, false] rfl rfl (by kernel_rfl) (fun _ _ _ h => h) (Or.inl ⟨by rfl, ?_⟩) ?_ ?_
        rotate_left
        · intro w'
          go_simp
          with_reducible rfl
        rotate_left
        · simp only [Act.put, List.setIfInBounds_toArray, List.set_cons_zero, List.set_cons_succ, i64_w, i32_w]
          rfl
        refine pure_ (i := 2) (N := some 101) (v := ?_) (a' := ?_) #[true, true, true, false, false, false, false, false, false, false, false, false, false, false, false, false, false, false, false, false, false, false, false] rfl rfl (by kernel_rfl) (fun _ _ _ h => h) (Or.inl ⟨by rfl, ?_⟩) ?_ ?_
        rotate_left
        · intro w'
          go_simp
          with_reducible rfl
        rotate_left
        · simp only [Act.put, List.setIfInBounds_toArray, List.set_cons_zero, List.set_cons_succ, i64_w, i32_w]
          rfl
        refine pure_ (i := 3) (N := some 102) (v := ?_) (a' := ?_) #[true, true, true, true, false, false, false, false, false, false, false, false, false, false, false, false, false, false, false, false, false, false, false] rfl rfl (by kernel_rfl) (fun _ _ _ h => h) (Or.inl ⟨by rfl, ?_⟩) ?_ ?_
        rotate_left
        · intro w'
          go_simp
          with_reducible rfl
        rotate_left
        · simp only [Act.put, List.setIfInBounds_toArray, List.set_cons_zero, List.set_cons_succ, i64_w, i32_w]
          rfl
        refine pure_ (i := 5) (N := some 104) (v := ?_) (a' := ?_) #[true, true, true, true, false, true, false, false, false, false, false, false, false, false, false, false, false, false, false, false, false, false, false] rfl rfl (by kernel_rfl) (fun _ _ _ h => h) (Or.inl ⟨by rfl, ?_⟩) ?_ ?_
        rotate_left
        · intro w'
          go_simp
          with_reducible rfl
        rotate_left
        · simp only [Act.put, List.setIfInBounds_toArray, List.set_cons_zero, List.set_cons_succ, i64_w, i32_w]
          rfl
        refine pure_ (i := 6) (N := some 105) (v := ?_) (a' := ?_) #[true, true, true, true, false, true, true, false, false, false, false, false, false, false, false, false, false, false, false, false, false, false, false] rfl rfl (by kernel_rfl) (fun _ _ _ h => h) (Or.inl ⟨by rfl, ?_⟩) ?_ ?_
        rotate_left
        · intro w'
          go_simp
          with_reducible rfl
        rotate_left
        · simp only [Act.put, List.setIfInBounds_toArray, List.set_cons_zero, List.set_cons_succ, i64_w, i32_w]
          rfl
        refine pure_ (i := 7) (N := some 106) (v := ?_) (a' := ?_) #[true, true, true, true, false, true, true, true, false, false, false, false, false, false, false, false, false, false, false, false, false, false, false] rfl rfl (by kernel_rfl) (fun _ _ _ h => h) (Or.inl ⟨by rfl, ?_⟩) ?_ ?_
        rotate_left
        · intro w'
          go_simp
          with_reducible rfl
        rotate_left
        · simp only [Act.put, List.setIfInBounds_toArray, List.set_cons_zero, List.set_cons_succ, i64_w, i32_w]
          rfl
        refine pure_ (i := 8) (N := some 107) (v := ?_) (a' := ?_) #[true, true, true, true, false, true, true, true, true, false, false, false, false, false, false, false, false, false, false, false, false, false, false] rfl rfl (by kernel_rfl) (fun _ _ _ h => h) (Or.inl ⟨by rfl, ?_⟩) ?_ ?_
        rotate_left
        · intro w'
          go_simp
          with_reducible rfl
        rotate_left
        · simp only [Act.put, List.setIfInBounds_toArray, List.set_cons_zero, List.set_cons_succ, i64_w, i32_w]
          rfl
        refine pure_ (i := 9) (N := some 108) (v := ?_) (a' := ?_) #[true, true, true, true, false, true, true, true, true, true, false, false, false, false, false, false, false, false, false, false, false, false, false] rfl rfl (by kernel_rfl) (fun _ _ _ h => h) (Or.inl ⟨by rfl, ?_⟩) ?_ ?_
        rotate_left
        · intro w'
          go_simp
          with_reducible rfl
        rotate_left
        · simp only [Act.put, List.setIfInBounds_toArray, List.set_cons_zero, List.set_cons_succ, i64_w, i32_w]
          rfl
        refine pure_ (i := 11) (N := some 110) (v := ?_) (a' := ?_) #[true, true, true, true, false, true, true, true, true, true, false, true, false, false, false, false, false, false, false, false, false, false, false] rfl rfl (by kernel_rfl) (fun _ _ _ h => h) (Or.inl ⟨by rfl, ?_⟩) ?_ ?_
        rotate_left
        · intro w'
          go_simp
          with_reducible rfl
        rotate_left
        · simp only [Act.put, List.setIfInBounds_toArray, List.set_cons_zero, List.set_cons_succ, i64_w, i32_w]
          rfl
        refine pure_ (i := 12) (N := some 111) (v := ?_) (a' := ?_) #[true, true, true, true, false, true, true, true, true, true, false, true, true, false, false, false, false, false, false, false, false, false, false] rfl rfl (by kernel_rfl) (fun _ _ _ h => h) (Or.inl ⟨by rfl, ?_⟩) ?_ ?_
        rotate_left
        · intro w'
          go_simp
          with_reducible rfl
        rotate_left
        · simp only [Act.put, List.setIfInBounds_toArray, List.set_cons_zero, List.set_cons_succ, i64_w, i32_w]
          rfl
        refine pure_ (i := 13) (N := some 112) (v := ?_) (a' := ?_) #[true, true, true, true, false, true, true, true, true, true, false, true, true, true, false, false, false, false, false, false, false, false, false] rfl rfl (by kernel_rfl) (fun _ _ _ h => h) (Or.inl ⟨by rfl, ?_⟩) ?_ ?_
        rotate_left
        · intro w'
          go_simp
          with_reducible rfl
        rotate_left
        · simp only [Act.put, List.setIfInBounds_toArray, List.set_cons_zero, List.set_cons_succ, i64_w, i32_w]
          rfl
        refine pure_ (i := 14) (N := some 113) (v := ?_) (a' := ?_) #[true, true, true, true, false, true, true, true, true, true, false, true, true, true, true, false, false, false, false, false, false, false, false] rfl rfl (by kernel_rfl) (fun _ _ _ h => h) (Or.inl ⟨by rfl, ?_⟩) ?_ ?_
        rotate_left
        · intro w'
          go_simp
          with_reducible rfl
        rotate_left
        · simp only [Act.put, List.setIfInBounds_toArray, List.set_cons_zero, List.set_cons_succ, i64_w, i32_w]
          rfl
        refine pure_ (i := 16) (N := some 115) (v := ?_) (a' := ?_) #[true, true, true, true, false, true, true, true, true, true, false, true, true, true, true, false, true, false, false, false, false, false, false] rfl rfl (by kernel_rfl) (fun _ _ _ h => h) (Or.inl ⟨by rfl, ?_⟩) ?_ ?_
        rotate_left
        · intro w'
          go_simp
          with_reducible rfl
        rotate_left
        · simp only [Act.put, List.setIfInBounds_toArray, List.set_cons_zero, List.set_cons_succ, i64_w, i32_w]
          rfl
        refine pure_ (i := 19) (N := some 118) (v := ?_) (a' := ?_) #[true, true, true, true, false, true, true, true, true, true, false, true, true, true, true, false, true, false, false, true, false, false, false] rfl rfl (by kernel_rfl) (fun _ _ _ h => h) (Or.inl ⟨by rfl, ?_⟩) ?_ ?_
        rotate_left
        · intro w'
          go_simp
          with_reducible rfl
        rotate_left
        · simp only [Act.put, List.setIfInBounds_toArray, List.set_cons_zero, List.set_cons_succ, i64_w, i32_w]
          rfl
        refine take_ (i := 4) (N := some 103) (v := ?_) (a' := ?_) #[true, true, true, true, true, true, true, true, true, true, false, true, true, true, true, false, true, false, false, true, false, false, false] rfl rfl (by kernel_rfl) (fun _ _ _ h => h) (Or.inl ⟨by rfl, ?_⟩) hHeld ?_ ?_
        rotate_left
        · rintro w' ⟨s0, s1, s2⟩
          go_simp
          with_reducible rfl
        rotate_left
        · simp only [Act.put, List.setIfInBounds_toArray, List.set_cons_zero, List.set_cons_succ, i64_w, i32_w]
          rfl
        refine take_ (i := 10) (N := some 109) (v := ?_) (a' := ?_) #[true, true, true, true, true, true, true, true, true, true, true, true, true, true, true, false, true, false, false, true, false, false, false] rfl rfl (by kernel_rfl) (fun _ _ _ h => h) (Or.inl ⟨by rfl, ?_⟩) hHeld ?_ ?_
        rotate_left
        · rintro w' ⟨s0, s1, s2⟩
          go_simp
          with_reducible rfl
        rotate_left
        · simp only [Act.put, List.setIfInBounds_toArray, List.set_cons_zero, List.set_cons_succ, i64_w, i32_w]
          rfl
        refine take_ (i := 15) (N := some 114) (v := ?_) (a' := ?_) #[true, true, true, true, true, true, true, true, true, true, true, true, true, true, true, true, true, false, false, true, false, false, false] rfl rfl (by kernel_rfl) (fun _ _ _ h => h) (Or.inl ⟨by rfl, ?_⟩) hHeld ?_ ?_
        rotate_left
        · rintro w' ⟨s0, s1, s2⟩
          go_simp
          with_reducible rfl
        rotate_left
        · simp only [Act.put, List.setIfInBounds_toArray, List.set_cons_zero, List.set_cons_succ, i64_w, i32_w]
          rfl
        refine pure_ (i := 17) (N := some 116) (v := ?_) (a' := ?_) #[true, true, true, true, true, true, true, true, true, true, true, true, true, true, true, true, true, true, false, true, false, false, false] rfl rfl (by kernel_rfl) (fun _ _ _ h => h) (Or.inl ⟨by rfl, ?_⟩) ?_ ?_
        rotate_left
        · intro w'
          go_simp
          with_reducible rfl
        rotate_left
        · simp only [Act.put, List.setIfInBounds_toArray, List.set_cons_zero, List.set_cons_succ, i64_w, i32_w]
          rfl
        refine take_ (i := 18) (N := some 117) (v := ?_) (a' := ?_) #[true, true, true, true, true, true, true, true, true, true, true, true, true, true, true, true, true, true, true, true, false, false, false] rfl rfl (by kernel_rfl) (fun _ _ _ h => h) (Or.inl ⟨by rfl, ?_⟩) hHeld ?_ ?_
        rotate_left
        · rintro w' ⟨s0, s1, s2⟩
          go_simp
          with_reducible rfl
        rotate_left
        · simp only [Act.put, List.setIfInBounds_toArray, List.set_cons_zero, List.set_cons_succ, i64_w, i32_w]
          rfl
        refine one_ (i := 20) (N := some 119) #[true, true, true, true, true, true, true, true, true, true, true, true, true, true, true, true, true, true, true, true, true, false, false] rfl rfl (by kernel_rfl) (by decide) (fun K hK => ?_)
        refine goes_ Try.func82 (by kernel_rfl) rfl #[.int .i64 kind, .int .i64 (rd st i), .int .i64 1] (by rfl) rfl rfl (by simp only [List.map_toArray, List.map_cons, List.map_nil]; rfl) ?_
        with_reducible refine (ref_after kind (rd st i) 1 _ hs (by decide)).mono ?_
        rintro e w9 ⟨rfl, hb9⟩
        refine ⟨_, rfl, ?_⟩
        have HE9 := Aside0.mk (HE8.out.below hb9)
        have HM9 := Aside0.mk (HM8.out.below hb9)
        have HQ9 := Aside0.mk (blk_below HQ8.out hb9)
        have c9 : w9.cell? ⟨b, i, none⟩ = some (.int .i64 (rd st i)) := by obtain ⟨b', hA, hc, _⟩ := HE9.out.cell hi; cases hA; exact hc
        have f9 : w9.frozen? ⟨b, i, none⟩ = false := by obtain ⟨b', hA, _, hf, _⟩ := HE9.out.cell hi; cases hA; exact hf
        clear hb9
        refine hK.out _ _ ⟨HE9.out.c0, HE9.out.c1, c9⟩ (fun hHeld => ?_)
        clear hK K
        refine norm_ (a' := ?_) ?_ ?_
        rotate_left
        · show Act.put _ (some 119) _ = _
          simp only [Act.put, List.setIfInBounds_toArray, List.set_cons_zero, List.set_cons_succ, i64_w, i32_w]
          rfl
        refine pure_ (i := 21) (N := some 120) (v := ?_) (a' := ?_) #[true, true, true, true, true, true, true, true, true, true, true, true, true, true, true, true, true, true, true, true, true, true, false] rfl rfl (by kernel_rfl) (fun _ _ _ h => h) (Or.inl ⟨by rfl, ?_⟩) ?_ ?_
        rotate_left
        · intro w'
          go_simp
          with_reducible rfl
        rotate_left
        · simp only [Act.put, List.setIfInBounds_toArray, List.set_cons_zero, List.set_cons_succ, i64_w, i32_w]
          rfl
        refine last_ (i := 22) (N := none) #[true, true, true, true, true, true, true, true, true, true, true, true, true, true, true, true, true, true, true, true, true, true, true] rfl rfl (by kernel_rfl) (by decide) (fun K hK => ?_)
        refine skip_ (w1 := ?_) (by rfl) rfl ?_ ?_
        rotate_left
        · go_simp
          rfl
        refine hK.out _ _ ?_
        clear hK K
        refine done_ (by kernel_rfl) ?_
        obtain ⟨w10, hw10⟩ : ∃ w10, w10 = w9.setCell ⟨b, i, none⟩ (.int .i64 (after kind (rd st i) 1)) := ⟨_, rfl⟩
        rw [← hw10]
        have HE10 := Aside0.mk (show RDecRow w10 S g kind (some ⟨b, 0, none⟩) c (st.set i (after kind (rd st i) 1)) low high (.slice Ac code.length cc) code a value ((a - code.length : Nat) : Int) false from hw10 ▸ HE9.out.setst hi _)
        have HM10 := Aside0.mk (show Mods w w10 S from hw10 ▸ HM9.out.setCell (.inl hSb2) _)
        have hqb : q ≠ b := fun he => HQN.out (he ▸ hSb2)
        have HQ10 := Aside0.mk (show w10.heap[q]? = some (.cells #[.int .u64 l, .int .u64 h] 101 (0, 0)) from hw10 ▸ blk_far HQ9.out hqb _)
        have z0 : w10.cell? ⟨q, 0, none⟩ = some (.int .u64 l) := (blk_cell HQ10.out 0).trans rfl
        have z1 : w10.cell? ⟨q, 1, none⟩ = some (.int .u64 h) := (blk_cell HQ10.out 1).trans rfl
        have c2 := HE10.out.c2
        have c3 := HE10.out.c3
        have c5 := HE10.out.c5
        have c6 := HE10.out.c6
        have c7 := HE10.out.c7
        have f2 := HE10.out.fz 2
        have f3 := HE10.out.fz 3
        have f5 := HE10.out.fz 5
        have f6 := HE10.out.fz 6
        have f7 := HE10.out.fz 7
        clear hw10 k0 k1 ks c9 f9
        go_wp2
        go_ret2
        have h1 := HKV.out
        refine ⟨⟨l, h, n, HN.out, .inr ⟨by have := HB4.out; have := HBE.out; omega, rfl, ?_⟩⟩, ((((HM10.out.setCell (p := ⟨g, 2, none⟩) (.inl hSg) _).setCell (p := ⟨g, 3, none⟩) (.inl hSg) _).setCell (p := ⟨g, 5, none⟩) (.inl hSg) _).setCell (p := ⟨g, 6, none⟩) (.inl hSg) _).setCell (p := ⟨g, 7, none⟩) (.inl hSg) _⟩
        rw [← h1.2, ← h1.1, HBE.out]
        exact ((((HE10.out.put (low' := l) 2 _ rfl).put (high' := h) 3 _ rfl).put (a' := (k : Int)) 5 _ rfl).put (value' := v) 6 _ rfl).put (be' := (be : Int)) 7 _ rfl
end Go.Proofs.Ytlnhahnnjbfjdaa.RDec
namespace Go.Proofs.Ytlnhahnnjbfjdaa.RDecNew
open Go Go.RowKit Go.Proofs.YtlnhahnnjbfjdaaW.PrintWords Go.Proofs.YtlnhahnnjbfjdaaW.PrintLast Go.Proofs.YtlnhahnnjbfjdaaW.PrintMore Go.Proofs.Ytlnhahnnjbfjdaa.Aid Go.Proofs.Ytlnhahnnjbfjdaa.HandAid Go.Proofs.Ytlnhahnnjbfjdaa.Cod1 Go.Proofs.Ytlnhahnnjbfjdaa.Cod2 Go.Proofs.Ytlnhahnnjbfjdaa.Cod3 Go.Proofs.Ytlnhahnnjbfjdaa.Mod Go.Proofs.Ytlnhahnnjbfjdaa.Enc Go.Proofs.Ytlnhahnnjbfjdaa.Mods Go.Proofs.Ytlnhahnnjbfjdaa.EncAt Go.Proofs.Ytlnhahnnjbfjdaa.Put Go.Proofs.Ytlnhahnnjbfjdaa.End Go.Proofs.Ytlnhahnnjbfjdaa.Snc Go.Proofs.Ytlnhahnnjbfjdaa.RefAt Go.Proofs.Ytlnhahnnjbfjdaa.Dec Go.Proofs.Ytlnhahnnjbfjdaa.Get Go.Proofs.Ytlnhahnnjbfjdaa.DecNew Go.Proofs.Ytlnhahnnjbfjdaa.RDec Go.Proofs.Ytlnhahnnjbfjdaa.U
attribute [local go_sem low] max2_int
attribute [local go_sem] min2_int max_two min_two
theorem max_sub4 (n : Nat) : Builtin.max2 (.int .i64 0) (.int .i64 (4 - (n : Int))) = pure (.int .i64 ((4 - n : Nat) : Int)) := by
  rw [max2_int]
  congr 2
  split <;> omega
attribute [local go_sem high] max_sub4
theorem shV_small {code : List Int} (hb : Bytes code) (k : Nat) (hk : k < 4) : shV code k 0 0 < 16777216 := by
  have h0 := byteOf_range hb 0
  have h1 := byteOf_range hb 1
  have h2 := byteOf_range hb 2
  match k, hk with
  | 0, _ => simp only [shV]; omega
  | 1, _ => simp only [shV, Nat.zero_add, Nat.reduceAdd]; omega
  | 2, _ => simp only [shV, Nat.zero_add, Nat.reduceAdd]; omega
  | 3, _ => simp only [shV, Nat.zero_add, Nat.reduceAdd]; omega
/-- The reference's decoder in memory. -/
def RDecAt (W : World) (S : Nat → Prop) (g : Nat) (s : DS) : Prop := ∃ A c vc, RDecRow W S g s.kind A c s.st s.low s.high vc s.code s.a s.value ((s.a - s.code.length : Nat) : Int) s.ended
theorem RDecAt.kept {W W' : World} {S S' : Nat → Prop} {g : Nat} {s : DS} (h : RDecAt W S g s) (hk : Mods W W' S') (hne : ∀ k, S k → ¬ S' k) : RDecAt W' S g s := by
  obtain ⟨A, c, vo, h⟩ := h
  exact ⟨A, c, vo, h.kept hk hne⟩
theorem RDecAt.below {W W' : World} {S : Nat → Prop} {g : Nat} {s : DS} (h : RDecAt W S g s) (hb : Below W.heap.size W W') : RDecAt W' S g s := by
  obtain ⟨A, c, vo, h⟩ := h
  exact ⟨A, c, vo, h.below hb⟩
theorem RDecAt.mono {W : World} {S S' : Nat → Prop} {g : Nat} {s : DS} (h : RDecAt W S g s) (hs : ∀ k, S k → S' k) : RDecAt W S' g s := by
  obtain ⟨A, c, vo, h⟩ := h
  exact ⟨A, c, vo, h.mono hs⟩
theorem rget_end (w : World) (g : Nat) (i : Nat) (n : Nat) (A : Option Addr) (c : Nat) (hi : i < n) (h1 : w.cell? ⟨g, 1, none⟩ = some (.slice A n c)) (h3 : w.cell? ⟨g, 8, none⟩ = some (.bool true)) :
    Calls Try.prog 61 #[.pointer (some ⟨g, 0, none⟩), .int .i64 i] w fun e w' => e = .returned (.tuple #[.int .i64 0, .int .i64 6]) ∧ w = w' := by
  have hi1 : (0 : Int) ≤ (i : Int) := by omega
  have hi2 : (i : Int) < (n : Int) := by omega
  go_enter Try.func61, Try.ntmps61
  go_wp2
  go_ret2
  exact ⟨rfl, rfl⟩
theorem rget_bad (w : World) (g : Nat) (i : Int) (n : Nat) (A : Option Addr) (c : Nat) (hi : ¬ (0 ≤ i ∧ i < n)) (h1 : w.cell? ⟨g, 1, none⟩ = some (.slice A n c)) :
    Calls Try.prog 61 #[.pointer (some ⟨g, 0, none⟩), .int .i64 i] w fun e w' => e = .returned (.tuple #[.int .i64 0, .int .i64 2]) ∧ w = w' := by
  have hi' : i < 0 ∨ (i ≥ n ∧ ¬ i < 0) := by omega
  clear hi
  rcases hi' with h | ⟨h, h0⟩
  · go_enter Try.func61, Try.ntmps61
    go_wp2
    go_ret2
    exact ⟨rfl, rfl⟩
  · go_enter Try.func61, Try.ntmps61
    go_wp2
    go_ret2
    exact ⟨rfl, rfl⟩
theorem rget_calls (w : World) (S : Nat → Prop) (g : Nat) (s : DS) (i : Int) (hE : RDecAt w S g s) (hS : ∀ k, S k → k < w.heap.size) (hok : s.ok) :
    Calls Try.prog 61 #[.pointer (some ⟨g, 0, none⟩), .int .i64 i] w fun e w' => e = .returned (.tuple #[.int .i64 (s.getI i).2.1, .int .i64 (s.getI i).2.2]) ∧ RDecAt w' S g (s.getI i).1 ∧ Mods w w' S := by
  obtain ⟨A, c, vo, hR⟩ := hE
  unfold DS.getI
  by_cases hi : 0 ≤ i ∧ i < s.st.length
  · rw [if_pos hi]
    obtain ⟨j, rfl⟩ : ∃ j : Nat, i = (j : Int) := ⟨i.toNat, by omega⟩
    rw [Int.toNat_natCast]
    have hj : j < s.st.length := by omega
    by_cases he : s.ended = true
    · rw [if_pos he]
      have h40 := hR.c8
      rw [he] at h40
      refine (rget_end w g j s.st.length A c hj hR.c1 h40).mono ?_
      rintro e w' ⟨rfl, rfl⟩
      exact ⟨rfl, ⟨A, c, vo, hR⟩, Mods.refl _ _⟩
    · rw [if_neg he]
      have hef : s.ended = false := by simpa using he
      obtain ⟨b, rfl, _⟩ := hR.cell hj
      have hm := DS.mid_ hok hj
      have hc := DS.cut_ hok hj
      have hl := hok.l
      have hh := hok.h
      have hI : PutInv [] (cutL s.low (s.mid j) (s.bit j)) (cutH s.high (s.mid j) (s.bit j)) 4 (cutL s.low (s.mid j) (s.bit j)) (cutH s.high (s.mid j) (s.bit j)) [] := ⟨hc.1, hc.2.1, hc.2.2, by rw [show (256 : Int) ^ 4 = 4294967296 from rfl]; omega, rfl, rfl, Nat.le_refl _⟩
      have key : Calls Try.prog 61 #[.pointer (some ⟨g, 0, none⟩), .int .i64 j] w (RGetPost w S g s.kind b c s.st s.low s.high (s.mid j) vo s.code s.a s.value j (s.bit j)) := by
        rw [hef] at hR
        by_cases hv : s.value ≤ s.mid j
        · have hb : s.bit j = 1 := if_pos hv
          rw [hb] at hI ⊢
          exact rget_row1 w S g s.kind b c s.st s.low s.high (s.mid j) vo s.code s.a s.value j hR hS hj hok.m.2.1 (DS.at_ hok hj) hl hok.lh hh rfl (by omega) (by omega) hI hok.v0 hok.v1 hok.by_ hok.len hok.be hv
        · have hb : s.bit j = 0 := if_neg hv
          rw [hb] at hI ⊢
          exact rget_row0 w S g s.kind b c s.st s.low s.high (s.mid j) vo s.code s.a s.value j hR hS hj hok.m.2.1 (DS.at_ hok hj) hl hok.lh hh rfl (by omega) (by omega) hI hok.v0 hok.v1 hok.by_ hok.len hok.be hv
      refine key.mono ?_
      rintro e w' ⟨⟨l, h, n, hn, hq⟩, hk⟩
      have hn' : s.norm j = (n, l, h) := hn
      rw [hn']
      rcases hq with ⟨hb, rfl, hD⟩ | ⟨hb, rfl, hD⟩
      · rw [if_pos hb]
        exact ⟨rfl, ⟨_, c, vo, hD⟩, hk⟩
      · rw [if_neg hb]
        refine ⟨rfl, ⟨some ⟨b, 0, none⟩, c, vo, ?_⟩, hk⟩
        have e1 : s.next j = ⟨s.kind, s.st.set j (after s.kind (rd s.st j) (s.bit j)), l, h, s.code, s.a + n.length, shV s.code n.length s.value s.a, false⟩ := by
          unfold DS.next
          rw [hn']
        rw [e1]
        exact hD
  · rw [if_neg hi]
    refine (rget_bad w g i s.st.length A c hi hR.c1).mono ?_
    rintro e w' ⟨rfl, rfl⟩
    exact ⟨rfl, ⟨A, c, vo, hR⟩, Mods.refl _ _⟩
theorem rbeyond_calls (w : World) (S : Nat → Prop) (g : Nat) (s : DS) (hE : RDecAt w S g s) :
    Calls Try.prog 30 #[.pointer (some ⟨g, 0, none⟩)] w fun e w' => e = .returned (.int .i64 ((s.a - s.code.length : Nat) : Int)) ∧ w = w' := by
  obtain ⟨A, c, vo, hR⟩ := hE
  have k7 := hR.c7
  go_enter Try.func30, Try.ntmps30
  go_wp2
  go_ret
  exact ⟨rfl, rfl⟩
theorem dec9_new (kind : Int) (v vc : Value) (be : Int) : dec9 kind v 0 4294967295 vc 4 0 be false = #[.int .i64 kind, v, .int .u64 0, .int .u64 4294967295, vc, .int .i64 4, .int .u64 0, .int .i64 be, .bool false] := rfl
def RNewDecPost (w : World) (kind : Int) (st code : List Int) (e : Ending) (w' : World) : Prop := ∃ g, e = .returned (.tuple #[.pointer (some ⟨g, 0, none⟩), .int .i64 0]) ∧ RDecAt w' (Since w.heap.size w') g (newDS kind st code) ∧ Below w.heap.size w w'
set_option maxHeartbeats 4000000 in
set_option maxRecDepth 100000 in
theorem rnew_dec (A : Option Addr) (c : Nat) (kind : Int) (st : List Int) (Ac : Option Addr) (cc : Nat) (code : List Int) (w : World) (hC : Kd.C (Kd.int .i64) w A st.length st) (hc : st.length ≤ c) (hm : okModel kind st) (hCc : Kd.C (Kd.int .u8) w Ac code.length code) (hcc : code.length ≤ cc) (hby : Bytes code) (hlen : code.length ≤ 1099511627776) :
    Calls Try.prog 24 #[.agg #[.int .i64 kind, .slice A st.length c], .slice Ac code.length cc] w (RNewDecPost w kind st code) := by
  have HC := Aside0.mk hC
  have HCc := Aside0.mk hCc
  have hv := ref_valid_calls A c kind st
  rw [decide_eq_true hm] at hv
  have HV := Aside0.mk hv
  have HM := Aside0.mk hm
  have HBY := Aside0.mk hby
  have hl := hm.2.1
  have hu := Try.underlying45
  clear hC hv hm hCc hby
  have hb0 := Aside0.mk (below_alloc (Below.refl w.heap.size w) (.cells #[.int .i64 kind, .slice A st.length c] 45))
  have hq0 : Aside0 ((w.alloc (.cells #[.int .i64 kind, .slice A st.length c] 45)).heap[w.heap.size]? = some (.cells #[.int .i64 kind, .slice A st.length c] 45 (0, 0))) := ⟨heap_new _ _⟩
  go_enter Try.func24, Try.ntmps24
  go_wp2_with (first
    | (go_at_call 52; refine (HV.out _ (Kd.C_below HC.out hb0.out) hc).mono ?_; rintro e w1 ⟨rfl, hB⟩; have HB := Aside0.mk (below_then hb0.out hb0.out.size hB); have hq1 : Aside0 (w1.heap[w.heap.size]? = some (.cells #[.int .i64 kind, .slice A st.length c] 45 (0, 0))) := ⟨(hB.block _ (blk_lt hq0.out)).trans hq0.out⟩; have k0 : w1.cell? ⟨w.heap.size, 0, none⟩ = some (.int .i64 kind) := (blk_cell hq1.out 0).trans rfl; have k1 : w1.cell? ⟨w.heap.size, 1, none⟩ = some (.slice A st.length c) := (blk_cell hq1.out 1).trans rfl; clear hB)
    | (go_at_call 53; refine (copy_calls A c kind st _ (Kd.C_below HC.out HB.out) hc (by omega)).mono ?_; rintro e w2 ⟨A2, c2, rfl, hR, hB⟩; have HB2 := Aside0.mk (below_then HB.out HB.out.size hB); have HR := Aside0.mk (Kd.R_lower hR HB.out.size); clear hR hB)
    | (go_at_call 54; refine (incunableref02_Whole.calls 0 4294967295 _ rfl).mono ?_; rintro e w3 ⟨rfl, hB⟩; have HB3 := Aside0.mk (below_then HB2.out HB2.out.size hB); have HR3 := Aside0.mk (Kd.R_alloc (Kd.R_below HR.out hB) (.cells #[] 5)); have HR1 : Aside0 (Kd.R (Kd.int .u8) 5 (w3.alloc (.cells #[] 5)) w.heap.size (fun _ => True) (.slice (some ⟨w3.heap.size, 0, none⟩) 0 0) []) := ⟨Kd.R_of_own (enc := Value.int .u8) (World.ownsRow_lit w3 #[] 0 HB3.out.size (by decide) rfl) (fun _ _ => trivial)⟩; have HB3' := Aside0.mk (below_alloc HB3.out (.cells #[] 5)); have HCo := Aside0.mk (Kd.C_below HCc.out HB3'.out); clear hB)
    | (at_builtin; refine Kd.R_append_rows (Kd.int .u8) (w0 := w) w.heap.size (by rfl) (.tmp 14) (.tmp 15) 34 5 (.int .u8 0) 1 rfl Try.underlying34 infoU8 rfl (by decide) (by omega) (.slice (some ⟨w3.heap.size, 0, none⟩) 0 0) [] code _ _ _ (fun _ => True) (fun _ => False) rfl rfl HR1.out HCo.out (fun _ _ h => h) (fun _ h => h.elim) (fun _ _ => trivial) HB3'.out HB3'.out.size (by simp only [List.length_nil]; omega) ?_; intro v4 w4 hR4 hB4 hg4 hat4; rw [List.nil_append] at hR4; obtain ⟨A3, c3, hv3⟩ := Kd.R_slice hR4; subst hv3; have HS4 := Aside0.mk (Kd.R_over HR3.out HR1.out (by decide) hg4); have HR4 := Aside0.mk hR4; have HB4 := Aside0.mk hB4; clear hR4 hB4 hg4 hat4))
  clear HR1 HR HR3 HCo HB3' HV
  rw [← dec9_new]
  have HR0 := Aside0.mk (heap_new w4 (.cells (dec9 kind (.slice A2 st.length c2) 0 4294967295 (.slice A3 code.length c3) 4 0 ((4 - code.length : Nat) : Int) false) 104))
  have HB5 := Aside0.mk (below_alloc HB4.out (.cells (dec9 kind (.slice A2 st.length c2) 0 4294967295 (.slice A3 code.length c3) 4 0 ((4 - code.length : Nat) : Int) false) 104))
  have HRS := Aside0.mk (Kd.R_alloc HS4.out (.cells (dec9 kind (.slice A2 st.length c2) 0 4294967295 (.slice A3 code.length c3) 4 0 ((4 - code.length : Nat) : Int) false) 104))
  have HRO := Aside0.mk (Kd.R_alloc HR4.out (.cells (dec9 kind (.slice A2 st.length c2) 0 4294967295 (.slice A3 code.length c3) 4 0 ((4 - code.length : Nat) : Int) false) 104))
  generalize w4.alloc (.cells (dec9 kind (.slice A2 st.length c2) 0 4294967295 (.slice A3 code.length c3) 4 0 ((4 - code.length : Nat) : Int) false) 104) = w5 at HR0 HB5 HRS HRO ⊢
  have HQ3 := Aside0.mk HB4.out.size
  obtain ⟨q, hq⟩ : ∃ q, w4.heap.size = q := ⟨_, rfl⟩
  rw [hq] at HR0 HQ3 ⊢
  obtain ⟨S, hS⟩ : ∃ S : Nat → Prop, S = Since w.heap.size w5 := ⟨_, rfl⟩
  have HE0 : Aside0 (RDecRow w5 S q kind A2 c2 st 0 4294967295 (.slice A3 code.length c3) code 4 0 ((4 - code.length : Nat) : Int) false) := ⟨by
    subst hS
    exact ⟨HR0.out, Kd.R_lower (Kd.R_mono (Kd.R_bound HRS.out) fun k hk => ⟨hk.2.1, hk.2.2.1⟩) (Nat.zero_le _), Kd.R_lower (Kd.R_mono (Kd.R_bound HRO.out) fun k hk => ⟨hk.2.1, hk.2.2.1⟩) (Nat.zero_le _), ⟨HQ3.out, blk_lt HR0.out⟩⟩⟩
  have HS := Aside0.mk hS
  clear hS HR0 HRS HRO HS4 HR4 HB4 HB3 HB2 HB hq hq0 hq1 hb0 k0 k1
  go_loopw [7] (fun i wr => ∃ (k : Nat), k ≤ 4 ∧ i = .int .i64 k ∧ Aside0 (RDecRow wr S q kind A2 c2 st 0 4294967295 (.slice A3 code.length c3) code 4 (shV code k 0 0) ((4 - code.length : Nat) : Int) false) ∧ Aside0 (Mods w5 wr S)) (fun i _ => 5 - (intOf i).toNat)
  case atStart => exact ⟨0, by omega, rfl, HE0, ⟨Mods.refl _ _⟩⟩
  clear HE0
  case round =>
    obtain ⟨k, hk, rfl, HE, HK⟩ := hrel
    by_cases h4 : (k : Int) < 4
    · have hv0 := shV_range HBY.out k 0 0 (by omega) (by omega)
      have hv1 := shV_small HBY.out k (by omega)
      have hbr := byteOf_range HBY.out k
      go_wp2
      have HE := Aside0.mk HE.out.drew
      have HK := Aside0.mk HK.out.drew
      have p4 := HE.out.c4
      have p6 := HE.out.c6
      have f6 := HE.out.fz 6
      refine start_ (n := 16) (S := fun w' => w'.cell? ⟨q, 4, none⟩ = some (.slice A3 code.length c3) ∧ w'.cell? ⟨q, 6, none⟩ = some (.int .u64 (shV code k 0 0))) (ds := [15]) #[false, false, false, false, false, false, false, false, false, false, false, false, false, false, false, false] (by kernel_rfl) rfl rfl ⟨p4, p6⟩ (fun hHeld => ?_)
      refine pure_ (i := 0) (N := some 27) (v := ?_) (a' := ?_) #[true, false, false, false, false, false, false, false, false, false, false, false, false, false, false, false] rfl rfl (by kernel_rfl) (fun _ _ _ h => h) (Or.inl ⟨by rfl, ?_⟩) ?_ ?_
      rotate_left
      · intro w'
        go_simp
        with_reducible rfl
      rotate_left
      · simp only [Act.put, List.setIfInBounds_toArray, List.set_cons_zero, List.set_cons_succ, i64_w, i32_w]
        rfl
      refine pure_ (i := 1) (N := some 28) (v := ?_) (a' := ?_) #[true, true, false, false, false, false, false, false, false, false, false, false, false, false, false, false] rfl rfl (by kernel_rfl) (fun _ _ _ h => h) (Or.inl ⟨by rfl, ?_⟩) ?_ ?_
      rotate_left
      · intro w'
        go_simp
        with_reducible rfl
      rotate_left
      · simp only [Act.put, List.setIfInBounds_toArray, List.set_cons_zero, List.set_cons_succ, i64_w, i32_w]
        rfl
      refine pure_ (i := 2) (N := some 29) (v := ?_) (a' := ?_) #[true, true, true, false, false, false, false, false, false, false, false, false, false, false, false, false] rfl rfl (by kernel_rfl) (fun _ _ _ h => h) (Or.inl ⟨by rfl, ?_⟩) ?_ ?_
      rotate_left
      · intro w'
        go_simp
        with_reducible rfl
      rotate_left
      · simp only [Act.put, List.setIfInBounds_toArray, List.set_cons_zero, List.set_cons_succ, i64_w, i32_w]
        rfl
      refine pure_ (i := 3) (N := some 30) (v := ?_) (a' := ?_) #[true, true, true, true, false, false, false, false, false, false, false, false, false, false, false, false] rfl rfl (by kernel_rfl) (fun _ _ _ h => h) (Or.inl ⟨by rfl, ?_⟩) ?_ ?_
      rotate_left
      · intro w'
        go_simp
        with_reducible rfl
      rotate_left
      · simp only [Act.put, List.setIfInBounds_toArray, List.set_cons_zero, List.set_cons_succ, i64_w, i32_w]
        rfl
      refine pure_ (i := 6) (N := some 33) (v := ?_) (a' := ?_) #[true, true, true, true, false, false, true, false, false, false, false, false, false, false, false, false] rfl rfl (by kernel_rfl) (fun _ _ _ h => h) (Or.inl ⟨by rfl, ?_⟩) ?_ ?_
      rotate_left
      · intro w'
        go_simp
        with_reducible rfl
      rotate_left
      · simp only [Act.put, List.setIfInBounds_toArray, List.set_cons_zero, List.set_cons_succ, i64_w, i32_w]
        rfl
      refine pure_ (i := 7) (N := some 34) (v := ?_) (a' := ?_) #[true, true, true, true, false, false, true, true, false, false, false, false, false, false, false, false] rfl rfl (by kernel_rfl) (fun _ _ _ h => h) (Or.inl ⟨by rfl, ?_⟩) ?_ ?_
      rotate_left
      · intro w'
        go_simp
        with_reducible rfl
      rotate_left
      · simp only [Act.put, List.setIfInBounds_toArray, List.set_cons_zero, List.set_cons_succ, i64_w, i32_w]
        rfl
      refine pure_ (i := 8) (N := some 35) (v := ?_) (a' := ?_) #[true, true, true, true, false, false, true, true, true, false, false, false, false, false, false, false] rfl rfl (by kernel_rfl) (fun _ _ _ h => h) (Or.inl ⟨by rfl, ?_⟩) ?_ ?_
      rotate_left
      · intro w'
        go_simp
        with_reducible rfl
      rotate_left
      · simp only [Act.put, List.setIfInBounds_toArray, List.set_cons_zero, List.set_cons_succ, i64_w, i32_w]
        rfl
      refine pure_ (i := 10) (N := some 37) (v := ?_) (a' := ?_) #[true, true, true, true, false, false, true, true, true, false, true, false, false, false, false, false] rfl rfl (by kernel_rfl) (fun _ _ _ h => h) (Or.inl ⟨by rfl, ?_⟩) ?_ ?_
      rotate_left
      · intro w'
        go_simp
        with_reducible rfl
      rotate_left
      · simp only [Act.put, List.setIfInBounds_toArray, List.set_cons_zero, List.set_cons_succ, i64_w, i32_w]
        rfl
      refine take_ (i := 4) (N := some 31) (v := ?_) (a' := ?_) #[true, true, true, true, true, false, true, true, true, false, true, false, false, false, false, false] rfl rfl (by kernel_rfl) (fun _ _ _ h => h) (Or.inl ⟨by rfl, ?_⟩) hHeld ?_ ?_
      rotate_left
      · rintro w' ⟨s0, s1⟩
        go_simp
        with_reducible rfl
      rotate_left
      · simp only [Act.put, List.setIfInBounds_toArray, List.set_cons_zero, List.set_cons_succ, i64_w, i32_w]
        rfl
      refine pure_ (i := 5) (N := some 32) (v := ?_) (a' := ?_) #[true, true, true, true, true, true, true, true, true, false, true, false, false, false, false, false] rfl rfl (by kernel_rfl) (fun _ _ _ h => h) (Or.inl ⟨by rfl, ?_⟩) ?_ ?_
      rotate_left
      · intro w'
        go_simp
        with_reducible rfl
      rotate_left
      · simp only [Act.put, List.setIfInBounds_toArray, List.set_cons_zero, List.set_cons_succ, i64_w, i32_w]
        rfl
      refine take_ (i := 9) (N := some 36) (v := ?_) (a' := ?_) #[true, true, true, true, true, true, true, true, true, true, true, false, false, false, false, false] rfl rfl (by kernel_rfl) (fun _ _ _ h => h) (Or.inl ⟨by rfl, ?_⟩) hHeld ?_ ?_
      rotate_left
      · rintro w' ⟨s0, s1⟩
        go_simp
        with_reducible rfl
      rotate_left
      · simp only [Act.put, List.setIfInBounds_toArray, List.set_cons_zero, List.set_cons_succ, i64_w, i32_w]
        rfl
      refine one_ (i := 11) (N := some 38) #[true, true, true, true, true, true, true, true, true, true, true, true, false, false, false, false] rfl rfl (by kernel_rfl) (by decide) (fun K hK => ?_)
      refine goes_ Try.func55 (by kernel_rfl) rfl #[.slice A3 code.length c3, .int .i64 k] (by rfl) rfl rfl (by simp only [List.map_toArray, List.map_cons, List.map_nil]; rfl) ?_
      with_reducible refine (byte_calls A3 c3 code k _ (Kd.R_reads' HE.out.o).2.2 HBY.out).mono ?_
      rintro e w8 ⟨rfl, rfl⟩
      refine ⟨_, rfl, ?_⟩
      refine hK.out _ _ ⟨p4, p6⟩ (fun hHeld => ?_)
      clear hK K
      refine norm_ (a' := ?_) ?_ ?_
      rotate_left
      · show Act.put _ (some 38) _ = _
        simp only [Act.put, List.setIfInBounds_toArray, List.set_cons_zero, List.set_cons_succ, i64_w, i32_w]
        rfl
      refine pure_ (i := 12) (N := some 39) (v := ?_) (a' := ?_) #[true, true, true, true, true, true, true, true, true, true, true, true, true, false, false, false] rfl rfl (by kernel_rfl) (fun _ _ _ h => h) (Or.inl ⟨by rfl, ?_⟩) ?_ ?_
      rotate_left
      · intro w'
        go_simp
        with_reducible rfl
      rotate_left
      · simp only [Act.put, List.setIfInBounds_toArray, List.set_cons_zero, List.set_cons_succ, i64_w, i32_w]
        rfl
      refine pure_ (i := 13) (N := some 40) (v := ?_) (a' := ?_) #[true, true, true, true, true, true, true, true, true, true, true, true, true, true, false, false] rfl rfl (by kernel_rfl) (fun _ _ _ h => h) (Or.inl ⟨by rfl, ?_⟩) ?_ ?_
      rotate_left
      · intro w'
        go_simp
        with_reducible rfl
      rotate_left
      · simp only [Act.put, List.setIfInBounds_toArray, List.set_cons_zero, List.set_cons_succ, i64_w, i32_w]
        rfl
      refine pure_ (i := 14) (N := some 41) (v := ?_) (a' := ?_) #[true, true, true, true, true, true, true, true, true, true, true, true, true, true, true, false] rfl rfl (by kernel_rfl) (fun _ _ _ h => h) (Or.inl ⟨by rfl, ?_⟩) ?_ ?_
      rotate_left
      · intro w'
        go_simp
        with_reducible rfl
      rotate_left
      · simp only [Act.put, List.setIfInBounds_toArray, List.set_cons_zero, List.set_cons_succ, i64_w, i32_w]
        rfl
      refine last_ (i := 15) (N := none) #[true, true, true, true, true, true, true, true, true, true, true, true, true, true, true, true] rfl rfl (by kernel_rfl) (by decide) (fun K hK => ?_)
      refine skip_ (w1 := ?_) (by rfl) rfl ?_ ?_
      rotate_left
      · go_simp
        rfl
      refine hK.out _ _ ?_
      clear hK K
      refine done_ (by kernel_rfl) ?_
      go_wp2
      go_roundw
      case measure => simp only [intOf]; omega
      case rel =>
        refine ⟨k + 1, by omega, rfl, ⟨?_⟩, ⟨HK.out.setCell (p := ⟨q, 6, none⟩) (.inl HE.out.g) _⟩⟩
        have e9 := shV_succ code k 0 0
        rw [Nat.zero_add, Int.emod_eq_of_lt hv0.1 hv1] at e9
        rw [e9]
        exact HE.out.put 6 _ rfl
    · have e4 : k = 4 := by omega
      subst e4
      go_wp2
      go_ret2
      have hb := below_mods HB5.out HK.out (fun k hk => by rw [HS.out] at hk; exact hk.1) HB5.out.size
      refine ⟨q, rfl, ⟨A2, c2, .slice A3 code.length c3, HE.out.mono fun k hk => ?_⟩, hb⟩
      rw [HS.out] at hk
      exact ⟨hk.1, Nat.lt_of_lt_of_le hk.2 HK.out.size⟩
set_option maxRecDepth 100000 in
theorem rdec_model_calls (w : World) (S : Nat → Prop) (g : Nat) (s : DS) (hE : RDecAt w S g s) (hok : s.ok) :
    Calls Try.prog 60 #[.pointer (some ⟨g, 0, none⟩)] w (MPost w s.kind s.st) := by
  obtain ⟨A, c, vo, hR⟩ := hE
  have HE := Aside0.mk (hR.below (below_alloc (Below.refl _ _) (.cells #[.int .i64 0, .slice none 0 0] 45)))
  have HB := Aside0.mk (below_alloc (Below.refl w.heap.size w) (.cells #[.int .i64 0, .slice none 0 0] 45))
  have HZ := Aside0.mk (heap_new w (.cells #[.int .i64 0, .slice none 0 0] 45))
  have hu := Try.underlying45
  have k0 := HE.out.c0
  have k1 := HE.out.c1
  have hl := hok.m.2.1
  obtain ⟨hn, hc, hC⟩ := Kd.R_reads' HE.out.s
  have HC := Aside0.mk hC
  obtain ⟨b2, hb2⟩ : ∃ b2, w.heap.size = b2 := ⟨_, rfl⟩
  have HSZ := Aside0.mk hb2
  rw [hb2] at HZ
  clear hR hn hC
  go_enter Try.func60, Try.ntmps60
  go_wp2_with (go_at_call 53; refine (copy_calls A c s.kind s.st _ HC.out hc (by omega)).mono ?_; rintro e w4 ⟨A4, c4, rfl, hR4, hB4⟩; have HR4 := Aside0.mk (Kd.R_lower hR4 HB.out.size); have HB4 := Aside0.mk (below_then HB.out HB.out.size hB4); have HZ4 := Aside0.mk (blk_below HZ.out hB4); have z0 : w4.cell? ⟨b2, 0, none⟩ = some (.int .i64 0) := (blk_cell HZ4.out 0).trans rfl; have z1 : w4.cell? ⟨b2, 1, none⟩ = some (.slice none 0 0) := (blk_cell HZ4.out 1).trans rfl; have zf0 := blk_frozen HZ4.out 0; have zf1 := blk_frozen HZ4.out 1; clear hR4 hB4)
  have hz2 : (w4.setCell ⟨b2, 0, none⟩ (.int .i64 s.kind)).heap[b2]? = some (.cells #[.int .i64 s.kind, .slice none 0 0] 45 (0, 0)) := blk_put (cs := #[.int .i64 0, .slice none 0 0]) HZ4.out 0 _ rfl
  refine bodyPost_ret (results_cell_row rfl _ _ b2 45 #[.int .i64 s.kind, .slice A4 s.st.length c4] (0, 0) _ rfl (blk_put (cs := #[.int .i64 s.kind, .slice none 0 0]) hz2 1 _ rfl) Try.underlying45 rfl (by kernel_rfl)) rfl ?_
  have hwb : w.heap.size ≤ b2 := by rw [HSZ.out]; exact Nat.le_refl _
  exact ⟨A4, c4, rfl, Kd.R_set (Kd.R_set HR4.out HZ4.out (by decide) _ _) hz2 (by decide) _ _, (HB4.out.setCell hwb _).setCell hwb _⟩
end Go.Proofs.Ytlnhahnnjbfjdaa.RDecNew
namespace Go.Proofs.Ytlnhahnnjbfjdaa.TwoD
open Go Go.RowKit Go.Proofs.YtlnhahnnjbfjdaaW.PrintWords Go.Proofs.YtlnhahnnjbfjdaaW.PrintLast Go.Proofs.YtlnhahnnjbfjdaaW.PrintMore Go.Proofs.Ytlnhahnnjbfjdaa.Aid Go.Proofs.Ytlnhahnnjbfjdaa.HandAid Go.Proofs.Ytlnhahnnjbfjdaa.Cod1 Go.Proofs.Ytlnhahnnjbfjdaa.Cod2 Go.Proofs.Ytlnhahnnjbfjdaa.Cod3 Go.Proofs.Ytlnhahnnjbfjdaa.Mod Go.Proofs.Ytlnhahnnjbfjdaa.Enc Go.Proofs.Ytlnhahnnjbfjdaa.Mods Go.Proofs.Ytlnhahnnjbfjdaa.EncAt Go.Proofs.Ytlnhahnnjbfjdaa.Put Go.Proofs.Ytlnhahnnjbfjdaa.End Go.Proofs.Ytlnhahnnjbfjdaa.Snc Go.Proofs.Ytlnhahnnjbfjdaa.RefAt Go.Proofs.Ytlnhahnnjbfjdaa.Dec Go.Proofs.Ytlnhahnnjbfjdaa.Get Go.Proofs.Ytlnhahnnjbfjdaa.DecNew Go.Proofs.Ytlnhahnnjbfjdaa.RDec Go.Proofs.Ytlnhahnnjbfjdaa.RDecNew
/-- The program's decoder (at g, in the state s) and the reference's (at h, in the state t) side by side. -/
structure TwoD (w : World) (g h : Nat) (s t : DS) (W : World) : Prop where
  ex : ∃ S1 S2 : Nat → Prop, DecAt W S1 g s ∧ RDecAt W S2 h t ∧ (∀ k, S1 k → w.heap.size ≤ k ∧ k < W.heap.size) ∧ (∀ k, S2 k → w.heap.size ≤ k ∧ k < W.heap.size) ∧ (∀ k, S1 k → ¬ S2 k)
  b : Below w.heap.size w W
  sok : s.ok
  tok : t.ok
section
variable {w W W' : World} {g h : Nat} {s t : DS}
theorem TwoD.below (H : TwoD w g h s t W) (hb : Below W.heap.size W W') : TwoD w g h s t W' := by
  obtain ⟨⟨S1, S2, h1, h2, h3, h4, h5⟩, b, sok, tok⟩ := H
  exact ⟨⟨S1, S2, h1.below hb, h2.below hb, fun k hk => ⟨(h3 k hk).1, Nat.lt_of_lt_of_le (h3 k hk).2 hb.size⟩, fun k hk => ⟨(h4 k hk).1, Nat.lt_of_lt_of_le (h4 k hk).2 hb.size⟩, h5⟩, below_then b b.size hb, sok, tok⟩
theorem TwoD.get (H : TwoD w g h s t W) (i : Int) :
    Calls Try.prog 56 #[.pointer (some ⟨g, 0, none⟩), .int .i64 i] W fun e W' => e = .returned (.tuple #[.int .i64 (s.getI i).2.1, .int .i64 (s.getI i).2.2]) ∧ TwoD w g h (s.getI i).1 t W' := by
  obtain ⟨⟨S1, S2, h1, h2, h3, h4, h5⟩, b, sok, tok⟩ := H
  refine (get_calls W S1 g s i h1 (fun k hk => (h3 k hk).2) sok).mono ?_
  rintro e W' ⟨he, hE, hM⟩
  exact ⟨he, ⟨⟨S1, S2, hE, h2.kept hM (fun k hk hk1 => h5 k hk1 hk), fun k hk => ⟨(h3 k hk).1, Nat.lt_of_lt_of_le (h3 k hk).2 hM.size⟩, fun k hk => ⟨(h4 k hk).1, Nat.lt_of_lt_of_le (h4 k hk).2 hM.size⟩, h5⟩, below_mods b hM (fun k hk => (h3 k hk).1) b.size, DS.getI_ok sok _, tok⟩⟩
theorem TwoD.rget (H : TwoD w g h s t W) (i : Int) :
    Calls Try.prog 61 #[.pointer (some ⟨h, 0, none⟩), .int .i64 i] W fun e W' => e = .returned (.tuple #[.int .i64 (t.getI i).2.1, .int .i64 (t.getI i).2.2]) ∧ TwoD w g h s (t.getI i).1 W' := by
  obtain ⟨⟨S1, S2, h1, h2, h3, h4, h5⟩, b, sok, tok⟩ := H
  refine (rget_calls W S2 h t i h2 (fun k hk => (h4 k hk).2) tok).mono ?_
  rintro e W' ⟨he, hE, hM⟩
  exact ⟨he, ⟨⟨S1, S2, h1.kept hM (fun k hk hk1 => h5 k hk hk1), hE, fun k hk => ⟨(h3 k hk).1, Nat.lt_of_lt_of_le (h3 k hk).2 hM.size⟩, fun k hk => ⟨(h4 k hk).1, Nat.lt_of_lt_of_le (h4 k hk).2 hM.size⟩, h5⟩, below_mods b hM (fun k hk => (h4 k hk).1) b.size, sok, DS.getI_ok tok _⟩⟩
theorem TwoD.beyond (H : TwoD w g h s t W) : Calls Try.prog 29 #[.pointer (some ⟨g, 0, none⟩)] W fun e w' => e = .returned (.int .i64 ((s.a - s.code.length : Nat) : Int)) ∧ W = w' := by
  obtain ⟨⟨S1, S2, h1, h2, h3, h4, h5⟩, b, sok, tok⟩ := H
  exact beyond_calls W S1 g s h1
theorem TwoD.rbeyond (H : TwoD w g h s t W) : Calls Try.prog 30 #[.pointer (some ⟨h, 0, none⟩)] W fun e w' => e = .returned (.int .i64 ((t.a - t.code.length : Nat) : Int)) ∧ W = w' := by
  obtain ⟨⟨S1, S2, h1, h2, h3, h4, h5⟩, b, sok, tok⟩ := H
  exact rbeyond_calls W S2 h t h2
theorem TwoD.model (H : TwoD w g h s t W) : Calls Try.prog 44 #[.pointer (some ⟨g, 0, none⟩)] W (MPost W s.kind s.st) := by
  obtain ⟨⟨S1, S2, h1, h2, h3, h4, h5⟩, b, sok, tok⟩ := H
  exact dec_model_calls W S1 g s h1 sok
theorem TwoD.new {W1 W2 : World} (hb : Below w.heap.size w W) (h1 : DecAt W1 (Since W.heap.size W1) g s) (hb1 : Below W.heap.size W W1) (h2 : RDecAt W2 (Since W1.heap.size W2) h t) (hb2 : Below W1.heap.size W1 W2) (sok : s.ok) (tok : t.ok) : TwoD w g h s t W2 :=
  ⟨⟨_, _, h1.below hb2, h2, fun k hk => ⟨Nat.le_trans hb.size hk.1, Nat.lt_of_lt_of_le hk.2 hb2.size⟩, fun k hk => ⟨Nat.le_trans (Nat.le_trans hb.size hb1.size) hk.1, hk.2⟩, fun k hk hk2 => by have := hk.2; have := hk2.1; omega⟩, below_then (below_then hb hb.size hb1) (Nat.le_trans hb.size hb1.size) hb2, sok, tok⟩
end
end Go.Proofs.Ytlnhahnnjbfjdaa.TwoD
namespace Go.Proofs.Ytlnhahnnjbfjdaa.Ngt
open Go Go.RowKit Go.Proofs.YtlnhahnnjbfjdaaW.PrintWords Go.Proofs.YtlnhahnnjbfjdaaW.PrintLast Go.Proofs.YtlnhahnnjbfjdaaW.PrintMore Go.Proofs.Ytlnhahnnjbfjdaa.Aid Go.Proofs.Ytlnhahnnjbfjdaa.HandAid Go.Proofs.Ytlnhahnnjbfjdaa.Cod1 Go.Proofs.Ytlnhahnnjbfjdaa.Cod2 Go.Proofs.Ytlnhahnnjbfjdaa.Cod3 Go.Proofs.Ytlnhahnnjbfjdaa.Mod Go.Proofs.Ytlnhahnnjbfjdaa.Enc Go.Proofs.Ytlnhahnnjbfjdaa.Mods Go.Proofs.Ytlnhahnnjbfjdaa.EncAt Go.Proofs.Ytlnhahnnjbfjdaa.Put Go.Proofs.Ytlnhahnnjbfjdaa.End Go.Proofs.Ytlnhahnnjbfjdaa.Snc Go.Proofs.Ytlnhahnnjbfjdaa.Dec Go.Proofs.Ytlnhahnnjbfjdaa.Get
/-- What a number is told with: the decoder behind it, the number, the error. -/
abbrev NR := DS × (Bool × Int) × Int
/-- The context of digit i of c, of a tree at a base. -/
def ctxOf (c i : Nat) : Int := if i = 0 then 23 + (c : Int) else min (43 + (i : Int)) 47
def signD (base : Int) (s : DS) (v : Int) : NR :=
  if v > 1048577 then (s, (false, 0), 3) else if v = 1 then (s, (false, 0), 0)
  else if (s.getI (base + 22)).2.2 = 0 then ((s.getI (base + 22)).1, (false, (v - 1) * (1 - 2 * (s.getI (base + 22)).2.1)), 0) else ((s.getI (base + 22)).1, (false, 0), (s.getI (base + 22)).2.2)
def digD (base : Int) (c : Nat) : Nat → Nat → DS → Int → NR
  | 0, _, s, v => signD base s v
  | r + 1, i, s, v => if (s.getI (base + ctxOf c i)).2.2 = 0 then digD base c r (i + 1) (s.getI (base + ctxOf c i)).1 (2 * v + (s.getI (base + ctxOf c i)).2.1) else ((s.getI (base + ctxOf c i)).1, (false, 0), (s.getI (base + ctxOf c i)).2.2)
def lenD (base : Int) : Nat → Nat → DS → NR
  | 0, c, s => digD base c c 0 s 1
  | f + 1, c, s => if (s.getI (base + 1 + c)).2.2 = 0 then (if (s.getI (base + 1 + c)).2.1 = 0 then digD base c c 0 (s.getI (base + 1 + c)).1 1 else lenD base f (c + 1) (s.getI (base + 1 + c)).1) else ((s.getI (base + 1 + c)).1, (false, 0), (s.getI (base + 1 + c)).2.2)
/-- The number that a decoder tells next, of the tree at a base. -/
def numD (base : Int) (s : DS) : NR :=
  if (s.getI base).2.2 = 0 then (if (s.getI base).2.1 = 1 then ((s.getI base).1, (true, 0), 0) else lenD base 20 0 (s.getI base).1) else ((s.getI base).1, (false, 0), (s.getI base).2.2)
end Go.Proofs.Ytlnhahnnjbfjdaa.Ngt
namespace Go.Proofs.Ytlnhahnnjbfjdaa.Nwk
open Go Go.RowKit Go.Proofs.YtlnhahnnjbfjdaaW.PrintWords Go.Proofs.YtlnhahnnjbfjdaaW.PrintLast Go.Proofs.YtlnhahnnjbfjdaaW.PrintMore Go.Proofs.Ytlnhahnnjbfjdaa.Aid Go.Proofs.Ytlnhahnnjbfjdaa.HandAid Go.Proofs.Ytlnhahnnjbfjdaa.Cod1 Go.Proofs.Ytlnhahnnjbfjdaa.Cod2 Go.Proofs.Ytlnhahnnjbfjdaa.Cod3 Go.Proofs.Ytlnhahnnjbfjdaa.Mod Go.Proofs.Ytlnhahnnjbfjdaa.Enc Go.Proofs.Ytlnhahnnjbfjdaa.Mods Go.Proofs.Ytlnhahnnjbfjdaa.EncAt Go.Proofs.Ytlnhahnnjbfjdaa.Put Go.Proofs.Ytlnhahnnjbfjdaa.End Go.Proofs.Ytlnhahnnjbfjdaa.Snc Go.Proofs.Ytlnhahnnjbfjdaa.Dec Go.Proofs.Ytlnhahnnjbfjdaa.Get Go.Proofs.Ytlnhahnnjbfjdaa.Ngt
attribute [local go_sem] max2_int min2_int max_two min_two
theorem bit_range (s : DS) (i : Int) : 0 ≤ (s.getI i).2.1 ∧ (s.getI i).2.1 ≤ 1 := by
  unfold DS.getI
  split
  · split
    · exact ⟨Int.le_refl _, by show (0 : Int) ≤ 1; decide⟩
    · split
      · exact ⟨Int.le_refl _, by show (0 : Int) ≤ 1; decide⟩
      · have := DS.bit_ s i.toNat
        show 0 ≤ s.bit i.toNat ∧ s.bit i.toNat ≤ 1
        omega
  · exact ⟨Int.le_refl _, by show (0 : Int) ≤ 1; decide⟩
/-- What a decoder's row in memory is kept by. -/
class AtL (At : World → (Nat → Prop) → Nat → DS → Prop) : Prop where
  kept : ∀ {W W' : World} {S S' : Nat → Prop} {g : Nat} {s : DS}, At W S g s → Mods W W' S' → (∀ k, S k → ¬ S' k) → At W' S g s
  below : ∀ {W W' : World} {S : Nat → Prop} {g : Nat} {s : DS}, At W S g s → Below W.heap.size W W' → At W' S g s
  mono : ∀ {W : World} {S S' : Nat → Prop} {g : Nat} {s : DS}, At W S g s → (∀ k, S k → S' k) → At W S' g s
instance : AtL DecAt := ⟨fun h hk hne => DecAt.kept h hk hne, fun h hb => DecAt.below h hb, fun h hs => DecAt.mono h hs⟩
/-- A decoder at g, and what number.get has made: its result's cell. -/
structure GS (At : World → (Nat → Prop) → Nat → DS → Prop) (w : World) (S : Nat → Prop) (g gz : Nat) (s : DS) (W : World) : Prop where
  d : At W S g s
  m : Mods w W S
  z : W.heap[gz]? = some (.cells #[.bool false, .int .i64 0] 23 (0, 0))
  ok : s.ok
theorem GS.get {w W : World} {S : Nat → Prop} {g gz : Nat} {s : DS} (H : GS DecAt w S g gz s W) (hS : ∀ k, S k → k < w.heap.size) (hz : w.heap.size ≤ gz) (i : Int) :
    Calls Try.prog 56 #[.pointer (some ⟨g, 0, none⟩), .int .i64 i] W fun e W' => e = .returned (.tuple #[.int .i64 (s.getI i).2.1, .int .i64 (s.getI i).2.2]) ∧ GS DecAt w S g gz (s.getI i).1 W' ∧ Mods W W' S := by
  refine (get_calls W S g s i H.d (fun k hk => Nat.lt_of_lt_of_le (hS k hk) H.m.size) H.ok).mono ?_
  rintro e W' ⟨he, hE, hM⟩
  exact ⟨he, ⟨hE, H.m.then_ hM (fun k hk => .inl hk), blk_mods H.z hM (fun hk => by have := hS gz hk; omega), DS.getI_ok H.ok _⟩, hM⟩
/-- Another new block's cell is written. -/
theorem GS.tail {At : World → (Nat → Prop) → Nat → DS → Prop} [AtL At] {w W : World} {S : Nat → Prop} {g gz : Nat} {s : DS} (H : GS At w S g gz s W) (hS : ∀ k, S k → k < w.heap.size) {gt : Nat} (ht : w.heap.size ≤ gt) (hne : gt ≠ gz) (v : Value) : GS At w S g gz s (W.setCell ⟨gt, 0, none⟩ v) := by
  have h2 : Mods W (W.setCell ⟨gt, 0, none⟩ v) (fun k => k = gt) := (Mods.refl W (fun k => k = gt)).setCell (p := ⟨gt, 0, none⟩) (.inl rfl) v
  exact ⟨AtL.kept H.d h2 (fun k hk hk2 => by have := hS k hk; omega), H.m.then_ h2 (fun k hk => .inr (by omega)), blk_mods H.z h2 (fun hk => hne hk.symm), H.ok⟩
theorem GS.below {At : World → (Nat → Prop) → Nat → DS → Prop} [AtL At] {w W W' : World} {S : Nat → Prop} {g gz : Nat} {s : DS} (H : GS At w S g gz s W) (hb : Below W.heap.size W W') : GS At w S g gz s W' :=
  ⟨AtL.below H.d hb, H.m.below hb, blk_below H.z hb, H.ok⟩
theorem zset {W : World} {gz : Nat} {u v : Value} (h : W.heap[gz]? = some (.cells #[u, v] 23 (0, 0))) (p q : Value) :
    ((W.setCell ⟨gz, 0, none⟩ p).setCell ⟨gz, 1, none⟩ q).heap[gz]? = some (.cells #[p, q] 23 (0, 0)) := by simpa using blk_set (blk_set h 0 p) 1 q
/-- The end: the result's cell is written. -/
theorem GS.fin {At : World → (Nat → Prop) → Nat → DS → Prop} [AtL At] {w W : World} {S : Nat → Prop} {g gz : Nat} {s : DS} (H : GS At w S g gz s W) (hS : ∀ k, S k → k < w.heap.size) (hz : w.heap.size ≤ gz) (p q : Value) :
    At ((W.setCell ⟨gz, 0, none⟩ p).setCell ⟨gz, 1, none⟩ q) S g s ∧ Mods w ((W.setCell ⟨gz, 0, none⟩ p).setCell ⟨gz, 1, none⟩ q) S := by
  have h2 : Mods W ((W.setCell ⟨gz, 0, none⟩ p).setCell ⟨gz, 1, none⟩ q) (fun k => k = gz) := ((Mods.refl W (fun k => k = gz)).setCell (p := ⟨gz, 0, none⟩) (.inl rfl) p).setCell (p := ⟨gz, 1, none⟩) (.inl rfl) q
  exact ⟨AtL.kept H.d h2 (fun k hk hk2 => by have := hS k hk; omega), H.m.then_ h2 (fun k hk => .inr (by omega))⟩
theorem nret {W : World} {gz : Nat} {nn : Bool} {N err : Int} {tmps : Array Value} (hz : W.heap[gz]? = some (.cells #[.bool nn, .int .i64 N] 23 (0, 0))) (h2 : tmps.getD 4 undef = .pointer (some ⟨gz, 0, none⟩)) (h3 : tmps.getD 5 undef = .int .i64 err) :
    (results Try.f48 tmps).run Try.prog W = .ok (.tuple #[.agg #[.bool nn, .int .i64 N], .int .i64 err]) W := by
  have y0 : W.cell? ⟨gz, 0, none⟩ = some (.bool nn) := (blk_cell hz 0).trans rfl
  have y1 : W.cell? ⟨gz, 1, none⟩ = some (.int .i64 N) := (blk_cell hz 1).trans rfl
  have hu := Try.underlying23
  rw [results_cell_tmp rfl, h2, h3]
  go_simp
theorem take_calls (W : World) (gt : Nat) (n : Int) (h : W.heap[gt]? = some (.cells #[.int .i64 n] 117 (0, 0))) (h0 : 0 ≤ n) (h1 : n ≤ 47) :
    Calls Try.prog 69 #[.pointer (some ⟨gt, 0, none⟩)] W fun e W' => e = .returned (.int .i64 n) ∧ W' = W.setCell ⟨gt, 0, none⟩ (.int .i64 (min (n + 1) 47)) := by
  have k0 : W.cell? ⟨gt, 0, none⟩ = some (.int .i64 n) := (blk_cell h 0).trans rfl
  have fz := blk_frozen h 0
  go_enter Try.func69, Try.ntmps69
  go_wp2
  all_goals (go_ret; exact ⟨rfl, by rw [Int.min_def]; split <;> first | rfl | (exfalso; omega) | (congr 2; omega)⟩)
/-- What number.get answers. -/
def NPost (At : World → (Nat → Prop) → Nat → DS → Prop) (w : World) (S : Nat → Prop) (g : Nat) (R : NR) (e : Ending) (W : World) : Prop :=
  e = .returned (.tuple #[.agg #[.bool R.2.1.1, .int .i64 R.2.1.2], .int .i64 R.2.2]) ∧ At W S g R.1 ∧ Mods w W S ∧ R.1.ok
set_option maxHeartbeats 8000000 in
set_option maxRecDepth 100000 in
theorem number_get (w : World) (S : Nat → Prop) (g : Nat) (s : DS) (base : Int) (h : DecAt w S g s) (hS : ∀ k, S k → k < w.heap.size) (hok : s.ok) (hb0 : 0 ≤ base) (hb1 : base ≤ 1099511627776) (R : NR) (hR : numD base s = R) :
    Calls Try.prog 48 #[.pointer (some ⟨g, 0, none⟩), .int .i64 base] w (NPost DecAt w S g R) := by
  have hu1 := Try.underlying23
  have hu2 := Try.underlying117
  obtain ⟨gz, hgz⟩ : ∃ x, w.heap.size = x := ⟨_, rfl⟩
  have hz : w.heap.size ≤ gz := Nat.le_of_eq hgz
  have HA := Aside0.mk h
  have HO := Aside0.mk hok
  have HS := Aside0.mk hS
  have HR := Aside0.mk hR
  clear h hok hS hR
  obtain ⟨W1, hW1⟩ : ∃ x, w.alloc (.cells #[.bool false, .int .i64 0] 23) = x := ⟨_, rfl⟩
  have HG := Aside0.mk (show GS DecAt w S g gz s W1 from hW1 ▸ ⟨HA.out.below (below_alloc (Below.refl _ _) _), (Mods.refl w S).below (below_alloc (Below.refl _ _) _), hgz ▸ heap_new w _, HO.out⟩)
  clear HA HO
  have hR := HR.out
  clear HR
  unfold numD at hR
  go_enter Try.func48, Try.ntmps48
  go_wp2_with (fail)
  refine (GS.get HG.out HS.out hz base).mono ?_
  rintro e W2 ⟨rfl, hg, hm⟩
  obtain ⟨⟨s1, bt, er⟩, hg1⟩ : ∃ x, s.getI base = x := ⟨_, rfl⟩
  have hbtbt : 0 ≤ bt ∧ bt ≤ 1 := by have := bit_range s base; rw [hg1] at this; exact this
  rw [hg1] at hR hg ⊢
  simp only at hR hg ⊢
  have HG2 := Aside0.mk hg
  clear hg hm hg1
  have z0W2 : W2.cell? ⟨gz, 0, none⟩ = some (.bool false) := (blk_cell HG2.out.z 0).trans rfl
  have z1W2 : W2.cell? ⟨gz, 1, none⟩ = some (.int .i64 0) := (blk_cell HG2.out.z 1).trans rfl
  have y0W2 := blk_frozen HG2.out.z 0
  have y1W2 := blk_frozen HG2.out.z 1
  by_cases her : er = 0
  · subst her
    rw [if_pos rfl] at hR
    by_cases hb : bt = 1
    · subst hb
      rw [if_pos rfl] at hR
      subst hR
      go_wp2_with (fail)
      exact bodyPost_ret (nret (zset HG2.out.z (.bool true) (.int .i64 0)) rfl rfl) rfl ⟨rfl, (HG2.out.fin HS.out hz (.bool true) (.int .i64 0)).1, (HG2.out.fin HS.out hz (.bool true) (.int .i64 0)).2, HG2.out.ok⟩
    · rw [if_neg hb] at hR
      have eb : (bt == 1) = false := beq_eq_false_iff_ne.mpr hb
      clear HG
      go_wp2_with (fail)
      go_loopw [8] (fun x wr => ∃ c : Nat, ∃ s1 : DS, c ≤ 20 ∧ x = .int .i64 c ∧ lenD base (20 - c) c s1 = R ∧ Aside0 (GS DecAt w S g gz s1 wr)) (fun x _ => (20 - intOf x).toNat)
      case atStart => exact ⟨0, s1, by omega, rfl, hR, HG2⟩
      case round =>
        obtain ⟨c, s2, hc, rfl, hR, HG3⟩ := hrel
        clear z0W2 z1W2 y0W2 y1W2 HG2
        by_cases hlt : c < 20
        · have hcl : (c : Int) < 20 := by omega
          rw [show 20 - c = (20 - (c + 1)) + 1 by omega] at hR
          unfold lenD at hR
          go_wp2_with (fail)
          refine (GS.get HG3.out HS.out hz (base + 1 + c)).mono ?_
          rintro e W3 ⟨rfl, hg, hm⟩
          obtain ⟨⟨s3, btc, erc⟩, hg1⟩ : ∃ x, s2.getI (base + 1 + c) = x := ⟨_, rfl⟩
          have hbtbtc : 0 ≤ btc ∧ btc ≤ 1 := by have := bit_range s2 (base + 1 + c); rw [hg1] at this; exact this
          rw [hg1] at hR hg ⊢
          simp only at hR hg ⊢
          have HG4 := Aside0.mk hg
          clear hg hm hg1
          have z0W3 : W3.cell? ⟨gz, 0, none⟩ = some (.bool false) := (blk_cell HG4.out.z 0).trans rfl
          have z1W3 : W3.cell? ⟨gz, 1, none⟩ = some (.int .i64 0) := (blk_cell HG4.out.z 1).trans rfl
          have y0W3 := blk_frozen HG4.out.z 0
          have y1W3 := blk_frozen HG4.out.z 1
          by_cases herc : erc = 0
          · subst herc
            rw [if_pos rfl] at hR
            by_cases hbc : btc = 0
            · subst hbc
              rw [if_pos rfl] at hR
              clear HG3
              go_wp2_with (fail)
              obtain ⟨gt, hgt⟩ : ∃ x, W3.heap.size = x := ⟨_, rfl⟩
              have hgt1 : w.heap.size ≤ gt := hgt ▸ HG4.out.m.size
              have hgz2 : gz < W3.heap.size := blk_lt HG4.out.z
              have hgt2 : gt ≠ gz := by omega
              obtain ⟨W5, hW5⟩ : ∃ x, W3.alloc (.cells #[.int .i64 44] 117) = x := ⟨_, rfl⟩
              have HT := Aside0.mk (show W5.heap[gt]? = some (.cells #[.int .i64 (if 0 = 0 then 44 else min (43 + (0 : Int)) 47)] 117 (0, 0)) from hW5 ▸ hgt ▸ heap_new _ _)
              have HG5 := Aside0.mk (show GS DecAt w S g gz s3 W5 from hW5 ▸ HG4.out.below (below_alloc (Below.refl _ _) _))
              rw [hW5, hgt]
              clear hW5 hgt hgz2 HG4
              go_loopw [9, 50] (fun uv ui wq => ∃ i : Nat, ∃ v : Int, ∃ s : DS, i ≤ c ∧ uv = .int .i64 v ∧ ui = .int .i64 i ∧ digD base c (c - i) i s v = R ∧ 0 ≤ v ∧ v < 2 ^ (i + 1) ∧ Aside0 (GS DecAt w S g gz s wq) ∧ Aside0 (wq.heap[gt]? = some (.cells #[.int .i64 (if i = 0 then 44 else min (43 + (i : Int)) 47)] 117 (0, 0)))) (fun _ ui _ => (c - intOf ui).toNat)
              case atStart => exact ⟨0, 1, s3, by omega, rfl, rfl, hR, by omega, by decide, HG5, HT⟩
              case round =>
                obtain ⟨i, v, s4, hi, rfl, rfl, hR, hv0, hv1, HG7, HT6⟩ := hrel
                clear HG5 HT
                have hp : (2 : Int) ^ (i + 1) ≤ 2097152 := by
                  have h3 : (2 : Nat) ^ (i + 1) ≤ 2 ^ 21 := Nat.pow_le_pow_right (by omega) (by omega)
                  have h4 : ((2 ^ (i + 1) : Nat) : Int) ≤ ((2 ^ 21 : Nat) : Int) := Int.ofNat_le.mpr h3
                  rw [Int.natCast_pow] at h4
                  exact h4
                by_cases hic : i < c
                · have hicl : (i : Int) < c := by omega
                  rw [show c - i = (c - (i + 1)) + 1 by omega] at hR
                  unfold digD at hR
                  by_cases hi0 : i = 0
                  · have hi0l : ¬ (0 : Int) < (i : Int) := by omega
                    rw [show ctxOf c i = 23 + (c : Int) from if_pos hi0] at hR
                    have HT6 := Aside0.mk (show wr.heap[gt]? = some (.cells #[.int .i64 (if i + 1 = 0 then 44 else min (43 + ((i + 1 : Nat) : Int)) 47)] 117 (0, 0)) from by have h := HT6.out; rw [if_pos hi0] at h; rw [if_neg (Nat.succ_ne_zero i), show min (43 + ((i + 1 : Nat) : Int)) 47 = 44 by omega]; exact h)
                    have hi0 := Aside0.mk hi0
                    go_wp2_with (fail)
                    refine (GS.get HG7.out HS.out hz (base + (23 + c))).mono ?_
                    rintro e W6 ⟨rfl, hg, hm⟩
                    obtain ⟨⟨s5, btd, erd⟩, hg1⟩ : ∃ x, s4.getI (base + (23 + c)) = x := ⟨_, rfl⟩
                    have hbtbtd : 0 ≤ btd ∧ btd ≤ 1 := by have := bit_range s4 (base + (23 + c)); rw [hg1] at this; exact this
                    rw [hg1] at hR hg ⊢
                    simp only at hR hg ⊢
                    have HG6 := Aside0.mk hg
                    have HT6 := Aside0.mk (blk_mods HT6.out hm (fun hk => by have := HS.out _ hk; omega))
                    clear hg hm hg1
                    have z0W6 : W6.cell? ⟨gz, 0, none⟩ = some (.bool false) := (blk_cell HG6.out.z 0).trans rfl
                    have z1W6 : W6.cell? ⟨gz, 1, none⟩ = some (.int .i64 0) := (blk_cell HG6.out.z 1).trans rfl
                    have y0W6 := blk_frozen HG6.out.z 0
                    have y1W6 := blk_frozen HG6.out.z 1
                    by_cases herd : erd = 0
                    · subst herd
                      rw [if_pos rfl] at hR
                      go_wp2_with (fail)
                      exact ⟨⟨i + 1, 2 * v + btd, s5, by omega, rfl, by rw [hi0.out]; rfl, hR, by omega, by rw [Int.pow_succ]; omega, HG6, HT6⟩, by simp [intOf]; omega⟩
                    · rw [if_neg herd] at hR
                      subst hR
                      have e0erd : (erd == 0) = false := beq_eq_false_iff_ne.mpr herd
                      have e1erd : (erd != 0) = true := bne_iff_ne.mpr herd
                      go_wp2_with (fail)
                      exact bodyPost_ret (nret (zset HG6.out.z (.bool false) (.int .i64 0)) rfl rfl) rfl ⟨rfl, (HG6.out.fin HS.out hz (.bool false) (.int .i64 0)).1, (HG6.out.fin HS.out hz (.bool false) (.int .i64 0)).2, HG6.out.ok⟩
                  · have hi0l : (0 : Int) < (i : Int) := by omega
                    obtain ⟨n, hn⟩ : ∃ n : Int, min (43 + (i : Int)) 47 = n := ⟨_, rfl⟩
                    have hn0 : 44 ≤ n ∧ n ≤ 47 := by omega
                    have hn1 : min (n + 1) 47 = min (43 + ((i + 1 : Nat) : Int)) 47 := by omega
                    rw [show ctxOf c i = n from (if_neg hi0).trans hn] at hR
                    rw [if_neg hi0, hn] at HT6
                    go_wp2_with (fail)
                    refine (take_calls _ gt n HT6.out (by omega) (by omega)).mono ?_
                    rintro e W7 ⟨rfl, hw7⟩
                    have HG8 := Aside0.mk (show GS DecAt w S g gz s4 W7 from hw7 ▸ HG7.out.tail HS.out hgt1 hgt2 _)
                    have HT6 := Aside0.mk (show W7.heap[gt]? = some (.cells #[.int .i64 (if i + 1 = 0 then 44 else min (43 + ((i + 1 : Nat) : Int)) 47)] 117 (0, 0)) from by rw [hw7, if_neg (Nat.succ_ne_zero i), ← hn1]; simpa using blk_set HT6.out 0 _)
                    clear hw7
                    go_wp2_with (fail)
                    refine (GS.get HG8.out HS.out hz (base + n)).mono ?_
                    rintro e W6 ⟨rfl, hg, hm⟩
                    obtain ⟨⟨s5, btd, erd⟩, hg1⟩ : ∃ x, s4.getI (base + n) = x := ⟨_, rfl⟩
                    have hbtbtd : 0 ≤ btd ∧ btd ≤ 1 := by have := bit_range s4 (base + n); rw [hg1] at this; exact this
                    rw [hg1] at hR hg ⊢
                    simp only at hR hg ⊢
                    have HG6 := Aside0.mk hg
                    have HT6 := Aside0.mk (blk_mods HT6.out hm (fun hk => by have := HS.out _ hk; omega))
                    clear hg hm hg1
                    have z0W6 : W6.cell? ⟨gz, 0, none⟩ = some (.bool false) := (blk_cell HG6.out.z 0).trans rfl
                    have z1W6 : W6.cell? ⟨gz, 1, none⟩ = some (.int .i64 0) := (blk_cell HG6.out.z 1).trans rfl
                    have y0W6 := blk_frozen HG6.out.z 0
                    have y1W6 := blk_frozen HG6.out.z 1
                    by_cases herd : erd = 0
                    · subst herd
                      rw [if_pos rfl] at hR
                      go_wp2_with (fail)
                      exact ⟨⟨i + 1, 2 * v + btd, s5, by omega, rfl, rfl, hR, by omega, by rw [Int.pow_succ]; omega, HG6, HT6⟩, by simp [intOf]; omega⟩
                    · rw [if_neg herd] at hR
                      subst hR
                      have e0erd : (erd == 0) = false := beq_eq_false_iff_ne.mpr herd
                      have e1erd : (erd != 0) = true := bne_iff_ne.mpr herd
                      go_wp2_with (fail)
                      exact bodyPost_ret (nret (zset HG6.out.z (.bool false) (.int .i64 0)) rfl rfl) rfl ⟨rfl, (HG6.out.fin HS.out hz (.bool false) (.int .i64 0)).1, (HG6.out.fin HS.out hz (.bool false) (.int .i64 0)).2, HG6.out.ok⟩
                · have hicl : ¬ (i : Int) < c := by omega
                  rw [show c - i = 0 by omega] at hR
                  unfold digD signD at hR
                  clear HT6
                  have z0wq : wr.cell? ⟨gz, 0, none⟩ = some (.bool false) := (blk_cell HG7.out.z 0).trans rfl
                  have z1wq : wr.cell? ⟨gz, 1, none⟩ = some (.int .i64 0) := (blk_cell HG7.out.z 1).trans rfl
                  have y0wq := blk_frozen HG7.out.z 0
                  have y1wq := blk_frozen HG7.out.z 1
                  by_cases hv2 : v > 1048577
                  · rw [if_pos hv2] at hR
                    subst hR
                    have hv3 : 1048577 < v := hv2
                    go_wp2_with (fail)
                    exact bodyPost_ret (nret (zset HG7.out.z (.bool false) (.int .i64 0)) rfl rfl) rfl ⟨rfl, (HG7.out.fin HS.out hz (.bool false) (.int .i64 0)).1, (HG7.out.fin HS.out hz (.bool false) (.int .i64 0)).2, HG7.out.ok⟩
                  · rw [if_neg hv2] at hR
                    have hv3 : ¬ 1048577 < v := hv2
                    by_cases hv4 : v = 1
                    · rw [if_pos hv4] at hR
                      subst hR
                      have hv5 : (v == 1) = true := beq_iff_eq.mpr hv4
                      go_wp2_with (fail)
                      exact bodyPost_ret (nret (zset HG7.out.z (.bool false) (.int .i64 0)) rfl rfl) rfl ⟨rfl, (HG7.out.fin HS.out hz (.bool false) (.int .i64 0)).1, (HG7.out.fin HS.out hz (.bool false) (.int .i64 0)).2, HG7.out.ok⟩
                    · rw [if_neg hv4] at hR
                      have hv5 : (v == 1) = false := beq_eq_false_iff_ne.mpr hv4
                      clear z0wq z1wq y0wq y1wq
                      go_wp2_with (fail)
                      refine (GS.get HG7.out HS.out hz (base + 22)).mono ?_
                      rintro e W6 ⟨rfl, hg, hm⟩
                      obtain ⟨⟨s5, btd, erd⟩, hg1⟩ : ∃ x, s4.getI (base + 22) = x := ⟨_, rfl⟩
                      have hbtbtd : 0 ≤ btd ∧ btd ≤ 1 := by have := bit_range s4 (base + 22); rw [hg1] at this; exact this
                      rw [hg1] at hR hg ⊢
                      simp only at hR hg ⊢
                      have HG6 := Aside0.mk hg
                      clear hg hm hg1
                      have z0W6 : W6.cell? ⟨gz, 0, none⟩ = some (.bool false) := (blk_cell HG6.out.z 0).trans rfl
                      have z1W6 : W6.cell? ⟨gz, 1, none⟩ = some (.int .i64 0) := (blk_cell HG6.out.z 1).trans rfl
                      have y0W6 := blk_frozen HG6.out.z 0
                      have y1W6 := blk_frozen HG6.out.z 1
                      by_cases herd : erd = 0
                      · subst herd
                        rw [if_pos rfl] at hR
                        rcases (show btd = 0 ∨ btd = 1 by omega) with rfl | rfl
                        · rw [show (v - 1) * (1 - 2 * 0) = v - 1 by omega] at hR
                          subst hR
                          go_wp2_with (fail)
                          exact bodyPost_ret (nret (zset HG6.out.z (.bool false) (.int .i64 (v - 1))) rfl rfl) rfl ⟨rfl, (HG6.out.fin HS.out hz (.bool false) (.int .i64 (v - 1))).1, (HG6.out.fin HS.out hz (.bool false) (.int .i64 (v - 1))).2, HG6.out.ok⟩
                        · rw [show (v - 1) * (1 - 2 * 1) = -(v - 1) by omega] at hR
                          subst hR
                          go_wp2_with (fail)
                          exact bodyPost_ret (nret (zset HG6.out.z (.bool false) (.int .i64 (-(v - 1)))) rfl rfl) rfl ⟨rfl, (HG6.out.fin HS.out hz (.bool false) (.int .i64 (-(v - 1)))).1, (HG6.out.fin HS.out hz (.bool false) (.int .i64 (-(v - 1)))).2, HG6.out.ok⟩
                      · rw [if_neg herd] at hR
                        subst hR
                        have e0erd : (erd == 0) = false := beq_eq_false_iff_ne.mpr herd
                        have e1erd : (erd != 0) = true := bne_iff_ne.mpr herd
                        go_wp2_with (fail)
                        exact bodyPost_ret (nret (zset HG6.out.z (.bool false) (.int .i64 0)) rfl rfl) rfl ⟨rfl, (HG6.out.fin HS.out hz (.bool false) (.int .i64 0)).1, (HG6.out.fin HS.out hz (.bool false) (.int .i64 0)).2, HG6.out.ok⟩
            · rw [if_neg hbc] at hR
              have ebc : (btc == 0) = false := beq_eq_false_iff_ne.mpr hbc
              go_wp2_with (fail)
              exact ⟨⟨c + 1, s3, by omega, rfl, by exact hR, HG4⟩, by simp [intOf]; omega⟩
          · rw [if_neg herc] at hR
            subst hR
            have e0erc : (erc == 0) = false := beq_eq_false_iff_ne.mpr herc
            have e1erc : (erc != 0) = true := bne_iff_ne.mpr herc
            go_wp2_with (fail)
            exact bodyPost_ret (nret (zset HG4.out.z (.bool false) (.int .i64 0)) rfl rfl) rfl ⟨rfl, (HG4.out.fin HS.out hz (.bool false) (.int .i64 0)).1, (HG4.out.fin HS.out hz (.bool false) (.int .i64 0)).2, HG4.out.ok⟩
        · have hcl : ¬ (c : Int) < 20 := by omega
          rw [show 20 - c = 0 by omega] at hR
          unfold lenD at hR
          go_wp2_with (fail)
          obtain ⟨gt, hgt⟩ : ∃ x, wr.heap.size = x := ⟨_, rfl⟩
          have hgt1 : w.heap.size ≤ gt := hgt ▸ HG3.out.m.size
          have hgz2 : gz < wr.heap.size := blk_lt HG3.out.z
          have hgt2 : gt ≠ gz := by omega
          obtain ⟨W5, hW5⟩ : ∃ x, wr.alloc (.cells #[.int .i64 44] 117) = x := ⟨_, rfl⟩
          have HT := Aside0.mk (show W5.heap[gt]? = some (.cells #[.int .i64 (if 0 = 0 then 44 else min (43 + (0 : Int)) 47)] 117 (0, 0)) from hW5 ▸ hgt ▸ heap_new _ _)
          have HG5 := Aside0.mk (show GS DecAt w S g gz s2 W5 from hW5 ▸ HG3.out.below (below_alloc (Below.refl _ _) _))
          rw [hW5, hgt]
          clear hW5 hgt hgz2 HG3
          go_loopw [9, 50] (fun uv ui wq => ∃ i : Nat, ∃ v : Int, ∃ s : DS, i ≤ c ∧ uv = .int .i64 v ∧ ui = .int .i64 i ∧ digD base c (c - i) i s v = R ∧ 0 ≤ v ∧ v < 2 ^ (i + 1) ∧ Aside0 (GS DecAt w S g gz s wq) ∧ Aside0 (wq.heap[gt]? = some (.cells #[.int .i64 (if i = 0 then 44 else min (43 + (i : Int)) 47)] 117 (0, 0)))) (fun _ ui _ => (c - intOf ui).toNat)
          case atStart => exact ⟨0, 1, s2, by omega, rfl, rfl, hR, by omega, by decide, HG5, HT⟩
          case round =>
            obtain ⟨i, v, s4, hi, rfl, rfl, hR, hv0, hv1, HG7, HT6⟩ := hrel
            clear HG5 HT
            have hp : (2 : Int) ^ (i + 1) ≤ 2097152 := by
              have h3 : (2 : Nat) ^ (i + 1) ≤ 2 ^ 21 := Nat.pow_le_pow_right (by omega) (by omega)
              have h4 : ((2 ^ (i + 1) : Nat) : Int) ≤ ((2 ^ 21 : Nat) : Int) := Int.ofNat_le.mpr h3
              rw [Int.natCast_pow] at h4
              exact h4
            by_cases hic : i < c
            · have hicl : (i : Int) < c := by omega
              rw [show c - i = (c - (i + 1)) + 1 by omega] at hR
              unfold digD at hR
              by_cases hi0 : i = 0
              · have hi0l : ¬ (0 : Int) < (i : Int) := by omega
                rw [show ctxOf c i = 23 + (c : Int) from if_pos hi0] at hR
                have HT6 := Aside0.mk (show wr.heap[gt]? = some (.cells #[.int .i64 (if i + 1 = 0 then 44 else min (43 + ((i + 1 : Nat) : Int)) 47)] 117 (0, 0)) from by have h := HT6.out; rw [if_pos hi0] at h; rw [if_neg (Nat.succ_ne_zero i), show min (43 + ((i + 1 : Nat) : Int)) 47 = 44 by omega]; exact h)
                have hi0 := Aside0.mk hi0
                go_wp2_with (fail)
                refine (GS.get HG7.out HS.out hz (base + (23 + c))).mono ?_
                rintro e W6 ⟨rfl, hg, hm⟩
                obtain ⟨⟨s5, btd, erd⟩, hg1⟩ : ∃ x, s4.getI (base + (23 + c)) = x := ⟨_, rfl⟩
                have hbtbtd : 0 ≤ btd ∧ btd ≤ 1 := by have := bit_range s4 (base + (23 + c)); rw [hg1] at this; exact this
                rw [hg1] at hR hg ⊢
                simp only at hR hg ⊢
                have HG6 := Aside0.mk hg
                have HT6 := Aside0.mk (blk_mods HT6.out hm (fun hk => by have := HS.out _ hk; omega))
                clear hg hm hg1
                have z0W6 : W6.cell? ⟨gz, 0, none⟩ = some (.bool false) := (blk_cell HG6.out.z 0).trans rfl
                have z1W6 : W6.cell? ⟨gz, 1, none⟩ = some (.int .i64 0) := (blk_cell HG6.out.z 1).trans rfl
                have y0W6 := blk_frozen HG6.out.z 0
                have y1W6 := blk_frozen HG6.out.z 1
                by_cases herd : erd = 0
                · subst herd
                  rw [if_pos rfl] at hR
                  go_wp2_with (fail)
                  exact ⟨⟨i + 1, 2 * v + btd, s5, by omega, rfl, by rw [hi0.out]; rfl, hR, by omega, by rw [Int.pow_succ]; omega, HG6, HT6⟩, by simp [intOf]; omega⟩
                · rw [if_neg herd] at hR
                  subst hR
                  have e0erd : (erd == 0) = false := beq_eq_false_iff_ne.mpr herd
                  have e1erd : (erd != 0) = true := bne_iff_ne.mpr herd
                  go_wp2_with (fail)
                  exact bodyPost_ret (nret (zset HG6.out.z (.bool false) (.int .i64 0)) rfl rfl) rfl ⟨rfl, (HG6.out.fin HS.out hz (.bool false) (.int .i64 0)).1, (HG6.out.fin HS.out hz (.bool false) (.int .i64 0)).2, HG6.out.ok⟩
              · have hi0l : (0 : Int) < (i : Int) := by omega
                obtain ⟨n, hn⟩ : ∃ n : Int, min (43 + (i : Int)) 47 = n := ⟨_, rfl⟩
                have hn0 : 44 ≤ n ∧ n ≤ 47 := by omega
                have hn1 : min (n + 1) 47 = min (43 + ((i + 1 : Nat) : Int)) 47 := by omega
                rw [show ctxOf c i = n from (if_neg hi0).trans hn] at hR
                rw [if_neg hi0, hn] at HT6
                go_wp2_with (fail)
                refine (take_calls _ gt n HT6.out (by omega) (by omega)).mono ?_
                rintro e W7 ⟨rfl, hw7⟩
                have HG8 := Aside0.mk (show GS DecAt w S g gz s4 W7 from hw7 ▸ HG7.out.tail HS.out hgt1 hgt2 _)
                have HT6 := Aside0.mk (show W7.heap[gt]? = some (.cells #[.int .i64 (if i + 1 = 0 then 44 else min (43 + ((i + 1 : Nat) : Int)) 47)] 117 (0, 0)) from by rw [hw7, if_neg (Nat.succ_ne_zero i), ← hn1]; simpa using blk_set HT6.out 0 _)
                clear hw7
                go_wp2_with (fail)
                refine (GS.get HG8.out HS.out hz (base + n)).mono ?_
                rintro e W6 ⟨rfl, hg, hm⟩
                obtain ⟨⟨s5, btd, erd⟩, hg1⟩ : ∃ x, s4.getI (base + n) = x := ⟨_, rfl⟩
                have hbtbtd : 0 ≤ btd ∧ btd ≤ 1 := by have := bit_range s4 (base + n); rw [hg1] at this; exact this
                rw [hg1] at hR hg ⊢
                simp only at hR hg ⊢
                have HG6 := Aside0.mk hg
                have HT6 := Aside0.mk (blk_mods HT6.out hm (fun hk => by have := HS.out _ hk; omega))
                clear hg hm hg1
                have z0W6 : W6.cell? ⟨gz, 0, none⟩ = some (.bool false) := (blk_cell HG6.out.z 0).trans rfl
                have z1W6 : W6.cell? ⟨gz, 1, none⟩ = some (.int .i64 0) := (blk_cell HG6.out.z 1).trans rfl
                have y0W6 := blk_frozen HG6.out.z 0
                have y1W6 := blk_frozen HG6.out.z 1
                by_cases herd : erd = 0
                · subst herd
                  rw [if_pos rfl] at hR
                  go_wp2_with (fail)
                  exact ⟨⟨i + 1, 2 * v + btd, s5, by omega, rfl, rfl, hR, by omega, by rw [Int.pow_succ]; omega, HG6, HT6⟩, by simp [intOf]; omega⟩
                · rw [if_neg herd] at hR
                  subst hR
                  have e0erd : (erd == 0) = false := beq_eq_false_iff_ne.mpr herd
                  have e1erd : (erd != 0) = true := bne_iff_ne.mpr herd
                  go_wp2_with (fail)
                  exact bodyPost_ret (nret (zset HG6.out.z (.bool false) (.int .i64 0)) rfl rfl) rfl ⟨rfl, (HG6.out.fin HS.out hz (.bool false) (.int .i64 0)).1, (HG6.out.fin HS.out hz (.bool false) (.int .i64 0)).2, HG6.out.ok⟩
            · have hicl : ¬ (i : Int) < c := by omega
              rw [show c - i = 0 by omega] at hR
              unfold digD signD at hR
              clear HT6
              have z0wq : wr.cell? ⟨gz, 0, none⟩ = some (.bool false) := (blk_cell HG7.out.z 0).trans rfl
              have z1wq : wr.cell? ⟨gz, 1, none⟩ = some (.int .i64 0) := (blk_cell HG7.out.z 1).trans rfl
              have y0wq := blk_frozen HG7.out.z 0
              have y1wq := blk_frozen HG7.out.z 1
              by_cases hv2 : v > 1048577
              · rw [if_pos hv2] at hR
                subst hR
                have hv3 : 1048577 < v := hv2
                go_wp2_with (fail)
                exact bodyPost_ret (nret (zset HG7.out.z (.bool false) (.int .i64 0)) rfl rfl) rfl ⟨rfl, (HG7.out.fin HS.out hz (.bool false) (.int .i64 0)).1, (HG7.out.fin HS.out hz (.bool false) (.int .i64 0)).2, HG7.out.ok⟩
              · rw [if_neg hv2] at hR
                have hv3 : ¬ 1048577 < v := hv2
                by_cases hv4 : v = 1
                · rw [if_pos hv4] at hR
                  subst hR
                  have hv5 : (v == 1) = true := beq_iff_eq.mpr hv4
                  go_wp2_with (fail)
                  exact bodyPost_ret (nret (zset HG7.out.z (.bool false) (.int .i64 0)) rfl rfl) rfl ⟨rfl, (HG7.out.fin HS.out hz (.bool false) (.int .i64 0)).1, (HG7.out.fin HS.out hz (.bool false) (.int .i64 0)).2, HG7.out.ok⟩
                · rw [if_neg hv4] at hR
                  have hv5 : (v == 1) = false := beq_eq_false_iff_ne.mpr hv4
                  clear z0wq z1wq y0wq y1wq
                  go_wp2_with (fail)
                  refine (GS.get HG7.out HS.out hz (base + 22)).mono ?_
                  rintro e W6 ⟨rfl, hg, hm⟩
                  obtain ⟨⟨s5, btd, erd⟩, hg1⟩ : ∃ x, s4.getI (base + 22) = x := ⟨_, rfl⟩
                  have hbtbtd : 0 ≤ btd ∧ btd ≤ 1 := by have := bit_range s4 (base + 22); rw [hg1] at this; exact this
                  rw [hg1] at hR hg ⊢
                  simp only at hR hg ⊢
                  have HG6 := Aside0.mk hg
                  clear hg hm hg1
                  have z0W6 : W6.cell? ⟨gz, 0, none⟩ = some (.bool false) := (blk_cell HG6.out.z 0).trans rfl
                  have z1W6 : W6.cell? ⟨gz, 1, none⟩ = some (.int .i64 0) := (blk_cell HG6.out.z 1).trans rfl
                  have y0W6 := blk_frozen HG6.out.z 0
                  have y1W6 := blk_frozen HG6.out.z 1
                  by_cases herd : erd = 0
                  · subst herd
                    rw [if_pos rfl] at hR
                    rcases (show btd = 0 ∨ btd = 1 by omega) with rfl | rfl
                    · rw [show (v - 1) * (1 - 2 * 0) = v - 1 by omega] at hR
                      subst hR
                      go_wp2_with (fail)
                      exact bodyPost_ret (nret (zset HG6.out.z (.bool false) (.int .i64 (v - 1))) rfl rfl) rfl ⟨rfl, (HG6.out.fin HS.out hz (.bool false) (.int .i64 (v - 1))).1, (HG6.out.fin HS.out hz (.bool false) (.int .i64 (v - 1))).2, HG6.out.ok⟩
                    · rw [show (v - 1) * (1 - 2 * 1) = -(v - 1) by omega] at hR
                      subst hR
                      go_wp2_with (fail)
                      exact bodyPost_ret (nret (zset HG6.out.z (.bool false) (.int .i64 (-(v - 1)))) rfl rfl) rfl ⟨rfl, (HG6.out.fin HS.out hz (.bool false) (.int .i64 (-(v - 1)))).1, (HG6.out.fin HS.out hz (.bool false) (.int .i64 (-(v - 1)))).2, HG6.out.ok⟩
                  · rw [if_neg herd] at hR
                    subst hR
                    have e0erd : (erd == 0) = false := beq_eq_false_iff_ne.mpr herd
                    have e1erd : (erd != 0) = true := bne_iff_ne.mpr herd
                    go_wp2_with (fail)
                    exact bodyPost_ret (nret (zset HG6.out.z (.bool false) (.int .i64 0)) rfl rfl) rfl ⟨rfl, (HG6.out.fin HS.out hz (.bool false) (.int .i64 0)).1, (HG6.out.fin HS.out hz (.bool false) (.int .i64 0)).2, HG6.out.ok⟩
  · rw [if_neg her] at hR
    subst hR
    have e0er : (er == 0) = false := beq_eq_false_iff_ne.mpr her
    have e1er : (er != 0) = true := bne_iff_ne.mpr her
    go_wp2_with (fail)
    exact bodyPost_ret (nret (zset HG2.out.z (.bool false) (.int .i64 0)) rfl rfl) rfl ⟨rfl, (HG2.out.fin HS.out hz (.bool false) (.int .i64 0)).1, (HG2.out.fin HS.out hz (.bool false) (.int .i64 0)).2, HG2.out.ok⟩
end Go.Proofs.Ytlnhahnnjbfjdaa.Nwk
namespace Go.Proofs.Ytlnhahnnjbfjdaa.Nrw
open Go Go.RowKit Go.Proofs.YtlnhahnnjbfjdaaW.PrintWords Go.Proofs.YtlnhahnnjbfjdaaW.PrintLast Go.Proofs.YtlnhahnnjbfjdaaW.PrintMore Go.Proofs.Ytlnhahnnjbfjdaa.Aid Go.Proofs.Ytlnhahnnjbfjdaa.HandAid Go.Proofs.Ytlnhahnnjbfjdaa.Cod1 Go.Proofs.Ytlnhahnnjbfjdaa.Cod2 Go.Proofs.Ytlnhahnnjbfjdaa.Cod3 Go.Proofs.Ytlnhahnnjbfjdaa.Mod Go.Proofs.Ytlnhahnnjbfjdaa.Enc Go.Proofs.Ytlnhahnnjbfjdaa.Mods Go.Proofs.Ytlnhahnnjbfjdaa.EncAt Go.Proofs.Ytlnhahnnjbfjdaa.Put Go.Proofs.Ytlnhahnnjbfjdaa.End Go.Proofs.Ytlnhahnnjbfjdaa.Snc Go.Proofs.Ytlnhahnnjbfjdaa.Dec Go.Proofs.Ytlnhahnnjbfjdaa.Get Go.Proofs.Ytlnhahnnjbfjdaa.DecNew Go.Proofs.Ytlnhahnnjbfjdaa.RefAt Go.Proofs.Ytlnhahnnjbfjdaa.RDec Go.Proofs.Ytlnhahnnjbfjdaa.RDecNew Go.Proofs.Ytlnhahnnjbfjdaa.Ngt Go.Proofs.Ytlnhahnnjbfjdaa.Nwk
attribute [local go_sem] max2_int min2_int max_two min_two
instance : AtL RDecAt := ⟨fun h hk hne => RDecAt.kept h hk hne, fun h hb => RDecAt.below h hb, fun h hs => RDecAt.mono h hs⟩
theorem rgs_get {w W : World} {S : Nat → Prop} {g gz : Nat} {s : DS} (H : GS RDecAt w S g gz s W) (hS : ∀ k, S k → k < w.heap.size) (hz : w.heap.size ≤ gz) (i : Int) :
    Calls Try.prog 61 #[.pointer (some ⟨g, 0, none⟩), .int .i64 i] W fun e W' => e = .returned (.tuple #[.int .i64 (s.getI i).2.1, .int .i64 (s.getI i).2.2]) ∧ GS RDecAt w S g gz (s.getI i).1 W' := by
  refine (rget_calls W S g s i H.d (fun k hk => Nat.lt_of_lt_of_le (hS k hk) H.m.size) H.ok).mono ?_
  rintro e W' ⟨he, hE, hM⟩
  exact ⟨he, ⟨hE, H.m.then_ hM (fun k hk => .inl hk), blk_mods H.z hM (fun hk => by have := hS gz hk; omega), DS.getI_ok H.ok _⟩⟩
theorem rnret {W : World} {gz : Nat} {nn : Bool} {N err : Int} {tmps : Array Value} (hz : W.heap[gz]? = some (.cells #[.bool nn, .int .i64 N] 23 (0, 0))) (h2 : tmps.getD 4 undef = .pointer (some ⟨gz, 0, none⟩)) (h3 : tmps.getD 5 undef = .int .i64 err) :
    (results Try.f28 tmps).run Try.prog W = .ok (.tuple #[.agg #[.bool nn, .int .i64 N], .int .i64 err]) W := by
  have y0 : W.cell? ⟨gz, 0, none⟩ = some (.bool nn) := (blk_cell hz 0).trans rfl
  have y1 : W.cell? ⟨gz, 1, none⟩ = some (.int .i64 N) := (blk_cell hz 1).trans rfl
  have hu := Try.underlying23
  rw [results_cell_tmp rfl, h2, h3]
  go_simp
theorem fld (k : Int) (v : Value) (w : World) : (Instr.field 45 (.agg #[.int .i64 k, v]) 1).run Try.prog w = .ok v w := by kernel_rfl
/-- Whether a model of n states has k contexts from a base on. -/
def hasRoom (n base k : Int) : Prop := 0 ≤ base ∧ base ≤ n ∧ k ≤ n - base
instance (n base k : Int) : Decidable (hasRoom n base k) := by unfold hasRoom; infer_instance
theorem room_calls (n base k : Int) (w : World) (h0 : 0 ≤ n) (h1 : n ≤ 9223372036854775807) :
    Calls Try.prog 59 #[.int .i64 n, .int .i64 base, .int .i64 k] w fun e w' => e = .returned (.bool (decide (hasRoom n base k))) ∧ Below w.heap.size w w' := by
  unfold hasRoom
  by_cases c0 : 0 ≤ base
  · by_cases c1 : base ≤ n
    · by_cases c2 : k ≤ n - base
      · rw [decide_eq_true (show 0 ≤ base ∧ base ≤ n ∧ k ≤ n - base by omega)]
        go_enter Try.func59, Try.ntmps59
        go_wp2
        go_ret
        exact ⟨rfl, by first | exact Below.refl _ _ | exact pw_below_drewN (Below.refl _ _) _ | exact below_drew (Below.refl _ _)⟩
      · rw [decide_eq_false (show ¬ (0 ≤ base ∧ base ≤ n ∧ k ≤ n - base) by omega)]
        go_enter Try.func59, Try.ntmps59
        go_wp2
        go_ret
        exact ⟨rfl, by first | exact Below.refl _ _ | exact pw_below_drewN (Below.refl _ _) _ | exact below_drew (Below.refl _ _)⟩
    · rw [decide_eq_false (show ¬ (0 ≤ base ∧ base ≤ n ∧ k ≤ n - base) by omega)]
      go_enter Try.func59, Try.ntmps59
      go_wp2
      go_ret
      exact ⟨rfl, by first | exact Below.refl _ _ | exact pw_below_drewN (Below.refl _ _) _ | exact below_drew (Below.refl _ _)⟩
  · rw [decide_eq_false (show ¬ (0 ≤ base ∧ base ≤ n ∧ k ≤ n - base) by omega)]
    go_enter Try.func59, Try.ntmps59
    go_wp2
    go_ret
    exact ⟨rfl, by first | exact Below.refl _ _ | exact pw_below_drewN (Below.refl _ _) _ | exact below_drew (Below.refl _ _)⟩
/-- The reference's Get in plain words. -/
def numR (base : Int) (s : DS) : NR := if hasRoom s.st.length base 48 then numD base s else (s, (false, 0), 2)
set_option maxHeartbeats 1000000 in
set_option maxRecDepth 100000 in
theorem rnum_get (w : World) (S : Nat → Prop) (g : Nat) (s : DS) (base : Int) (h : RDecAt w S g s) (hS : ∀ k, S k → k < w.heap.size) (hok : s.ok) (R : NR) (hR : numR base s = R) :
    Calls Try.prog 28 #[.pointer (some ⟨g, 0, none⟩), .int .i64 base] w (NPost RDecAt w S g R) := by
  have hu1 := Try.underlying23
  have hu2 := Try.underlying45
  obtain ⟨gz, hgz⟩ : ∃ x, w.heap.size = x := ⟨_, rfl⟩
  have hz : w.heap.size ≤ gz := Nat.le_of_eq hgz
  obtain ⟨W1, hW1⟩ : ∃ x, w.alloc (.cells #[.bool false, .int .i64 0] 23) = x := ⟨_, rfl⟩
  have HG := Aside0.mk (show GS RDecAt w S g gz s W1 from hW1 ▸ ⟨h.below (below_alloc (Below.refl _ _) _), (Mods.refl w S).below (below_alloc (Below.refl _ _) _), hgz ▸ heap_new w _, hok⟩)
  have HS := Aside0.mk hS
  have hln : s.st.length ≤ 8192 := hok.m.2.1
  unfold numR at hR
  clear h hS hok
  go_enter Try.func28, Try.ntmps28
  go_wp2_with (fail)
  refine (rdec_model_calls W1 S g s HG.out.d HG.out.ok).mono ?_
  rintro e W8 ⟨A8, c8, rfl, -, hb8⟩
  have HG := Aside0.mk (HG.out.below hb8)
  have hfd := fld s.kind (.slice A8 s.st.length c8)
  clear hb8
  go_wp2_with (fail)
  refine (room_calls s.st.length base 48 W8 (by omega) (by omega)).mono ?_
  rintro e W9 ⟨rfl, hb9⟩
  have HG := Aside0.mk (HG.out.below hb9)
  clear hb9
  clear hfd
  by_cases hrm : hasRoom s.st.length base 48
  · rw [if_pos hrm] at hR
    have hd : decide (hasRoom s.st.length base 48) = true := decide_eq_true hrm
    have hb0 : 0 ≤ base ∧ base ≤ 8192 := by unfold hasRoom at hrm; omega
    unfold numD at hR
    rw [hd]
    clear hrm hd
    go_wp2_with (fail)
    refine (rgs_get HG.out HS.out hz base).mono ?_
    rintro e W2 ⟨rfl, hg⟩
    obtain ⟨⟨s1, bt, er⟩, hg1⟩ : ∃ x, s.getI base = x := ⟨_, rfl⟩
    have hbtbt : 0 ≤ bt ∧ bt ≤ 1 := by have := bit_range s base; rw [hg1] at this; exact this
    rw [hg1] at hR hg ⊢
    simp only at hR hg ⊢
    have HG2 := Aside0.mk hg
    clear hg hg1
    have z0W2 : W2.cell? ⟨gz, 0, none⟩ = some (.bool false) := (blk_cell HG2.out.z 0).trans rfl
    have z1W2 : W2.cell? ⟨gz, 1, none⟩ = some (.int .i64 0) := (blk_cell HG2.out.z 1).trans rfl
    have y0W2 := blk_frozen HG2.out.z 0
    have y1W2 := blk_frozen HG2.out.z 1
    by_cases her : er = 0
    · subst her
      rw [if_pos rfl] at hR
      by_cases hb : bt = 1
      · subst hb
        rw [if_pos rfl] at hR
        subst hR
        go_wp2_with (fail)
        exact bodyPost_ret (rnret (zset HG2.out.z (.bool true) (.int .i64 0)) rfl rfl) rfl ⟨rfl, (HG2.out.fin HS.out hz (.bool true) (.int .i64 0)).1, (HG2.out.fin HS.out hz (.bool true) (.int .i64 0)).2, HG2.out.ok⟩
      · rw [if_neg hb] at hR
        have eb : (bt == 1) = false := beq_eq_false_iff_ne.mpr hb
        clear HG
        go_wp2_with (fail)
        go_loopw [8] (fun x wr => ∃ c : Nat, ∃ s1 : DS, c ≤ 20 ∧ x = .int .i64 c ∧ lenD base (20 - c) c s1 = R ∧ Aside0 (GS RDecAt w S g gz s1 wr)) (fun x _ => (20 - intOf x).toNat)
        case atStart => exact ⟨0, s1, by omega, rfl, hR, HG2⟩
        case round =>
          obtain ⟨c, s2, hc, rfl, hR, HG3⟩ := hrel
          clear z0W2 z1W2 y0W2 y1W2 HG2
          by_cases hlt : c < 20
          · have hcl : (c : Int) < 20 := by omega
            rw [show 20 - c = (20 - (c + 1)) + 1 by omega] at hR
            unfold lenD at hR
            go_wp2_with (fail)
            refine (rgs_get HG3.out HS.out hz (base + 1 + c)).mono ?_
            rintro e W3 ⟨rfl, hg⟩
            obtain ⟨⟨s3, btc, erc⟩, hg1⟩ : ∃ x, s2.getI (base + 1 + c) = x := ⟨_, rfl⟩
            have hbtbtc : 0 ≤ btc ∧ btc ≤ 1 := by have := bit_range s2 (base + 1 + c); rw [hg1] at this; exact this
            rw [hg1] at hR hg ⊢
            simp only at hR hg ⊢
            have HG4 := Aside0.mk hg
            clear hg hg1
            have z0W3 : W3.cell? ⟨gz, 0, none⟩ = some (.bool false) := (blk_cell HG4.out.z 0).trans rfl
            have z1W3 : W3.cell? ⟨gz, 1, none⟩ = some (.int .i64 0) := (blk_cell HG4.out.z 1).trans rfl
            have y0W3 := blk_frozen HG4.out.z 0
            have y1W3 := blk_frozen HG4.out.z 1
            by_cases herc : erc = 0
            · subst herc
              rw [if_pos rfl] at hR
              by_cases hbc : btc = 0
              · subst hbc
                rw [if_pos rfl] at hR
                clear HG3
                go_wp2_with (fail)
                go_loopw [11, 12] (fun uv ui wr => ∃ i : Nat, ∃ v : Int, ∃ s : DS, i ≤ c ∧ uv = .int .i64 v ∧ ui = .int .i64 i ∧ digD base c (c - i) i s v = R ∧ 0 ≤ v ∧ v < 2 ^ (i + 1) ∧ Aside0 (GS RDecAt w S g gz s wr)) (fun _ ui _ => (c - intOf ui).toNat)
                case atStart => exact ⟨0, 1, s3, by omega, rfl, rfl, hR, by omega, by decide, HG4⟩
                case round =>
                  obtain ⟨i, v, s4, hi, rfl, rfl, hR, hv0, hv1, HG7⟩ := hrel
                  clear HG4
                  have hp : (2 : Int) ^ (i + 1) ≤ 2097152 := by
                    have h3 : (2 : Nat) ^ (i + 1) ≤ 2 ^ 21 := Nat.pow_le_pow_right (by omega) (by omega)
                    have h4 : ((2 ^ (i + 1) : Nat) : Int) ≤ ((2 ^ 21 : Nat) : Int) := Int.ofNat_le.mpr h3
                    rw [Int.natCast_pow] at h4
                    exact h4
                  by_cases hic : i < c
                  · have hicl : (i : Int) < c := by omega
                    rw [show c - i = (c - (i + 1)) + 1 by omega] at hR
                    unfold digD at hR
                    by_cases hi0 : i = 0
                    · have hi0l : ((i : Int) == 0) = true := beq_iff_eq.mpr (by omega)
                      rw [show ctxOf c i = 23 + (c : Int) from if_pos hi0] at hR
                      have hi0 := Aside0.mk hi0
                      go_wp2_with (fail)
                      refine (rgs_get HG7.out HS.out hz (base + (23 + c))).mono ?_
                      rintro e W6 ⟨rfl, hg⟩
                      obtain ⟨⟨s5, btd, erd⟩, hg1⟩ : ∃ x, s4.getI (base + (23 + c)) = x := ⟨_, rfl⟩
                      have hbtbtd : 0 ≤ btd ∧ btd ≤ 1 := by have := bit_range s4 (base + (23 + c)); rw [hg1] at this; exact this
                      rw [hg1] at hR hg ⊢
                      simp only at hR hg ⊢
                      have HG6 := Aside0.mk hg
                      clear hg hg1
                      have z0W6 : W6.cell? ⟨gz, 0, none⟩ = some (.bool false) := (blk_cell HG6.out.z 0).trans rfl
                      have z1W6 : W6.cell? ⟨gz, 1, none⟩ = some (.int .i64 0) := (blk_cell HG6.out.z 1).trans rfl
                      have y0W6 := blk_frozen HG6.out.z 0
                      have y1W6 := blk_frozen HG6.out.z 1
                      by_cases herd : erd = 0
                      · subst herd
                        rw [if_pos rfl] at hR
                        go_wp2_with (fail)
                        exact ⟨⟨i + 1, 2 * v + btd, s5, by omega, rfl, by first | rfl | (rw [hi0.out]; rfl), hR, by omega, by rw [Int.pow_succ]; omega, HG6⟩, by simp [intOf]; omega⟩
                      · rw [if_neg herd] at hR
                        subst hR
                        have e0erd : (erd == 0) = false := beq_eq_false_iff_ne.mpr herd
                        have e1erd : (erd != 0) = true := bne_iff_ne.mpr herd
                        go_wp2_with (fail)
                        exact bodyPost_ret (rnret (zset HG6.out.z (.bool false) (.int .i64 0)) rfl rfl) rfl ⟨rfl, (HG6.out.fin HS.out hz (.bool false) (.int .i64 0)).1, (HG6.out.fin HS.out hz (.bool false) (.int .i64 0)).2, HG6.out.ok⟩
                    · have hi0l : ((i : Int) == 0) = false := beq_eq_false_iff_ne.mpr (by omega)
                      rw [show ctxOf c i = min (43 + (i : Int)) 47 from (if_neg hi0)] at hR
                      have hi0 := Aside0.mk hi0
                      by_cases h47 : 47 < 43 + (i : Int)
                      · rw [show min (43 + (i : Int)) 47 = 47 by omega] at hR
                        go_wp2_with (fail)
                        refine (rgs_get HG7.out HS.out hz (base + 47)).mono ?_
                        rintro e W6 ⟨rfl, hg⟩
                        obtain ⟨⟨s5, btd, erd⟩, hg1⟩ : ∃ x, s4.getI (base + 47) = x := ⟨_, rfl⟩
                        have hbtbtd : 0 ≤ btd ∧ btd ≤ 1 := by have := bit_range s4 (base + 47); rw [hg1] at this; exact this
                        rw [hg1] at hR hg ⊢
                        simp only at hR hg ⊢
                        have HG6 := Aside0.mk hg
                        clear hg hg1
                        have z0W6 : W6.cell? ⟨gz, 0, none⟩ = some (.bool false) := (blk_cell HG6.out.z 0).trans rfl
                        have z1W6 : W6.cell? ⟨gz, 1, none⟩ = some (.int .i64 0) := (blk_cell HG6.out.z 1).trans rfl
                        have y0W6 := blk_frozen HG6.out.z 0
                        have y1W6 := blk_frozen HG6.out.z 1
                        by_cases herd : erd = 0
                        · subst herd
                          rw [if_pos rfl] at hR
                          go_wp2_with (fail)
                          exact ⟨⟨i + 1, 2 * v + btd, s5, by omega, rfl, rfl, hR, by omega, by rw [Int.pow_succ]; omega, HG6⟩, by simp [intOf]; omega⟩
                        · rw [if_neg herd] at hR
                          subst hR
                          have e0erd : (erd == 0) = false := beq_eq_false_iff_ne.mpr herd
                          have e1erd : (erd != 0) = true := bne_iff_ne.mpr herd
                          go_wp2_with (fail)
                          exact bodyPost_ret (rnret (zset HG6.out.z (.bool false) (.int .i64 0)) rfl rfl) rfl ⟨rfl, (HG6.out.fin HS.out hz (.bool false) (.int .i64 0)).1, (HG6.out.fin HS.out hz (.bool false) (.int .i64 0)).2, HG6.out.ok⟩
                      · rw [show min (43 + (i : Int)) 47 = 43 + (i : Int) by omega] at hR
                        go_wp2_with (fail)
                        refine (rgs_get HG7.out HS.out hz (base + (43 + i))).mono ?_
                        rintro e W6 ⟨rfl, hg⟩
                        obtain ⟨⟨s5, btd, erd⟩, hg1⟩ : ∃ x, s4.getI (base + (43 + i)) = x := ⟨_, rfl⟩
                        have hbtbtd : 0 ≤ btd ∧ btd ≤ 1 := by have := bit_range s4 (base + (43 + i)); rw [hg1] at this; exact this
                        rw [hg1] at hR hg ⊢
                        simp only at hR hg ⊢
                        have HG6 := Aside0.mk hg
                        clear hg hg1
                        have z0W6 : W6.cell? ⟨gz, 0, none⟩ = some (.bool false) := (blk_cell HG6.out.z 0).trans rfl
                        have z1W6 : W6.cell? ⟨gz, 1, none⟩ = some (.int .i64 0) := (blk_cell HG6.out.z 1).trans rfl
                        have y0W6 := blk_frozen HG6.out.z 0
                        have y1W6 := blk_frozen HG6.out.z 1
                        by_cases herd : erd = 0
                        · subst herd
                          rw [if_pos rfl] at hR
                          go_wp2_with (fail)
                          exact ⟨⟨i + 1, 2 * v + btd, s5, by omega, rfl, rfl, hR, by omega, by rw [Int.pow_succ]; omega, HG6⟩, by simp [intOf]; omega⟩
                        · rw [if_neg herd] at hR
                          subst hR
                          have e0erd : (erd == 0) = false := beq_eq_false_iff_ne.mpr herd
                          have e1erd : (erd != 0) = true := bne_iff_ne.mpr herd
                          go_wp2_with (fail)
                          exact bodyPost_ret (rnret (zset HG6.out.z (.bool false) (.int .i64 0)) rfl rfl) rfl ⟨rfl, (HG6.out.fin HS.out hz (.bool false) (.int .i64 0)).1, (HG6.out.fin HS.out hz (.bool false) (.int .i64 0)).2, HG6.out.ok⟩
                  · have hicl : ¬ (i : Int) < c := by omega
                    rw [show c - i = 0 by omega] at hR
                    unfold digD signD at hR
                    have z0wq : wr.cell? ⟨gz, 0, none⟩ = some (.bool false) := (blk_cell HG7.out.z 0).trans rfl
                    have z1wq : wr.cell? ⟨gz, 1, none⟩ = some (.int .i64 0) := (blk_cell HG7.out.z 1).trans rfl
                    have y0wq := blk_frozen HG7.out.z 0
                    have y1wq := blk_frozen HG7.out.z 1
                    by_cases hv2 : v > 1048577
                    · rw [if_pos hv2] at hR
                      subst hR
                      have hv3 : 1048577 < v := hv2
                      go_wp2_with (fail)
                      exact bodyPost_ret (rnret (zset HG7.out.z (.bool false) (.int .i64 0)) rfl rfl) rfl ⟨rfl, (HG7.out.fin HS.out hz (.bool false) (.int .i64 0)).1, (HG7.out.fin HS.out hz (.bool false) (.int .i64 0)).2, HG7.out.ok⟩
                    · rw [if_neg hv2] at hR
                      have hv3 : ¬ 1048577 < v := hv2
                      by_cases hv4 : v = 1
                      · rw [if_pos hv4] at hR
                        subst hR
                        have hv5 : (v == 1) = true := beq_iff_eq.mpr hv4
                        go_wp2_with (fail)
                        exact bodyPost_ret (rnret (zset HG7.out.z (.bool false) (.int .i64 0)) rfl rfl) rfl ⟨rfl, (HG7.out.fin HS.out hz (.bool false) (.int .i64 0)).1, (HG7.out.fin HS.out hz (.bool false) (.int .i64 0)).2, HG7.out.ok⟩
                      · rw [if_neg hv4] at hR
                        have hv5 : (v == 1) = false := beq_eq_false_iff_ne.mpr hv4
                        clear z0wq z1wq y0wq y1wq
                        go_wp2_with (fail)
                        refine (rgs_get HG7.out HS.out hz (base + 22)).mono ?_
                        rintro e W6 ⟨rfl, hg⟩
                        obtain ⟨⟨s5, btd, erd⟩, hg1⟩ : ∃ x, s4.getI (base + 22) = x := ⟨_, rfl⟩
                        have hbtbtd : 0 ≤ btd ∧ btd ≤ 1 := by have := bit_range s4 (base + 22); rw [hg1] at this; exact this
                        rw [hg1] at hR hg ⊢
                        simp only at hR hg ⊢
                        have HG6 := Aside0.mk hg
                        clear hg hg1
                        have z0W6 : W6.cell? ⟨gz, 0, none⟩ = some (.bool false) := (blk_cell HG6.out.z 0).trans rfl
                        have z1W6 : W6.cell? ⟨gz, 1, none⟩ = some (.int .i64 0) := (blk_cell HG6.out.z 1).trans rfl
                        have y0W6 := blk_frozen HG6.out.z 0
                        have y1W6 := blk_frozen HG6.out.z 1
                        by_cases herd : erd = 0
                        · subst herd
                          rw [if_pos rfl] at hR
                          rcases (show btd = 0 ∨ btd = 1 by omega) with rfl | rfl
                          · rw [show (v - 1) * (1 - 2 * 0) = v - 1 by omega] at hR
                            subst hR
                            go_wp2_with (fail)
                            exact bodyPost_ret (rnret (zset HG6.out.z (.bool false) (.int .i64 (v - 1))) rfl rfl) rfl ⟨rfl, (HG6.out.fin HS.out hz (.bool false) (.int .i64 (v - 1))).1, (HG6.out.fin HS.out hz (.bool false) (.int .i64 (v - 1))).2, HG6.out.ok⟩
                          · rw [show (v - 1) * (1 - 2 * 1) = -(v - 1) by omega] at hR
                            subst hR
                            go_wp2_with (fail)
                            exact bodyPost_ret (rnret (zset HG6.out.z (.bool false) (.int .i64 (-(v - 1)))) rfl rfl) rfl ⟨rfl, (HG6.out.fin HS.out hz (.bool false) (.int .i64 (-(v - 1)))).1, (HG6.out.fin HS.out hz (.bool false) (.int .i64 (-(v - 1)))).2, HG6.out.ok⟩
                        · rw [if_neg herd] at hR
                          subst hR
                          have e0erd : (erd == 0) = false := beq_eq_false_iff_ne.mpr herd
                          have e1erd : (erd != 0) = true := bne_iff_ne.mpr herd
                          go_wp2_with (fail)
                          exact bodyPost_ret (rnret (zset HG6.out.z (.bool false) (.int .i64 0)) rfl rfl) rfl ⟨rfl, (HG6.out.fin HS.out hz (.bool false) (.int .i64 0)).1, (HG6.out.fin HS.out hz (.bool false) (.int .i64 0)).2, HG6.out.ok⟩
              · rw [if_neg hbc] at hR
                have ebc : (btc == 0) = false := beq_eq_false_iff_ne.mpr hbc
                go_wp2_with (fail)
                exact ⟨⟨c + 1, s3, by omega, rfl, by exact hR, HG4⟩, by simp [intOf]; omega⟩
            · rw [if_neg herc] at hR
              subst hR
              have e0erc : (erc == 0) = false := beq_eq_false_iff_ne.mpr herc
              have e1erc : (erc != 0) = true := bne_iff_ne.mpr herc
              go_wp2_with (fail)
              exact bodyPost_ret (rnret (zset HG4.out.z (.bool false) (.int .i64 0)) rfl rfl) rfl ⟨rfl, (HG4.out.fin HS.out hz (.bool false) (.int .i64 0)).1, (HG4.out.fin HS.out hz (.bool false) (.int .i64 0)).2, HG4.out.ok⟩
          · have hcl : ¬ (c : Int) < 20 := by omega
            rw [show 20 - c = 0 by omega] at hR
            unfold lenD at hR
            go_wp2_with (fail)
            go_loopw [11, 12] (fun uv ui wr => ∃ i : Nat, ∃ v : Int, ∃ s : DS, i ≤ c ∧ uv = .int .i64 v ∧ ui = .int .i64 i ∧ digD base c (c - i) i s v = R ∧ 0 ≤ v ∧ v < 2 ^ (i + 1) ∧ Aside0 (GS RDecAt w S g gz s wr)) (fun _ ui _ => (c - intOf ui).toNat)
            case atStart => exact ⟨0, 1, s2, by omega, rfl, rfl, hR, by omega, by decide, HG3⟩
            case round =>
              obtain ⟨i, v, s4, hi, rfl, rfl, hR, hv0, hv1, HG7⟩ := hrel
              clear HG3
              have hp : (2 : Int) ^ (i + 1) ≤ 2097152 := by
                have h3 : (2 : Nat) ^ (i + 1) ≤ 2 ^ 21 := Nat.pow_le_pow_right (by omega) (by omega)
                have h4 : ((2 ^ (i + 1) : Nat) : Int) ≤ ((2 ^ 21 : Nat) : Int) := Int.ofNat_le.mpr h3
                rw [Int.natCast_pow] at h4
                exact h4
              by_cases hic : i < c
              · have hicl : (i : Int) < c := by omega
                rw [show c - i = (c - (i + 1)) + 1 by omega] at hR
                unfold digD at hR
                by_cases hi0 : i = 0
                · have hi0l : ((i : Int) == 0) = true := beq_iff_eq.mpr (by omega)
                  rw [show ctxOf c i = 23 + (c : Int) from if_pos hi0] at hR
                  have hi0 := Aside0.mk hi0
                  go_wp2_with (fail)
                  refine (rgs_get HG7.out HS.out hz (base + (23 + c))).mono ?_
                  rintro e W6 ⟨rfl, hg⟩
                  obtain ⟨⟨s5, btd, erd⟩, hg1⟩ : ∃ x, s4.getI (base + (23 + c)) = x := ⟨_, rfl⟩
                  have hbtbtd : 0 ≤ btd ∧ btd ≤ 1 := by have := bit_range s4 (base + (23 + c)); rw [hg1] at this; exact this
                  rw [hg1] at hR hg ⊢
                  simp only at hR hg ⊢
                  have HG6 := Aside0.mk hg
                  clear hg hg1
                  have z0W6 : W6.cell? ⟨gz, 0, none⟩ = some (.bool false) := (blk_cell HG6.out.z 0).trans rfl
                  have z1W6 : W6.cell? ⟨gz, 1, none⟩ = some (.int .i64 0) := (blk_cell HG6.out.z 1).trans rfl
                  have y0W6 := blk_frozen HG6.out.z 0
                  have y1W6 := blk_frozen HG6.out.z 1
                  by_cases herd : erd = 0
                  · subst herd
                    rw [if_pos rfl] at hR
                    go_wp2_with (fail)
                    exact ⟨⟨i + 1, 2 * v + btd, s5, by omega, rfl, by first | rfl | (rw [hi0.out]; rfl), hR, by omega, by rw [Int.pow_succ]; omega, HG6⟩, by simp [intOf]; omega⟩
                  · rw [if_neg herd] at hR
                    subst hR
                    have e0erd : (erd == 0) = false := beq_eq_false_iff_ne.mpr herd
                    have e1erd : (erd != 0) = true := bne_iff_ne.mpr herd
                    go_wp2_with (fail)
                    exact bodyPost_ret (rnret (zset HG6.out.z (.bool false) (.int .i64 0)) rfl rfl) rfl ⟨rfl, (HG6.out.fin HS.out hz (.bool false) (.int .i64 0)).1, (HG6.out.fin HS.out hz (.bool false) (.int .i64 0)).2, HG6.out.ok⟩
                · have hi0l : ((i : Int) == 0) = false := beq_eq_false_iff_ne.mpr (by omega)
                  rw [show ctxOf c i = min (43 + (i : Int)) 47 from (if_neg hi0)] at hR
                  have hi0 := Aside0.mk hi0
                  by_cases h47 : 47 < 43 + (i : Int)
                  · rw [show min (43 + (i : Int)) 47 = 47 by omega] at hR
                    go_wp2_with (fail)
                    refine (rgs_get HG7.out HS.out hz (base + 47)).mono ?_
                    rintro e W6 ⟨rfl, hg⟩
                    obtain ⟨⟨s5, btd, erd⟩, hg1⟩ : ∃ x, s4.getI (base + 47) = x := ⟨_, rfl⟩
                    have hbtbtd : 0 ≤ btd ∧ btd ≤ 1 := by have := bit_range s4 (base + 47); rw [hg1] at this; exact this
                    rw [hg1] at hR hg ⊢
                    simp only at hR hg ⊢
                    have HG6 := Aside0.mk hg
                    clear hg hg1
                    have z0W6 : W6.cell? ⟨gz, 0, none⟩ = some (.bool false) := (blk_cell HG6.out.z 0).trans rfl
                    have z1W6 : W6.cell? ⟨gz, 1, none⟩ = some (.int .i64 0) := (blk_cell HG6.out.z 1).trans rfl
                    have y0W6 := blk_frozen HG6.out.z 0
                    have y1W6 := blk_frozen HG6.out.z 1
                    by_cases herd : erd = 0
                    · subst herd
                      rw [if_pos rfl] at hR
                      go_wp2_with (fail)
                      exact ⟨⟨i + 1, 2 * v + btd, s5, by omega, rfl, rfl, hR, by omega, by rw [Int.pow_succ]; omega, HG6⟩, by simp [intOf]; omega⟩
                    · rw [if_neg herd] at hR
                      subst hR
                      have e0erd : (erd == 0) = false := beq_eq_false_iff_ne.mpr herd
                      have e1erd : (erd != 0) = true := bne_iff_ne.mpr herd
                      go_wp2_with (fail)
                      exact bodyPost_ret (rnret (zset HG6.out.z (.bool false) (.int .i64 0)) rfl rfl) rfl ⟨rfl, (HG6.out.fin HS.out hz (.bool false) (.int .i64 0)).1, (HG6.out.fin HS.out hz (.bool false) (.int .i64 0)).2, HG6.out.ok⟩
                  · rw [show min (43 + (i : Int)) 47 = 43 + (i : Int) by omega] at hR
                    go_wp2_with (fail)
                    refine (rgs_get HG7.out HS.out hz (base + (43 + i))).mono ?_
                    rintro e W6 ⟨rfl, hg⟩
                    obtain ⟨⟨s5, btd, erd⟩, hg1⟩ : ∃ x, s4.getI (base + (43 + i)) = x := ⟨_, rfl⟩
                    have hbtbtd : 0 ≤ btd ∧ btd ≤ 1 := by have := bit_range s4 (base + (43 + i)); rw [hg1] at this; exact this
                    rw [hg1] at hR hg ⊢
                    simp only at hR hg ⊢
                    have HG6 := Aside0.mk hg
                    clear hg hg1
                    have z0W6 : W6.cell? ⟨gz, 0, none⟩ = some (.bool false) := (blk_cell HG6.out.z 0).trans rfl
                    have z1W6 : W6.cell? ⟨gz, 1, none⟩ = some (.int .i64 0) := (blk_cell HG6.out.z 1).trans rfl
                    have y0W6 := blk_frozen HG6.out.z 0
                    have y1W6 := blk_frozen HG6.out.z 1
                    by_cases herd : erd = 0
                    · subst herd
                      rw [if_pos rfl] at hR
                      go_wp2_with (fail)
                      exact ⟨⟨i + 1, 2 * v + btd, s5, by omega, rfl, rfl, hR, by omega, by rw [Int.pow_succ]; omega, HG6⟩, by simp [intOf]; omega⟩
                    · rw [if_neg herd] at hR
                      subst hR
                      have e0erd : (erd == 0) = false := beq_eq_false_iff_ne.mpr herd
                      have e1erd : (erd != 0) = true := bne_iff_ne.mpr herd
                      go_wp2_with (fail)
                      exact bodyPost_ret (rnret (zset HG6.out.z (.bool false) (.int .i64 0)) rfl rfl) rfl ⟨rfl, (HG6.out.fin HS.out hz (.bool false) (.int .i64 0)).1, (HG6.out.fin HS.out hz (.bool false) (.int .i64 0)).2, HG6.out.ok⟩
              · have hicl : ¬ (i : Int) < c := by omega
                rw [show c - i = 0 by omega] at hR
                unfold digD signD at hR
                have z0wq : wr.cell? ⟨gz, 0, none⟩ = some (.bool false) := (blk_cell HG7.out.z 0).trans rfl
                have z1wq : wr.cell? ⟨gz, 1, none⟩ = some (.int .i64 0) := (blk_cell HG7.out.z 1).trans rfl
                have y0wq := blk_frozen HG7.out.z 0
                have y1wq := blk_frozen HG7.out.z 1
                by_cases hv2 : v > 1048577
                · rw [if_pos hv2] at hR
                  subst hR
                  have hv3 : 1048577 < v := hv2
                  go_wp2_with (fail)
                  exact bodyPost_ret (rnret (zset HG7.out.z (.bool false) (.int .i64 0)) rfl rfl) rfl ⟨rfl, (HG7.out.fin HS.out hz (.bool false) (.int .i64 0)).1, (HG7.out.fin HS.out hz (.bool false) (.int .i64 0)).2, HG7.out.ok⟩
                · rw [if_neg hv2] at hR
                  have hv3 : ¬ 1048577 < v := hv2
                  by_cases hv4 : v = 1
                  · rw [if_pos hv4] at hR
                    subst hR
                    have hv5 : (v == 1) = true := beq_iff_eq.mpr hv4
                    go_wp2_with (fail)
                    exact bodyPost_ret (rnret (zset HG7.out.z (.bool false) (.int .i64 0)) rfl rfl) rfl ⟨rfl, (HG7.out.fin HS.out hz (.bool false) (.int .i64 0)).1, (HG7.out.fin HS.out hz (.bool false) (.int .i64 0)).2, HG7.out.ok⟩
                  · rw [if_neg hv4] at hR
                    have hv5 : (v == 1) = false := beq_eq_false_iff_ne.mpr hv4
                    clear z0wq z1wq y0wq y1wq
                    go_wp2_with (fail)
                    refine (rgs_get HG7.out HS.out hz (base + 22)).mono ?_
                    rintro e W6 ⟨rfl, hg⟩
                    obtain ⟨⟨s5, btd, erd⟩, hg1⟩ : ∃ x, s4.getI (base + 22) = x := ⟨_, rfl⟩
                    have hbtbtd : 0 ≤ btd ∧ btd ≤ 1 := by have := bit_range s4 (base + 22); rw [hg1] at this; exact this
                    rw [hg1] at hR hg ⊢
                    simp only at hR hg ⊢
                    have HG6 := Aside0.mk hg
                    clear hg hg1
                    have z0W6 : W6.cell? ⟨gz, 0, none⟩ = some (.bool false) := (blk_cell HG6.out.z 0).trans rfl
                    have z1W6 : W6.cell? ⟨gz, 1, none⟩ = some (.int .i64 0) := (blk_cell HG6.out.z 1).trans rfl
                    have y0W6 := blk_frozen HG6.out.z 0
                    have y1W6 := blk_frozen HG6.out.z 1
                    by_cases herd : erd = 0
                    · subst herd
                      rw [if_pos rfl] at hR
                      rcases (show btd = 0 ∨ btd = 1 by omega) with rfl | rfl
                      · rw [show (v - 1) * (1 - 2 * 0) = v - 1 by omega] at hR
                        subst hR
                        go_wp2_with (fail)
                        exact bodyPost_ret (rnret (zset HG6.out.z (.bool false) (.int .i64 (v - 1))) rfl rfl) rfl ⟨rfl, (HG6.out.fin HS.out hz (.bool false) (.int .i64 (v - 1))).1, (HG6.out.fin HS.out hz (.bool false) (.int .i64 (v - 1))).2, HG6.out.ok⟩
                      · rw [show (v - 1) * (1 - 2 * 1) = -(v - 1) by omega] at hR
                        subst hR
                        go_wp2_with (fail)
                        exact bodyPost_ret (rnret (zset HG6.out.z (.bool false) (.int .i64 (-(v - 1)))) rfl rfl) rfl ⟨rfl, (HG6.out.fin HS.out hz (.bool false) (.int .i64 (-(v - 1)))).1, (HG6.out.fin HS.out hz (.bool false) (.int .i64 (-(v - 1)))).2, HG6.out.ok⟩
                    · rw [if_neg herd] at hR
                      subst hR
                      have e0erd : (erd == 0) = false := beq_eq_false_iff_ne.mpr herd
                      have e1erd : (erd != 0) = true := bne_iff_ne.mpr herd
                      go_wp2_with (fail)
                      exact bodyPost_ret (rnret (zset HG6.out.z (.bool false) (.int .i64 0)) rfl rfl) rfl ⟨rfl, (HG6.out.fin HS.out hz (.bool false) (.int .i64 0)).1, (HG6.out.fin HS.out hz (.bool false) (.int .i64 0)).2, HG6.out.ok⟩
    · rw [if_neg her] at hR
      subst hR
      have e0er : (er == 0) = false := beq_eq_false_iff_ne.mpr her
      have e1er : (er != 0) = true := bne_iff_ne.mpr her
      go_wp2_with (fail)
      exact bodyPost_ret (rnret (zset HG2.out.z (.bool false) (.int .i64 0)) rfl rfl) rfl ⟨rfl, (HG2.out.fin HS.out hz (.bool false) (.int .i64 0)).1, (HG2.out.fin HS.out hz (.bool false) (.int .i64 0)).2, HG2.out.ok⟩
  · rw [if_neg hrm] at hR
    subst hR
    have hd : decide (hasRoom s.st.length base 48) = false := decide_eq_false hrm
    rw [hd]
    clear hrm hd
    have z0W9 : W9.cell? ⟨gz, 0, none⟩ = some (.bool false) := (blk_cell HG.out.z 0).trans rfl
    have z1W9 : W9.cell? ⟨gz, 1, none⟩ = some (.int .i64 0) := (blk_cell HG.out.z 1).trans rfl
    have y0W9 := blk_frozen HG.out.z 0
    have y1W9 := blk_frozen HG.out.z 1
    go_wp2_with (fail)
    exact bodyPost_ret (rnret (zset HG.out.z (.bool false) (.int .i64 0)) rfl rfl) rfl ⟨rfl, (HG.out.fin HS.out hz (.bool false) (.int .i64 0)).1, (HG.out.fin HS.out hz (.bool false) (.int .i64 0)).2, HG.out.ok⟩
end Go.Proofs.Ytlnhahnnjbfjdaa.Nrw
namespace Go.Proofs.Ytlnhahnnjbfjdaa.U
open Go.RowKit Go.Proofs.YtlnhahnnjbfjdaaW.PrintWords Go.Proofs.YtlnhahnnjbfjdaaW.PrintLast Go.Proofs.YtlnhahnnjbfjdaaW.PrintMore
attribute [local go_sem] max2_int min2_int max_two min_two max_three min_three max_four min_four   -- for this text's walks alone
def incunableref03_isId.f (a0 : Int) (a1 : Int) : Option (Bool) := if a0 ≥ 0 then (if a0 ≤ 10 then (if a1 ≥ 0 then (if 0 ≤ a0 then (some (decide (a1 < (shl .i64 1 a0)))) else (none)) else (some false)) else (some false)) else (some false)
set_option maxHeartbeats 8000000 in
set_option maxRecDepth 100000 in
theorem incunableref03_isId.calls (a0 : Int) (a1 : Int) (r : Bool) (w : World) (h : incunableref03_isId.f a0 a1 = some r) :
    Calls Try.prog 58 #[.int .i64 a0, .int .i64 a1] w fun e w' => e = .returned (.bool r) ∧ Drawn0 w w' := by
 have H : (if a0 ≥ 0 then (if a0 ≤ 10 then (if a1 ≥ 0 then (if 0 ≤ a0 then (some (decide (a1 < (shl .i64 1 a0)))) else (none)) else (some false)) else (some false)) else (some false)) = some r := h; clear h; by_cases c3 : a0 ≥ 0
 (· rw [if_pos c3] at H; have c3b0 : decide (0 ≤ a0) = true := decide_eq_true c3; clear c3; by_cases c4 : a0 ≤ 10; (· rw [if_pos c4] at H; have c4b0 : decide (a0 ≤ 10) = true := decide_eq_true c4; clear c4; by_cases c5 : a1 ≥ 0; (· rw [if_pos c5] at H; have c5b0 : decide (0 ≤ a1) = true := decide_eq_true c5; clear c5; by_cases c6 : 0 ≤ a0; (· rw [if_pos c6] at H; have c6b0 := eq_true c6; have c6b1 : decide (0 ≤ a0) = true := decide_eq_true c6; clear c6; obtain ⟨ji7, hji7⟩ : ∃ j_ : Int, (shl .i64 1 a0) = j_ := ⟨_, rfl⟩; (replace H : (some (decide (a1 < (ji7)))) = some r := by first | (rw [hji7] at H; exact H) | (simp only [hji7] at H ⊢; exact H)); have hji7_ : (IntKind.i64.wrap (1 * 2 ^ min a0.toNat 64)) = ji7 := hji7; have hji7z : a0 ≤ 64 → (IntKind.i64.wrap (1 * 2 ^ a0.toNat)) = ji7 := shl_small hji7; (have hji7u : (IntKind.i64.wrap (2 ^ min a0.toNat 64)) = ji7 := by have h_ := hji7_; rw [Int.one_mul] at h_; exact h_); (have hji7v : a0 ≤ 64 → (IntKind.i64.wrap (2 ^ a0.toNat)) = ji7 := fun hle_ => by have h_ := hji7z hle_; rw [Int.one_mul] at h_; exact h_); have hji7y : (wrap64 (1 * 2 ^ min a0.toNat 64)) = ji7 := (i64_w _).symm.trans hji7_; have hji7x : a0 ≤ 64 → (wrap64 (1 * 2 ^ a0.toNat)) = ji7 := fun h_ => (i64_w _).symm.trans (hji7z h_); obtain rfl := Option.some.inj H; go_enter Try.func58, Try.ntmps58; go_wp2; go_ret; (exact ⟨by first | rfl | (simp; done) | (simp only [← hji7] <;> (first | rfl | simp)) | (simp [*]; done), by repeat (first | exact Drawn0.refl _ | apply Drawn0.step)⟩)); (· rw [if_neg c6] at H; exact absurd H (by simp))); (· rw [if_neg c5] at H; have c5b0 : decide (0 ≤ a1) = false := decide_eq_false c5; clear c5; obtain rfl := Option.some.inj H; go_enter Try.func58, Try.ntmps58; go_wp2; go_ret; exact ⟨by first | rfl | (simp; done) | (simp [*]; done), by repeat (first | exact Drawn0.refl _ | apply Drawn0.step)⟩)); (· rw [if_neg c4] at H; have c4b0 : decide (a0 ≤ 10) = false := decide_eq_false c4; clear c4; obtain rfl := Option.some.inj H; go_enter Try.func58, Try.ntmps58; go_wp2; go_ret; exact ⟨by first | rfl | (simp; done) | (simp [*]; done), by repeat (first | exact Drawn0.refl _ | apply Drawn0.step)⟩))
 (· rw [if_neg c3] at H; have c3b0 : decide (0 ≤ a0) = false := decide_eq_false c3; clear c3; obtain rfl := Option.some.inj H; go_enter Try.func58, Try.ntmps58; go_wp2; go_ret; exact ⟨by first | rfl | (simp; done) | (simp [*]; done), by repeat (first | exact Drawn0.refl _ | apply Drawn0.step)⟩)
end Go.Proofs.Ytlnhahnnjbfjdaa.U
namespace Go.Proofs.Ytlnhahnnjbfjdaa.Gid
open Go Go.RowKit Go.Proofs.YtlnhahnnjbfjdaaW.PrintWords Go.Proofs.YtlnhahnnjbfjdaaW.PrintLast Go.Proofs.YtlnhahnnjbfjdaaW.PrintMore Go.Proofs.Ytlnhahnnjbfjdaa.Aid Go.Proofs.Ytlnhahnnjbfjdaa.HandAid Go.Proofs.Ytlnhahnnjbfjdaa.Cod1 Go.Proofs.Ytlnhahnnjbfjdaa.Cod2 Go.Proofs.Ytlnhahnnjbfjdaa.Cod3 Go.Proofs.Ytlnhahnnjbfjdaa.Mod Go.Proofs.Ytlnhahnnjbfjdaa.Enc Go.Proofs.Ytlnhahnnjbfjdaa.Mods Go.Proofs.Ytlnhahnnjbfjdaa.EncAt Go.Proofs.Ytlnhahnnjbfjdaa.Put Go.Proofs.Ytlnhahnnjbfjdaa.End Go.Proofs.Ytlnhahnnjbfjdaa.Snc Go.Proofs.Ytlnhahnnjbfjdaa.Dec Go.Proofs.Ytlnhahnnjbfjdaa.Get Go.Proofs.Ytlnhahnnjbfjdaa.DecNew Go.Proofs.Ytlnhahnnjbfjdaa.RefAt Go.Proofs.Ytlnhahnnjbfjdaa.RDec Go.Proofs.Ytlnhahnnjbfjdaa.RDecNew Go.Proofs.Ytlnhahnnjbfjdaa.Ngt Go.Proofs.Ytlnhahnnjbfjdaa.Nwk Go.Proofs.Ytlnhahnnjbfjdaa.Nrw
/-- An id's bits, behind one another. -/
def idL (base : Int) : Nat → DS → Int → DS × Int × Int
  | 0, s, p => (s, p, 0)
  | r + 1, s, p => if (s.getI (base + p - 1)).2.2 = 0 then idL base r (s.getI (base + p - 1)).1 (2 * p + (s.getI (base + p - 1)).2.1) else ((s.getI (base + p - 1)).1, 0, (s.getI (base + p - 1)).2.2)
def idD (base k : Int) (s : DS) : DS × Int × Int := if (idL base k.toNat s 1).2.2 = 0 then ((idL base k.toNat s 1).1, (idL base k.toNat s 1).2.1 - 2 ^ k.toNat, 0) else ((idL base k.toNat s 1).1, 0, (idL base k.toNat s 1).2.2)
def idR (base k : Int) (s : DS) : DS × Int × Int := if 0 ≤ k ∧ k ≤ 10 then (if hasRoom s.st.length base (2 ^ k.toNat - 1) then idD base k s else (s, 0, 2)) else (s, 0, 2)
theorem getI_neg (s : DS) : s.getI (-1) = (s, 0, 2) := by
  unfold DS.getI
  exact if_neg (by omega)
/-- A decoder at g, in a world that came of w. -/
structure IS (At : World → (Nat → Prop) → Nat → DS → Prop) (w : World) (S : Nat → Prop) (g : Nat) (s : DS) (W : World) : Prop where
  d : At W S g s
  m : Mods w W S
  ok : s.ok
theorem IS.get {w W : World} {S : Nat → Prop} {g : Nat} {s : DS} (H : IS DecAt w S g s W) (hS : ∀ k, S k → k < w.heap.size) (i : Int) :
    Calls Try.prog 56 #[.pointer (some ⟨g, 0, none⟩), .int .i64 i] W fun e W' => e = .returned (.tuple #[.int .i64 (s.getI i).2.1, .int .i64 (s.getI i).2.2]) ∧ IS DecAt w S g (s.getI i).1 W' := by
  refine (get_calls W S g s i H.d (fun k hk => Nat.lt_of_lt_of_le (hS k hk) H.m.size) H.ok).mono ?_
  rintro e W' ⟨he, hE, hM⟩
  exact ⟨he, ⟨hE, H.m.then_ hM (fun k hk => .inl hk), DS.getI_ok H.ok _⟩⟩
theorem IS.rget {w W : World} {S : Nat → Prop} {g : Nat} {s : DS} (H : IS RDecAt w S g s W) (hS : ∀ k, S k → k < w.heap.size) (i : Int) :
    Calls Try.prog 61 #[.pointer (some ⟨g, 0, none⟩), .int .i64 i] W fun e W' => e = .returned (.tuple #[.int .i64 (s.getI i).2.1, .int .i64 (s.getI i).2.2]) ∧ IS RDecAt w S g (s.getI i).1 W' := by
  refine (rget_calls W S g s i H.d (fun k hk => Nat.lt_of_lt_of_le (hS k hk) H.m.size) H.ok).mono ?_
  rintro e W' ⟨he, hE, hM⟩
  exact ⟨he, ⟨hE, H.m.then_ hM (fun k hk => .inl hk), DS.getI_ok H.ok _⟩⟩
theorem IS.below {At : World → (Nat → Prop) → Nat → DS → Prop} [AtL At] {w W W' : World} {S : Nat → Prop} {g : Nat} {s : DS} (H : IS At w S g s W) (hb : Below W.heap.size W W') : IS At w S g s W' := ⟨AtL.below H.d hb, H.m.below hb, H.ok⟩
def IPost (At : World → (Nat → Prop) → Nat → DS → Prop) (w : World) (S : Nat → Prop) (g : Nat) (R : DS × Int × Int) (e : Ending) (W : World) : Prop :=
  e = .returned (.tuple #[.int .i64 R.2.1, .int .i64 R.2.2]) ∧ IS At w S g R.1 W
theorem fits_calls (kind : Int) (A : Option Addr) (n c : Nat) (base k : Int) (w : World) (hn : n ≤ 8192) (h0 : 0 ≤ k) (h1 : k ≤ 1024) :
    Calls Try.prog 57 #[.agg #[.int .i64 kind, .slice A n c], .int .i64 base, .int .i64 k] w fun e w' => e = .returned (.int .i64 (if hasRoom n base k then 0 else 2)) ∧ Below w.heap.size w w' := by
  have hu := Try.underlying45
  have hb := below_alloc (Below.refl w.heap.size w) (.cells #[.int .i64 kind, .slice A n c] 45)
  by_cases c0 : base < 0
  · rw [if_neg (show ¬ hasRoom n base k by unfold hasRoom; omega)]
    go_enter Try.func57, Try.ntmps57
    go_wp2
    go_ret
    exact ⟨rfl, hb⟩
  · by_cases c1 : (n : Int) - k < base
    · rw [if_neg (show ¬ hasRoom n base k by unfold hasRoom; omega)]
      go_enter Try.func57, Try.ntmps57
      go_wp2
      go_ret
      exact ⟨rfl, hb⟩
    · rw [if_pos (show hasRoom n base k by unfold hasRoom; omega)]
      go_enter Try.func57, Try.ntmps57
      go_wp2
      go_ret
      exact ⟨rfl, hb⟩
theorem pow_small {k : Int} (h0 : 0 ≤ k) (h1 : k ≤ 10) : (1 : Int) ≤ 2 ^ k.toNat ∧ (2 : Int) ^ k.toNat ≤ 1024 := by
  have h2 : (1 : Nat) ≤ 2 ^ k.toNat := Nat.one_le_two_pow
  have h3 : (2 : Nat) ^ k.toNat ≤ 2 ^ 10 := Nat.pow_le_pow_right (by omega) (by omega)
  have e : ((2 ^ k.toNat : Nat) : Int) = (2 : Int) ^ k.toNat := Int.natCast_pow 2 _
  omega
set_option maxHeartbeats 2000000 in
set_option maxRecDepth 100000 in
theorem getid_calls (w : World) (S : Nat → Prop) (g : Nat) (s : DS) (base k : Int) (h : DecAt w S g s) (hS : ∀ k, S k → k < w.heap.size) (hok : s.ok) (R : DS × Int × Int) (hR : idR base k s = R) :
    Calls Try.prog 25 #[.pointer (some ⟨g, 0, none⟩), .int .i64 base, .int .i64 k] w (IPost DecAt w S g R) := by
  have HI := Aside0.mk (show IS DecAt w S g s w from ⟨h, Mods.refl w S, hok⟩)
  have HS := Aside0.mk hS
  have hln : s.st.length ≤ 8192 := hok.m.2.1
  unfold idR at hR
  clear h hS hok
  have hk : (k < 0 ∨ (¬ k < 0 ∧ 10 < k)) ∨ (0 ≤ k ∧ k ≤ 10) := by omega
  have start : ∀ W : World, Aside0 (IS DecAt w S g s W) → Aside0 (Calls Try.prog 56 #[.pointer (some ⟨g, 0, none⟩), .int .i64 (-1)] W fun e W' => e = .returned (.tuple #[.int .i64 0, .int .i64 2]) ∧ IS DecAt w S g s W') := fun W H => ⟨by have := H.out.get HS.out (-1); rw [getI_neg] at this; exact this⟩
  rcases hk with hk | ⟨hk0, hk1⟩
  · rw [if_neg (by omega)] at hR
    subst hR
    rcases hk with hk | ⟨hk, hk2⟩
    · go_enter Try.func25, Try.ntmps25
      go_wp2_with (fail)
      refine (start _ HI).out.mono ?_
      rintro e W2 ⟨rfl, hg⟩
      go_wp2_with (fail)
      go_ret2
      exact ⟨rfl, hg⟩
    · go_enter Try.func25, Try.ntmps25
      go_wp2_with (fail)
      refine (start _ HI).out.mono ?_
      rintro e W2 ⟨rfl, hg⟩
      go_wp2_with (fail)
      go_ret2
      exact ⟨rfl, hg⟩
  · rw [if_pos ⟨hk0, hk1⟩] at hR
    obtain ⟨m, hm⟩ : ∃ m : Int, (2 : Int) ^ k.toNat = m := ⟨_, rfl⟩
    have hm2 := pow_small hk0 hk1
    unfold idD at hR
    rw [hm] at hR hm2
    go_enter Try.func25, Try.ntmps25
    go_wp2_with (fail)
    refine (start _ HI).out.mono ?_
    rintro e W2 ⟨rfl, hg⟩
    have HI := Aside0.mk hg
    clear hg start
    go_wp2_with (fail)
    have w3 : IntKind.i64.wrap (IntKind.i64.wrap m - 1) = m - 1 := by rw [IntWalk.i64_in m (by omega)]; exact IntWalk.i64_in _ (by omega)
    have hMd : ∀ W : World, IS DecAt w S g s W → Calls Try.prog 44 #[.pointer (some ⟨g, 0, none⟩)] W (MPost W s.kind s.st) := fun W H => dec_model_calls W S g s H.d H.ok
    have hFt : ∀ (A : Option Addr) (c : Nat) (W : World), Calls Try.prog 57 #[.agg #[.int .i64 s.kind, .slice A s.st.length c], .int .i64 base, .int .i64 (m - 1)] W fun e w' => e = .returned (.int .i64 (if hasRoom s.st.length base (m - 1) then 0 else 2)) ∧ Below W.heap.size W w' := fun A c W => fits_calls s.kind A s.st.length c base (m - 1) W hln (by omega) (by omega)
    have hk64 : k ≤ 64 := by omega
    obtain ⟨rm, hrm⟩ : ∃ rm : Int, (if hasRoom s.st.length base (m - 1) then 0 else 2) = rm := ⟨_, rfl⟩
    rw [hrm] at hFt
    have HI := Aside0.mk (show IS DecAt w S g s W2.drew from HI.out.below (below_drew (Below.refl _ _)))
    go_region_with (first
      | (go_at_call 44; refine (hMd _ HI.out).mono ?_; rintro e W8 ⟨A8, c8, rfl, -, hb8⟩; have HI8 := Aside0.mk (HI.out.below hb8); clear hb8)
      | (go_at_call 57; refine (hFt A8 c8 W8).mono ?_; rintro e W9 ⟨rfl, hb9⟩; have HI9 := Aside0.mk (HI8.out.below hb9); clear hb9))
    have hk2 : k.toNat = (k.toNat : Nat) := rfl
    by_cases hroom : hasRoom s.st.length base (m - 1)
    · rw [if_pos hroom] at hrm hR
      subst hrm
      have hrb : 0 ≤ base ∧ base ≤ 8192 := by unfold hasRoom at hroom; omega
      obtain ⟨Rl, hRl⟩ : ∃ x, idL base k.toNat s 1 = x := ⟨_, rfl⟩
      rw [hRl] at hR
      clear hroom hFt hMd
      go_wp2_with (fail)
      go_loopw [11, 39] (fun up ui wq => ∃ i : Nat, ∃ p : Int, ∃ s1 : DS, (i : Int) ≤ k ∧ up = .int .i64 p ∧ ui = .int .i64 i ∧ 2 ^ i ≤ p ∧ p < 2 ^ (i + 1) ∧ idL base (k.toNat - i) s1 p = Rl ∧ Aside0 (IS DecAt w S g s1 wq)) (fun _ ui _ => (k - intOf ui).toNat)
      case atStart => exact ⟨0, 1, s, by omega, rfl, rfl, by decide, by decide, hRl, HI9⟩
      case round =>
        obtain ⟨i, p, s1, hi, rfl, rfl, hp0, hp1, hR1, HIa⟩ := hrel
        clear HI9 HI8 HI
        have hpp : (1 : Int) ≤ p ∧ p < 2048 := by
          have h3 : (2 : Nat) ^ (i + 1) ≤ 2 ^ 11 := Nat.pow_le_pow_right (by omega) (by omega)
          have h4 : ((2 ^ (i + 1) : Nat) : Int) ≤ ((2 ^ 11 : Nat) : Int) := Int.ofNat_le.mpr h3
          rw [Int.natCast_pow] at h4
          have h5 : (1 : Nat) ≤ 2 ^ i := Nat.one_le_two_pow
          have h6 : ((1 : Nat) : Int) ≤ ((2 ^ i : Nat) : Int) := Int.ofNat_le.mpr h5
          rw [Int.natCast_pow] at h6
          have e1 : (((2 : Nat) : Int)) = 2 := rfl
          have e2 : ((2 ^ 11 : Nat) : Int) = 2048 := rfl
          rw [e1] at h4 h6
          omega
        by_cases hlt : (i : Int) < k
        · rw [show k.toNat - i = (k.toNat - (i + 1)) + 1 by omega] at hR1
          unfold idL at hR1
          go_wp2_with (fail)
          refine (HIa.out.get HS.out (base + p - 1)).mono ?_
          rintro e W3 ⟨rfl, hg⟩
          obtain ⟨⟨s3, bt, er⟩, hg1⟩ : ∃ x, s1.getI (base + p - 1) = x := ⟨_, rfl⟩
          have hbt : 0 ≤ bt ∧ bt ≤ 1 := by have := bit_range s1 (base + p - 1); rw [hg1] at this; exact this
          rw [hg1] at hR1 hg ⊢
          simp only at hR1 hg ⊢
          have HI4 := Aside0.mk hg
          clear hg hg1
          by_cases her : er = 0
          · subst her
            rw [if_pos rfl] at hR1
            go_wp2_with (fail)
            exact ⟨⟨i + 1, 2 * p + bt, s3, by omega, rfl, by first | rfl | (simp; done) | omega, by rw [Int.pow_succ]; omega, by rw [Int.pow_succ]; omega, hR1, HI4⟩, by simp [intOf]; omega⟩
          · rw [if_neg her] at hR1
            subst hR1
            rw [if_neg her] at hR
            subst hR
            have e0 : (er == 0) = false := beq_eq_false_iff_ne.mpr her
            have e1 : (er != 0) = true := bne_iff_ne.mpr her
            go_wp2_with (fail)
            go_ret2
            exact ⟨rfl, HI4.out⟩
        · have hlt2 : k ≤ (i : Int) := by omega
          rw [show k.toNat - i = 0 by omega] at hR1
          unfold idL at hR1
          subst hR1
          rw [if_pos rfl] at hR
          subst hR
          have hpi : 2 ^ i = m := by rw [← hm]; congr 1; omega
          have w4 : IntKind.i64.wrap (p - m) = p - m := IntWalk.i64_in _ (by omega)
          go_wp2_with (fail)
          go_ret2
          exact ⟨rfl, HIa.out⟩
    · rw [if_neg hroom] at hrm hR
      subst hrm hR
      go_wp2_with (fail)
      go_ret2
      exact ⟨rfl, HI9.out⟩
theorem drawn_below {w W : World} (h : Drawn0 w W) : Below w.heap.size w W := by
  obtain ⟨⟨n, rfl⟩⟩ := h
  exact pw_below_drewN (Below.refl _ _) n
theorem isid_calls (k : Int) (w : World) (b : Bool) (hb : decide (0 ≤ k ∧ k ≤ 10) = b) :
    Calls Try.prog 58 #[.int .i64 k, .int .i64 0] w fun e w' => e = .returned (.bool b) ∧ Below w.heap.size w w' := by
  refine (Go.Proofs.Ytlnhahnnjbfjdaa.U.incunableref03_isId.calls k 0 b w ?_).mono ?_
  · unfold Go.Proofs.Ytlnhahnnjbfjdaa.U.incunableref03_isId.f
    by_cases c0 : k ≥ 0
    · rw [if_pos c0]
      by_cases c1 : k ≤ 10
      · rw [if_pos c1, if_pos (by decide), if_pos c0, ← hb, decide_eq_true (show 0 ≤ k ∧ k ≤ 10 from ⟨c0, c1⟩)]
        have hm2 := pow_small c0 c1
        have : shl .i64 1 k = 2 ^ k.toNat := by
          unfold shl
          rw [show min k.toNat IntKind.i64.bits = k.toNat from Nat.min_eq_left (by have : IntKind.i64.bits = 64 := rfl; omega), Int.one_mul]
          exact IntWalk.i64_in _ (by omega)
        rw [this, decide_eq_true (by omega)]
      · rw [if_neg c1, ← hb, decide_eq_false (by omega)]
    · rw [if_neg c0, ← hb, decide_eq_false (by omega)]
  · rintro e W ⟨rfl, hd⟩
    exact ⟨rfl, drawn_below hd⟩
set_option maxHeartbeats 2000000 in
set_option maxRecDepth 100000 in
theorem rgetid_calls (w : World) (S : Nat → Prop) (g : Nat) (s : DS) (base k : Int) (h : RDecAt w S g s) (hS : ∀ k, S k → k < w.heap.size) (hok : s.ok) (R : DS × Int × Int) (hR : idR base k s = R) :
    Calls Try.prog 26 #[.pointer (some ⟨g, 0, none⟩), .int .i64 base, .int .i64 k] w (IPost RDecAt w S g R) := by
  have HI := Aside0.mk (show IS RDecAt w S g s w from ⟨h, Mods.refl w S, hok⟩)
  have HS := Aside0.mk hS
  have hln : s.st.length ≤ 8192 := hok.m.2.1
  unfold idR at hR
  clear h hS hok
  by_cases hk : 0 ≤ k ∧ k ≤ 10
  · obtain ⟨hk0, hk1⟩ := hk
    rw [if_pos ⟨hk0, hk1⟩] at hR
    obtain ⟨m, hm⟩ : ∃ m : Int, (2 : Int) ^ k.toNat = m := ⟨_, rfl⟩
    have hm2 := pow_small hk0 hk1
    unfold idD at hR
    rw [hm] at hR hm2
    have w3 : IntKind.i64.wrap (IntKind.i64.wrap m - 1) = m - 1 := by rw [IntWalk.i64_in m (by omega)]; exact IntWalk.i64_in _ (by omega)
    have hk64 : k ≤ 64 := by omega
    have hId : ∀ W : World, Calls Try.prog 58 #[.int .i64 k, .int .i64 0] W fun e w' => e = .returned (.bool true) ∧ Below W.heap.size W w' := fun W => isid_calls k W true (decide_eq_true ⟨hk0, hk1⟩)
    have hMd : ∀ W : World, IS RDecAt w S g s W → Calls Try.prog 60 #[.pointer (some ⟨g, 0, none⟩)] W (MPost W s.kind s.st) := fun W H => rdec_model_calls W S g s H.d H.ok
    have hFt : ∀ (W : World), Calls Try.prog 59 #[.int .i64 s.st.length, .int .i64 base, .int .i64 (m - 1)] W fun e w' => e = .returned (.bool (decide (hasRoom s.st.length base (m - 1)))) ∧ Below W.heap.size W w' := fun W => room_calls s.st.length base (m - 1) W (by omega) (by omega)
    obtain ⟨rm, hrm⟩ : ∃ rm : Bool, decide (hasRoom s.st.length base (m - 1)) = rm := ⟨_, rfl⟩
    rw [hrm] at hFt
    have hfd := fun (A : Option Addr) (c : Nat) (W : World) => fld s.kind (.slice A s.st.length c) W
    have HI := Aside0.mk (show IS RDecAt w S g s w.drew from HI.out.below (below_drew (Below.refl _ _)))
    go_enter Try.func26, Try.ntmps26
    go_wp2_with (fail)
    go_region_with (first
      | (go_at_call 58; refine (hId _).mono ?_; rintro e W7 ⟨rfl, hb7⟩; have HI7 := Aside0.mk (HI.out.below hb7); clear hb7)
      | (go_at_call 60; refine (hMd _ HI7.out).mono ?_; rintro e W8 ⟨A8, c8, rfl, -, hb8⟩; have HI8 := Aside0.mk (HI7.out.below hb8); clear hb8; have hfd8 := hfd A8 c8 W8)
      | (go_at_call 59; refine (hFt W8).mono ?_; rintro e W9 ⟨rfl, hb9⟩; have HI9 := Aside0.mk (HI8.out.below hb9); clear hb9))
    have hk2 : k.toNat = (k.toNat : Nat) := rfl
    by_cases hroom : hasRoom s.st.length base (m - 1)
    · rw [if_pos hroom] at hR
      rw [decide_eq_true hroom] at hrm
      subst hrm
      have hrb : 0 ≤ base ∧ base ≤ 8192 := by unfold hasRoom at hroom; omega
      obtain ⟨Rl, hRl⟩ : ∃ x, idL base k.toNat s 1 = x := ⟨_, rfl⟩
      rw [hRl] at hR
      clear hroom hFt hMd hId hfd hfd8
      go_wp2_with (fail)
      go_loopw [8, 9] (fun up ui wq => ∃ i : Nat, ∃ p : Int, ∃ s1 : DS, (i : Int) ≤ k ∧ up = .int .i64 p ∧ ui = .int .i64 i ∧ 2 ^ i ≤ p ∧ p < 2 ^ (i + 1) ∧ idL base (k.toNat - i) s1 p = Rl ∧ Aside0 (IS RDecAt w S g s1 wq)) (fun _ ui _ => (k - intOf ui).toNat)
      case atStart => exact ⟨0, 1, s, by omega, rfl, rfl, by decide, by decide, hRl, HI9⟩
      case round =>
        obtain ⟨i, p, s1, hi, rfl, rfl, hp0, hp1, hR1, HIa⟩ := hrel
        clear HI9 HI8 HI7 HI
        have hpp : (1 : Int) ≤ p ∧ p < 2048 := by
          have h3 : (2 : Nat) ^ (i + 1) ≤ 2 ^ 11 := Nat.pow_le_pow_right (by omega) (by omega)
          have h4 : ((2 ^ (i + 1) : Nat) : Int) ≤ ((2 ^ 11 : Nat) : Int) := Int.ofNat_le.mpr h3
          rw [Int.natCast_pow] at h4
          have h5 : (1 : Nat) ≤ 2 ^ i := Nat.one_le_two_pow
          have h6 : ((1 : Nat) : Int) ≤ ((2 ^ i : Nat) : Int) := Int.ofNat_le.mpr h5
          rw [Int.natCast_pow] at h6
          have e1 : (((2 : Nat) : Int)) = 2 := rfl
          have e2 : ((2 ^ 11 : Nat) : Int) = 2048 := rfl
          rw [e1] at h4 h6
          omega
        by_cases hlt : (i : Int) < k
        · rw [show k.toNat - i = (k.toNat - (i + 1)) + 1 by omega] at hR1
          unfold idL at hR1
          go_wp2_with (fail)
          refine (HIa.out.rget HS.out (base + p - 1)).mono ?_
          rintro e W3 ⟨rfl, hg⟩
          obtain ⟨⟨s3, bt, er⟩, hg1⟩ : ∃ x, s1.getI (base + p - 1) = x := ⟨_, rfl⟩
          have hbt : 0 ≤ bt ∧ bt ≤ 1 := by have := bit_range s1 (base + p - 1); rw [hg1] at this; exact this
          rw [hg1] at hR1 hg ⊢
          simp only at hR1 hg ⊢
          have HI4 := Aside0.mk hg
          clear hg hg1
          by_cases her : er = 0
          · subst her
            rw [if_pos rfl] at hR1
            go_wp2_with (fail)
            exact ⟨⟨i + 1, 2 * p + bt, s3, by omega, rfl, by first | rfl | (simp; done) | omega, by rw [Int.pow_succ]; omega, by rw [Int.pow_succ]; omega, hR1, HI4⟩, by simp [intOf]; omega⟩
          · rw [if_neg her] at hR1
            subst hR1
            rw [if_neg her] at hR
            subst hR
            have e0 : (er == 0) = false := beq_eq_false_iff_ne.mpr her
            have e1 : (er != 0) = true := bne_iff_ne.mpr her
            go_wp2_with (fail)
            go_ret2
            exact ⟨rfl, HI4.out⟩
        · have hlt2 : k ≤ (i : Int) := by omega
          rw [show k.toNat - i = 0 by omega] at hR1
          unfold idL at hR1
          subst hR1
          rw [if_pos rfl] at hR
          subst hR
          have hpi : 2 ^ i = m := by rw [← hm]; congr 1; omega
          have w4 : IntKind.i64.wrap (p - m) = p - m := IntWalk.i64_in _ (by omega)
          go_wp2_with (fail)
          go_ret2
          exact ⟨rfl, HIa.out⟩
    · rw [if_neg hroom] at hR
      rw [decide_eq_false hroom] at hrm
      subst hrm hR
      go_wp2_with (fail)
      go_ret2
      exact ⟨rfl, HI9.out⟩
  · rw [if_neg hk] at hR
    subst hR
    have hId : ∀ W : World, Calls Try.prog 58 #[.int .i64 k, .int .i64 0] W fun e w' => e = .returned (.bool false) ∧ Below W.heap.size W w' := fun W => isid_calls k W false (decide_eq_false hk)
    go_enter Try.func26, Try.ntmps26
    go_wp2_with (fail)
    have HB := Aside0.mk (Below.refl w.heap.size w)
    have HI_0 := Aside0.mk (IS.below HI.out (below_drew (Below.refl _ _)))
    have HB_0 := Aside0.mk (below_drew1 HB.out)
    clear HI HB
    refine start_ (n := 15) (S := fun w' => True) (ds := []) #[false, false, false, false, false, false, false, false, false, false, false, false, false, false, false] (by kernel_rfl) rfl rfl trivial (fun hHeld => ?_)
    refine pure_ (i := 0) (N := some 12) (v := ?_) (a' := ?_) #[true, false, false, false, false, false, false, false, false, false, false, false, false, false, false] rfl rfl (by kernel_rfl) (fun _ _ _ h => h) (Or.inl ⟨by rfl, ?_⟩) ?_ ?_
    rotate_left
    · intro w'
      go_simp
      with_reducible rfl
    rotate_left
    · simp only [Act.put, List.setIfInBounds_toArray, List.set_cons_zero, List.set_cons_succ, i64_w, i32_w]
      rfl
    refine one_ (i := 1) (N := some 13) #[true, true, false, false, false, false, false, false, false, false, false, false, false, false, false] rfl rfl (by kernel_rfl) (by decide) (fun K hK => ?_)
    refine goes_ Try.func58 (by kernel_rfl) rfl #[.int .i64 k, .int .i64 0] (by rfl) rfl rfl (by simp only [List.map_toArray, List.map_cons, List.map_nil]; rfl) ?_
    with_reducible refine (hId _).mono ?_
    rintro e wk1 ⟨rfl, hk1⟩
    refine ⟨_, rfl, ?_⟩
    have HI_1 := Aside0.mk (IS.below HI_0.out hk1)
    have HB_1 := Aside0.mk (below_then HB_0.out HB_0.out.size hk1)
    clear HI_0 HB_0 hk1
    refine hK.out _ _ trivial (fun hHeld => ?_)
    clear hK K
    refine norm_ (a' := ?_) ?_ ?_
    rotate_left
    · show Act.put _ (some 13) _ = _
      simp only [Act.put, List.setIfInBounds_toArray, List.set_cons_zero, List.set_cons_succ, i64_w, i32_w]
      rfl
    refine pure_ (i := 2) (N := some 14) (v := ?_) (a' := ?_) #[true, true, true, false, false, false, false, false, false, false, false, false, false, false, false] rfl rfl (by kernel_rfl) (fun _ _ _ h => h) (Or.inl ⟨by rfl, ?_⟩) ?_ ?_
    rotate_left
    · intro w'
      go_simp
      with_reducible rfl
    rotate_left
    · simp only [Act.put, List.setIfInBounds_toArray, List.set_cons_zero, List.set_cons_succ, i64_w, i32_w]
      rfl
    refine pure_ (i := 3) (N := some 15) (v := ?_) (a' := ?_) #[true, true, true, true, false, false, false, false, false, false, false, false, false, false, false] rfl rfl (by kernel_rfl) (fun _ _ _ h => h) (Or.inl ⟨by rfl, ?_⟩) ?_ ?_
    rotate_left
    · intro w'
      go_simp
      with_reducible rfl
    rotate_left
    · simp only [Act.put, List.setIfInBounds_toArray, List.set_cons_zero, List.set_cons_succ, i64_w, i32_w]
      rfl
    refine pure_ (i := 4) (N := some 16) (v := undef) (a' := ?_) #[true, true, true, true, true, false, false, false, false, false, false, false, false, false, false] rfl rfl (by kernel_rfl) (fun _ _ _ h => h) (Or.inr ⟨by rfl, rfl⟩) ?_ ?_
    rotate_left
    · simp only [Act.put, List.setIfInBounds_toArray, List.set_cons_zero, List.set_cons_succ, i64_w, i32_w]
      rfl
    refine pure_ (i := 5) (N := some 17) (v := undef) (a' := ?_) #[true, true, true, true, true, true, false, false, false, false, false, false, false, false, false] rfl rfl (by kernel_rfl) (fun _ _ _ h => h) (Or.inr ⟨by rfl, rfl⟩) ?_ ?_
    rotate_left
    · simp only [Act.put, List.setIfInBounds_toArray, List.set_cons_zero, List.set_cons_succ, i64_w, i32_w]
      rfl
    refine pure_ (i := 6) (N := some 18) (v := undef) (a' := ?_) #[true, true, true, true, true, true, true, false, false, false, false, false, false, false, false] rfl rfl (by kernel_rfl) (fun _ _ _ h => h) (Or.inr ⟨by rfl, rfl⟩) ?_ ?_
    rotate_left
    · simp only [Act.put, List.setIfInBounds_toArray, List.set_cons_zero, List.set_cons_succ, i64_w, i32_w]
      rfl
    refine pure_ (i := 7) (N := some 19) (v := undef) (a' := ?_) #[true, true, true, true, true, true, true, true, false, false, false, false, false, false, false] rfl rfl (by kernel_rfl) (fun _ _ _ h => h) (Or.inr ⟨by rfl, rfl⟩) ?_ ?_
    rotate_left
    · simp only [Act.put, List.setIfInBounds_toArray, List.set_cons_zero, List.set_cons_succ, i64_w, i32_w]
      rfl
    refine pure_ (i := 8) (N := some 20) (v := undef) (a' := ?_) #[true, true, true, true, true, true, true, true, true, false, false, false, false, false, false] rfl rfl (by kernel_rfl) (fun _ _ _ h => h) (Or.inr ⟨by rfl, rfl⟩) ?_ ?_
    rotate_left
    · simp only [Act.put, List.setIfInBounds_toArray, List.set_cons_zero, List.set_cons_succ, i64_w, i32_w]
      rfl
    refine pure_ (i := 9) (N := some 21) (v := undef) (a' := ?_) #[true, true, true, true, true, true, true, true, true, true, false, false, false, false, false] rfl rfl (by kernel_rfl) (fun _ _ _ h => h) (Or.inr ⟨by rfl, rfl⟩) ?_ ?_
    rotate_left
    · simp only [Act.put, List.setIfInBounds_toArray, List.set_cons_zero, List.set_cons_succ, i64_w, i32_w]
      rfl
    refine pure_ (i := 10) (N := some 22) (v := undef) (a' := ?_) #[true, true, true, true, true, true, true, true, true, true, true, false, false, false, false] rfl rfl (by kernel_rfl) (fun _ _ _ h => h) (Or.inr ⟨by rfl, rfl⟩) ?_ ?_
    rotate_left
    · simp only [Act.put, List.setIfInBounds_toArray, List.set_cons_zero, List.set_cons_succ, i64_w, i32_w]
      rfl
    refine pure_ (i := 11) (N := some 23) (v := undef) (a' := ?_) #[true, true, true, true, true, true, true, true, true, true, true, true, false, false, false] rfl rfl (by kernel_rfl) (fun _ _ _ h => h) (Or.inr ⟨by rfl, rfl⟩) ?_ ?_
    rotate_left
    · simp only [Act.put, List.setIfInBounds_toArray, List.set_cons_zero, List.set_cons_succ, i64_w, i32_w]
      rfl
    refine pure_ (i := 12) (N := some 24) (v := undef) (a' := ?_) #[true, true, true, true, true, true, true, true, true, true, true, true, true, false, false] rfl rfl (by kernel_rfl) (fun _ _ _ h => h) (Or.inr ⟨by rfl, rfl⟩) ?_ ?_
    rotate_left
    · simp only [Act.put, List.setIfInBounds_toArray, List.set_cons_zero, List.set_cons_succ, i64_w, i32_w]
      rfl
    refine pure_ (i := 13) (N := some 25) (v := undef) (a' := ?_) #[true, true, true, true, true, true, true, true, true, true, true, true, true, true, false] rfl rfl (by kernel_rfl) (fun _ _ _ h => h) (Or.inr ⟨by rfl, rfl⟩) ?_ ?_
    rotate_left
    · simp only [Act.put, List.setIfInBounds_toArray, List.set_cons_zero, List.set_cons_succ, i64_w, i32_w]
      rfl
    refine pure_ (i := 14) (N := some 26) (v := ?_) (a' := ?_) #[true, true, true, true, true, true, true, true, true, true, true, true, true, true, true] rfl rfl (by kernel_rfl) (fun _ _ _ h => h) (Or.inl ⟨by rfl, ?_⟩) ?_ ?_
    rotate_left
    · intro w'
      go_simp
      with_reducible rfl
    rotate_left
    · simp only [Act.put, List.setIfInBounds_toArray, List.set_cons_zero, List.set_cons_succ, i64_w, i32_w]
      rfl
    refine done_ (by kernel_rfl) ?_
    have HI := HI_1
    have HB := HB_1
    clear HI_1 HB_1
    go_wp2_with (fail)
    go_ret2
    exact ⟨rfl, HI.out⟩
end Go.Proofs.Ytlnhahnnjbfjdaa.Gid
namespace Go.Proofs.Ytlnhahnnjbfjdaa.Pgt
open Go Go.RowKit Go.Proofs.YtlnhahnnjbfjdaaW.PrintWords Go.Proofs.YtlnhahnnjbfjdaaW.PrintLast Go.Proofs.YtlnhahnnjbfjdaaW.PrintMore Go.Proofs.Ytlnhahnnjbfjdaa.Aid Go.Proofs.Ytlnhahnnjbfjdaa.HandAid Go.Proofs.Ytlnhahnnjbfjdaa.Cod1 Go.Proofs.Ytlnhahnnjbfjdaa.Cod2 Go.Proofs.Ytlnhahnnjbfjdaa.Cod3 Go.Proofs.Ytlnhahnnjbfjdaa.Mod Go.Proofs.Ytlnhahnnjbfjdaa.Enc Go.Proofs.Ytlnhahnnjbfjdaa.Mods Go.Proofs.Ytlnhahnnjbfjdaa.EncAt Go.Proofs.Ytlnhahnnjbfjdaa.Put Go.Proofs.Ytlnhahnnjbfjdaa.End Go.Proofs.Ytlnhahnnjbfjdaa.Snc Go.Proofs.Ytlnhahnnjbfjdaa.Dec Go.Proofs.Ytlnhahnnjbfjdaa.Get Go.Proofs.Ytlnhahnnjbfjdaa.DecNew Go.Proofs.Ytlnhahnnjbfjdaa.RefAt Go.Proofs.Ytlnhahnnjbfjdaa.RDec Go.Proofs.Ytlnhahnnjbfjdaa.RDecNew Go.Proofs.Ytlnhahnnjbfjdaa.Ngt Go.Proofs.Ytlnhahnnjbfjdaa.Nwk Go.Proofs.Ytlnhahnnjbfjdaa.Nrw Go.Proofs.Ytlnhahnnjbfjdaa.Gid
theorem pret {W : World} {gz : Nat} {nn : Bool} {N err : Int} {tmps : Array Value} (hz : W.heap[gz]? = some (.cells #[.bool nn, .int .i64 N] 23 (0, 0))) (h2 : tmps.getD 4 undef = .pointer (some ⟨gz, 0, none⟩)) (h3 : tmps.getD 5 undef = .int .i64 err) :
    (results Try.f27 tmps).run Try.prog W = .ok (.tuple #[.agg #[.bool nn, .int .i64 N], .int .i64 err]) W := by
  have y0 : W.cell? ⟨gz, 0, none⟩ = some (.bool nn) := (blk_cell hz 0).trans rfl
  have y1 : W.cell? ⟨gz, 1, none⟩ = some (.int .i64 N) := (blk_cell hz 1).trans rfl
  have hu := Try.underlying23
  rw [results_cell_tmp rfl, h2, h3]
  go_simp
set_option maxHeartbeats 1000000 in
set_option maxRecDepth 100000 in
/-- Get of the program: its answer is the reference's. -/
theorem pnum_get (w : World) (S : Nat → Prop) (g : Nat) (s : DS) (base : Int) (h : DecAt w S g s) (hS : ∀ k, S k → k < w.heap.size) (hok : s.ok) (R : NR) (hR : numR base s = R) :
    Calls Try.prog 27 #[.pointer (some ⟨g, 0, none⟩), .int .i64 base] w (NPost DecAt w S g R) := by
  have hu1 := Try.underlying23
  obtain ⟨gz, hgz⟩ : ∃ x, w.heap.size = x := ⟨_, rfl⟩
  have hz : w.heap.size ≤ gz := Nat.le_of_eq hgz
  obtain ⟨W1, hW1⟩ : ∃ x, w.alloc (.cells #[.bool false, .int .i64 0] 23) = x := ⟨_, rfl⟩
  have HG := Aside0.mk (show GS DecAt w S g gz s W1 from hW1 ▸ ⟨h.below (below_alloc (Below.refl _ _) _), (Mods.refl w S).below (below_alloc (Below.refl _ _) _), hgz ▸ heap_new w _, hok⟩)
  have HS := Aside0.mk hS
  have hln : s.st.length ≤ 8192 := hok.m.2.1
  unfold numR at hR
  clear h hS hok
  have start : ∀ W : World, Aside0 (GS DecAt w S g gz s W) → Aside0 (Calls Try.prog 56 #[.pointer (some ⟨g, 0, none⟩), .int .i64 (-1)] W fun e W' => e = .returned (.tuple #[.int .i64 0, .int .i64 2]) ∧ GS DecAt w S g gz s W' ∧ Mods W W' S) := fun W H => ⟨by have := GS.get H.out HS.out hz (-1); rw [getI_neg] at this; exact this⟩
  go_enter Try.func27, Try.ntmps27
  go_wp2_with (fail)
  refine (start _ HG).out.mono ?_
  rintro e W2 ⟨rfl, hg, -⟩
  have HG2 := Aside0.mk hg
  clear hg start HG
  go_wp2_with (fail)
  refine (dec_model_calls W2 S g s HG2.out.d HG2.out.ok).mono ?_
  rintro e W8 ⟨A8, c8, rfl, -, hb8⟩
  have HG3 := Aside0.mk (HG2.out.below hb8)
  clear hb8 HG2
  go_wp2_with (fail)
  refine (fits_calls s.kind A8 s.st.length c8 base 48 W8 hln (by decide) (by decide)).mono ?_
  rintro e W9 ⟨rfl, hb9⟩
  have HG4 := Aside0.mk (HG3.out.below hb9)
  clear hb9 HG3
  have z0 : W9.cell? ⟨gz, 0, none⟩ = some (.bool false) := (blk_cell HG4.out.z 0).trans rfl
  have z1 : W9.cell? ⟨gz, 1, none⟩ = some (.int .i64 0) := (blk_cell HG4.out.z 1).trans rfl
  have y0 := blk_frozen HG4.out.z 0
  have y1 := blk_frozen HG4.out.z 1
  by_cases hrm : hasRoom s.st.length base 48
  · rw [if_pos hrm] at hR ⊢
    have hb0 : 0 ≤ base ∧ base ≤ 8192 := by unfold hasRoom at hrm; omega
    clear hrm
    go_wp2_with (fail)
    refine (number_get W9 S g s base HG4.out.d (fun k hk => Nat.lt_of_lt_of_le (HS.out k hk) HG4.out.m.size) HG4.out.ok hb0.1 (by omega) R hR).mono ?_
    rintro e W5 ⟨rfl, hd, hm, hok⟩
    have HG5 := Aside0.mk (show GS DecAt w S g gz R.1 W5 from ⟨hd, HG4.out.m.then_ hm (fun k hk => .inl hk), blk_mods HG4.out.z hm (fun hk => by have := HS.out gz hk; omega), hok⟩)
    clear hd hm hok z0 z1 y0 y1
    have z0 : W5.cell? ⟨gz, 0, none⟩ = some (.bool false) := (blk_cell HG5.out.z 0).trans rfl
    have z1 : W5.cell? ⟨gz, 1, none⟩ = some (.int .i64 0) := (blk_cell HG5.out.z 1).trans rfl
    have y0 := blk_frozen HG5.out.z 0
    have y1 := blk_frozen HG5.out.z 1
    go_wp2_with (fail)
    exact bodyPost_ret (pret (zset HG5.out.z (.bool R.2.1.1) (.int .i64 R.2.1.2)) rfl rfl) rfl ⟨rfl, (HG5.out.fin HS.out hz (.bool R.2.1.1) (.int .i64 R.2.1.2)).1, (HG5.out.fin HS.out hz (.bool R.2.1.1) (.int .i64 R.2.1.2)).2, HG5.out.ok⟩
  · rw [if_neg hrm] at hR ⊢
    subst hR
    go_wp2_with (fail)
    exact bodyPost_ret (pret (zset HG4.out.z (.bool false) (.int .i64 0)) rfl rfl) rfl ⟨rfl, (HG4.out.fin HS.out hz (.bool false) (.int .i64 0)).1, (HG4.out.fin HS.out hz (.bool false) (.int .i64 0)).2, HG4.out.ok⟩
end Go.Proofs.Ytlnhahnnjbfjdaa.Pgt
namespace Go.Proofs.Ytlnhahnnjbfjdaa.TwN
open Go Go.RowKit Go.Proofs.YtlnhahnnjbfjdaaW.PrintWords Go.Proofs.YtlnhahnnjbfjdaaW.PrintLast Go.Proofs.YtlnhahnnjbfjdaaW.PrintMore Go.Proofs.Ytlnhahnnjbfjdaa.Aid Go.Proofs.Ytlnhahnnjbfjdaa.HandAid Go.Proofs.Ytlnhahnnjbfjdaa.Cod1 Go.Proofs.Ytlnhahnnjbfjdaa.Cod2 Go.Proofs.Ytlnhahnnjbfjdaa.Cod3 Go.Proofs.Ytlnhahnnjbfjdaa.Mod Go.Proofs.Ytlnhahnnjbfjdaa.Enc Go.Proofs.Ytlnhahnnjbfjdaa.Mods Go.Proofs.Ytlnhahnnjbfjdaa.EncAt Go.Proofs.Ytlnhahnnjbfjdaa.Put Go.Proofs.Ytlnhahnnjbfjdaa.End Go.Proofs.Ytlnhahnnjbfjdaa.Snc Go.Proofs.Ytlnhahnnjbfjdaa.Dec Go.Proofs.Ytlnhahnnjbfjdaa.Get Go.Proofs.Ytlnhahnnjbfjdaa.DecNew Go.Proofs.Ytlnhahnnjbfjdaa.RefAt Go.Proofs.Ytlnhahnnjbfjdaa.RDec Go.Proofs.Ytlnhahnnjbfjdaa.RDecNew Go.Proofs.Ytlnhahnnjbfjdaa.TwoD Go.Proofs.Ytlnhahnnjbfjdaa.Ngt Go.Proofs.Ytlnhahnnjbfjdaa.Nwk Go.Proofs.Ytlnhahnnjbfjdaa.Nrw Go.Proofs.Ytlnhahnnjbfjdaa.Gid Go.Proofs.Ytlnhahnnjbfjdaa.Pgt
variable {w W : World} {g h : Nat} {s t : DS}
theorem _root_.Go.Proofs.Ytlnhahnnjbfjdaa.TwoD.TwoD.prog (H : TwoD w g h s t W) {f : Nat} {args : Array Value} {v : Value} {s' : DS} (hc : ∀ S : Nat → Prop, DecAt W S g s → (∀ k, S k → k < W.heap.size) → Calls Try.prog f args W fun e W' => e = .returned v ∧ DecAt W' S g s' ∧ Mods W W' S ∧ s'.ok) : Calls Try.prog f args W fun e W' => e = .returned v ∧ TwoD w g h s' t W' := by
  obtain ⟨⟨S1, S2, h1, h2, h3, h4, h5⟩, b, sok, tok⟩ := H
  refine (hc S1 h1 (fun k hk => (h3 k hk).2)).mono ?_
  rintro e W' ⟨he, hE, hM, ok⟩
  exact ⟨he, ⟨⟨S1, S2, hE, h2.kept hM (fun k hk hk1 => h5 k hk1 hk), fun k hk => ⟨(h3 k hk).1, Nat.lt_of_lt_of_le (h3 k hk).2 hM.size⟩, fun k hk => ⟨(h4 k hk).1, Nat.lt_of_lt_of_le (h4 k hk).2 hM.size⟩, h5⟩, below_mods b hM (fun k hk => (h3 k hk).1) b.size, ok, tok⟩⟩
theorem _root_.Go.Proofs.Ytlnhahnnjbfjdaa.TwoD.TwoD.ref (H : TwoD w g h s t W) {f : Nat} {args : Array Value} {v : Value} {t' : DS} (hc : ∀ S : Nat → Prop, RDecAt W S h t → (∀ k, S k → k < W.heap.size) → Calls Try.prog f args W fun e W' => e = .returned v ∧ RDecAt W' S h t' ∧ Mods W W' S ∧ t'.ok) : Calls Try.prog f args W fun e W' => e = .returned v ∧ TwoD w g h s t' W' := by
  obtain ⟨⟨S1, S2, h1, h2, h3, h4, h5⟩, b, sok, tok⟩ := H
  refine (hc S2 h2 (fun k hk => (h4 k hk).2)).mono ?_
  rintro e W' ⟨he, hE, hM, ok⟩
  exact ⟨he, ⟨⟨S1, S2, h1.kept hM (fun k hk hk1 => h5 k hk hk1), hE, fun k hk => ⟨(h3 k hk).1, Nat.lt_of_lt_of_le (h3 k hk).2 hM.size⟩, fun k hk => ⟨(h4 k hk).1, Nat.lt_of_lt_of_le (h4 k hk).2 hM.size⟩, h5⟩, below_mods b hM (fun k hk => (h4 k hk).1) b.size, sok, ok⟩⟩
theorem _root_.Go.Proofs.Ytlnhahnnjbfjdaa.TwoD.TwoD.getid (H : TwoD w g h s t W) (base k : Int) (s' : DS) (v er : Int) (hR : idR base k s = (s', v, er)) :
    Calls Try.prog 25 #[.pointer (some ⟨g, 0, none⟩), .int .i64 base, .int .i64 k] W fun e W' => e = .returned (.tuple #[.int .i64 v, .int .i64 er]) ∧ TwoD w g h s' t W' :=
  H.prog fun S hd hS => (getid_calls W S g s base k hd hS H.sok _ hR).mono (fun _ _ hp => ⟨hp.1, hp.2.d, hp.2.m, hp.2.ok⟩)
theorem _root_.Go.Proofs.Ytlnhahnnjbfjdaa.TwoD.TwoD.rgetid (H : TwoD w g h s t W) (base k : Int) (t' : DS) (v er : Int) (hR : idR base k t = (t', v, er)) :
    Calls Try.prog 26 #[.pointer (some ⟨h, 0, none⟩), .int .i64 base, .int .i64 k] W fun e W' => e = .returned (.tuple #[.int .i64 v, .int .i64 er]) ∧ TwoD w g h s t' W' :=
  H.ref fun S hd hS => (rgetid_calls W S h t base k hd hS H.tok _ hR).mono (fun _ _ hp => ⟨hp.1, hp.2.d, hp.2.m, hp.2.ok⟩)
theorem _root_.Go.Proofs.Ytlnhahnnjbfjdaa.TwoD.TwoD.num (H : TwoD w g h s t W) (base : Int) (s' : DS) (nn : Bool) (v er : Int) (hR : numR base s = (s', (nn, v), er)) :
    Calls Try.prog 27 #[.pointer (some ⟨g, 0, none⟩), .int .i64 base] W fun e W' => e = .returned (.tuple #[.agg #[.bool nn, .int .i64 v], .int .i64 er]) ∧ TwoD w g h s' t W' :=
  H.prog fun S hd hS => (pnum_get W S g s base hd hS H.sok _ hR).mono (fun _ _ hp => ⟨hp.1, hp.2.1, hp.2.2.1, hp.2.2.2⟩)
/-- The reference's number, and that what was made last stands. -/
theorem _root_.Go.Proofs.Ytlnhahnnjbfjdaa.TwoD.TwoD.rnum' {W1 : World} (H : TwoD w g h s t W) (hb1 : Below W.heap.size W W1) {gz : Nat} {cs : Array Value} {ty : TypeId} (hg : W.heap.size ≤ gz) (hz : W1.heap[gz]? = some (.cells cs ty (0, 0))) (base : Int) (t' : DS) (nn : Bool) (v er : Int) (hR : numR base t = (t', (nn, v), er)) :
    Calls Try.prog 28 #[.pointer (some ⟨h, 0, none⟩), .int .i64 base] W1 fun e W' => e = .returned (.tuple #[.agg #[.bool nn, .int .i64 v], .int .i64 er]) ∧ TwoD w g h s t' W' ∧ W'.heap[gz]? = some (.cells cs ty (0, 0)) := by
  obtain ⟨⟨S1, S2, h1, h2, h3, h4, h5⟩, b, sok, tok⟩ := H
  refine (rnum_get W1 S2 h t base (h2.below hb1) (fun k hk => Nat.lt_of_lt_of_le (h4 k hk).2 hb1.size) tok _ hR).mono ?_
  rintro e W' ⟨he, hE, hM, ok⟩
  exact ⟨he, ⟨⟨S1, S2, (h1.below hb1).kept hM (fun k hk hk1 => h5 k hk hk1), hE, fun k hk => ⟨(h3 k hk).1, Nat.lt_of_lt_of_le (h3 k hk).2 (Nat.le_trans hb1.size hM.size)⟩, fun k hk => ⟨(h4 k hk).1, Nat.lt_of_lt_of_le (h4 k hk).2 (Nat.le_trans hb1.size hM.size)⟩, h5⟩, below_mods (below_then b b.size hb1) hM (fun k hk => (h4 k hk).1) (Nat.le_trans b.size hb1.size), sok, ok⟩, blk_mods hz hM (fun hk => by have := (h4 _ hk).2; omega)⟩
end Go.Proofs.Ytlnhahnnjbfjdaa.TwN
