import Derived.Test.YtlnhahnnjbfjdaaMNumberDecodes1
import Derived.Test.YtlnhahnnjbfjdaaMNumberDecodes2
import Derived.Laws.ResultCell
set_option linter.unusedVariables false
set_option linter.unusedSimpArgs false
namespace Go.Proofs.Ytlnhahnnjbfjdaa.RDec
open Go Go.RowKit Go.Proofs.YtlnhahnnjbfjdaaW.PrintWords Go.Proofs.YtlnhahnnjbfjdaaW.PrintLast Go.Proofs.YtlnhahnnjbfjdaaW.PrintMore Go.Proofs.Ytlnhahnnjbfjdaa.Aid Go.Proofs.Ytlnhahnnjbfjdaa.HandAid Go.Proofs.Ytlnhahnnjbfjdaa.Cod1 Go.Proofs.Ytlnhahnnjbfjdaa.Cod2 Go.Proofs.Ytlnhahnnjbfjdaa.Cod3 Go.Proofs.Ytlnhahnnjbfjdaa.Mod Go.Proofs.Ytlnhahnnjbfjdaa.Enc Go.Proofs.Ytlnhahnnjbfjdaa.Mods Go.Proofs.Ytlnhahnnjbfjdaa.EncAt Go.Proofs.Ytlnhahnnjbfjdaa.Put Go.Proofs.Ytlnhahnnjbfjdaa.End Go.Proofs.Ytlnhahnnjbfjdaa.Snc Go.Proofs.Ytlnhahnnjbfjdaa.RefAt Go.Proofs.Ytlnhahnnjbfjdaa.Dec Go.Proofs.Ytlnhahnnjbfjdaa.Get Go.Proofs.Ytlnhahnnjbfjdaa.U
attribute [local go_sem low] max2_int
attribute [local go_sem] min2_int max_two min_two
theorem max_sub (k n : Nat) : Builtin.max2 (.int .i64 0) (.int .i64 ((k : Int) - (n : Int))) = pure (.int .i64 ((k - n : Nat) : Int)) := by
  rw [max2_int]
  congr 2
  split <;> omega
attribute [local go_sem high] max_sub
/-- The reference's decoder: its cells. -/
def dec9 (kind : Int) (v : Value) (low high : Int) (vc : Value) (a value be : Int) (ended : Bool) : Array Value := #[.int .i64 kind, v, .int .u64 low, .int .u64 high, vc, .int .i64 a, .int .u64 value, .int .i64 be, .bool ended]
structure RDecRow (W : World) (S : Nat → Prop) (g : Nat) (kind : Int) (A : Option Addr) (c : Nat) (st : List Int) (low high : Int) (vc : Value) (code : List Int) (a value be : Int) (ended : Bool) : Prop where
  b : W.heap[g]? = some (.cells (dec9 kind (.slice A st.length c) low high vc a value be ended) 104 (0, 0))
  s : Kd.R (Kd.int .i64) 3 W 0 S (.slice A st.length c) st
  o : Kd.R (Kd.int .u8) 5 W 0 S vc code
  g : S g
section
variable {W W' : World} {S S' : Nat → Prop} {g : Nat} {kind : Int} {A : Option Addr} {c : Nat} {st : List Int} {low high : Int} {vc : Value} {code : List Int} {a value be : Int} {ended : Bool}
theorem RDecRow.kept (h : RDecRow W S g kind A c st low high vc code a value be ended) (hk : Mods W W' S') (hne : ∀ k, S k → ¬ S' k) : RDecRow W' S g kind A c st low high vc code a value be ended :=
  ⟨blk_kept h.b hk.kept (hne g h.g), Kd.R_kept h.s hk.kept hne, Kd.R_kept h.o hk.kept hne, h.g⟩
theorem RDecRow.below (h : RDecRow W S g kind A c st low high vc code a value be ended) (hb : Below W.heap.size W W') : RDecRow W' S g kind A c st low high vc code a value be ended :=
  ⟨blk_below h.b hb, Kd.R_below h.s hb, Kd.R_below h.o hb, h.g⟩
theorem RDecRow.drewN (h : RDecRow W S g kind A c st low high vc code a value be ended) (m : Nat) : RDecRow (W.drewN m) S g kind A c st low high vc code a value be ended := h.below (pw_below_drewN (Below.refl _ _) m)
theorem RDecRow.drew (h : RDecRow W S g kind A c st low high vc code a value be ended) : RDecRow W.drew S g kind A c st low high vc code a value be ended := h.below (below_drew (Below.refl _ _))
theorem RDecRow.mono (h : RDecRow W S g kind A c st low high vc code a value be ended) (hs : ∀ k, S k → S' k) : RDecRow W S' g kind A c st low high vc code a value be ended :=
  ⟨h.b, Kd.R_mono h.s hs, Kd.R_mono h.o hs, hs g h.g⟩
theorem RDecRow.c0 (h : RDecRow W S g kind A c st low high vc code a value be ended) : W.cell? ⟨g, 0, none⟩ = some (.int .i64 kind) := (blk_cell h.b 0).trans rfl
theorem RDecRow.c1 (h : RDecRow W S g kind A c st low high vc code a value be ended) : W.cell? ⟨g, 1, none⟩ = some (.slice A st.length c) := (blk_cell h.b 1).trans rfl
theorem RDecRow.c2 (h : RDecRow W S g kind A c st low high vc code a value be ended) : W.cell? ⟨g, 2, none⟩ = some (.int .u64 low) := (blk_cell h.b 2).trans rfl
theorem RDecRow.c3 (h : RDecRow W S g kind A c st low high vc code a value be ended) : W.cell? ⟨g, 3, none⟩ = some (.int .u64 high) := (blk_cell h.b 3).trans rfl
theorem RDecRow.c4 (h : RDecRow W S g kind A c st low high vc code a value be ended) : W.cell? ⟨g, 4, none⟩ = some vc := (blk_cell h.b 4).trans rfl
theorem RDecRow.c5 (h : RDecRow W S g kind A c st low high vc code a value be ended) : W.cell? ⟨g, 5, none⟩ = some (.int .i64 a) := (blk_cell h.b 5).trans rfl
theorem RDecRow.c6 (h : RDecRow W S g kind A c st low high vc code a value be ended) : W.cell? ⟨g, 6, none⟩ = some (.int .u64 value) := (blk_cell h.b 6).trans rfl
theorem RDecRow.c7 (h : RDecRow W S g kind A c st low high vc code a value be ended) : W.cell? ⟨g, 7, none⟩ = some (.int .i64 be) := (blk_cell h.b 7).trans rfl
theorem RDecRow.c8 (h : RDecRow W S g kind A c st low high vc code a value be ended) : W.cell? ⟨g, 8, none⟩ = some (.bool ended) := (blk_cell h.b 8).trans rfl
theorem RDecRow.fz (h : RDecRow W S g kind A c st low high vc code a value be ended) (i : Nat) : W.frozen? ⟨g, i, none⟩ = false := blk_frozen h.b i
theorem RDecRow.cell (h : RDecRow W S g kind A c st low high vc code a value be ended) {i : Nat} (hi : i < st.length) : ∃ b, A = some ⟨b, 0, none⟩ ∧ W.cell? ⟨b, i, none⟩ = some (.int .i64 (rd st i)) ∧ W.frozen? ⟨b, i, none⟩ = false ∧ b ≠ g := by
  obtain ⟨b, cap, hv, _, _, cells, hc⟩ := Kd.R_form h.s (by omega)
  injection hv with hA _ hcap
  subst hA hcap
  have h1 := Kd.R_cell (0 : Int) h.s (i : Int) (by omega) (by omega)
  have hne : b ≠ g := blk_ne hc h.b (by decide)
  exact ⟨b, rfl, h1.1, h1.2, hne⟩
theorem RDecRow.put (h : RDecRow W S g kind A c st low high vc code a value be ended) (j : Nat) (u : Value) {kind' low' high' a' value' be' : Int} {ended' : Bool} (e : (dec9 kind (.slice A st.length c) low high vc a value be ended).setIfInBounds j u = dec9 kind' (.slice A st.length c) low' high' vc a' value' be' ended') : RDecRow (W.setCell ⟨g, j, none⟩ u) S g kind' A c st low' high' vc code a' value' be' ended' :=
  ⟨blk_put h.b j u e, Kd.R_set h.s h.b (by decide) _ _, Kd.R_set h.o h.b (by decide) _ _, h.g⟩
theorem RDecRow.setst {b : Nat} (h : RDecRow W S g kind (some ⟨b, 0, none⟩) c st low high vc code a value be ended) {i : Nat} (hi : i < st.length) (x : Int) : RDecRow (W.setCell ⟨b, i, none⟩ (.int .i64 x)) S g kind (some ⟨b, 0, none⟩) c (st.set i x) low high vc code a value be ended := by
  obtain ⟨b', hA, _, _, hne⟩ := h.cell hi
  injection hA with hA
  injection hA with hA _ _
  subst hA
  obtain ⟨cells, hty⟩ := Kd.R_typed h.s b (by simp [Value.ownBlock])
  have hp := (Kd.R_put (enc := Value.int .i64) h.s (i : Int) x).1
  rw [Int.toNat_natCast] at hp
  have hl : (st.set i x).length = st.length := List.length_set
  refine ⟨?_, ?_, Kd.R_set h.o hty (by decide) _ _, h.g⟩
  · rw [hl]
    exact blk_far h.b (Ne.symm hne) _
  · rw [hl]
    exact hp
/-- A write in another block. -/
theorem RDecRow.far (h : RDecRow W S g kind A c st low high vc code a value be ended) {p : Addr} (hp : ¬ S p.block) (u : Value) : RDecRow (W.setCell p u) S g kind A c st low high vc code a value be ended :=
  h.kept ((Mods.refl W (fun k => k = p.block)).setCell (.inl rfl) u) (fun k hk he => hp (he ▸ hk))
end
theorem byte_calls (Ac : Option Addr) (cc : Nat) (code : List Int) (i : Nat) (w : World) (hC : Kd.C (Kd.int .u8) w Ac code.length code) (hby : Bytes code) :
    Calls Try.prog 55 #[.slice Ac code.length cc, .int .i64 i] w fun e w' => e = .returned (.int .u64 (Dec.byteOf code i)) ∧ w = w' := by
  have HBY := Aside0.mk hby
  clear hby
  by_cases hlt : i < code.length
  · have hb : Dec.byteOf code i = rd code i := if_pos hlt
    obtain ⟨ad, hA, hx⟩ := Kd.at_int hC (i : Int) (by omega) (by omega)
    subst hA
    rw [Int.toNat_natCast] at hx
    have hr := byteOf_range HBY.out i
    rw [hb] at hr
    have hi : (i : Int) < (code.length : Int) := by omega
    have HBB := Aside0.mk hb
    clear hlt hb hC
    go_enter Try.func55, Try.ntmps55
    go_wp2
    go_ret
    exact ⟨by rw [HBB.out]; rfl, rfl⟩
  · have hb : Dec.byteOf code i = 0 := if_neg hlt
    have hi : ¬ (i : Int) < (code.length : Int) := by omega
    have HBB := Aside0.mk hb
    clear hlt hb hC
    go_enter Try.func55, Try.ntmps55
    go_wp2
    go_ret
    exact ⟨by rw [HBB.out]; rfl, rfl⟩
theorem rmid_calls (low high p : Int) (w : World) (h0 : 0 ≤ low) (h1 : low ≤ high) (h2 : high ≤ 4294967295) (h3 : 1 ≤ p) (h4 : p ≤ 4095) : Calls Try.prog 78 #[.agg #[.int .u64 low, .int .u64 high], .int .i64 p] w fun e w' => e = .returned (.int .u64 (midOf low high p)) ∧ Below w.heap.size w w' :=
  incunableref02_Interval_Mid.calls low high p _ w (mid_eq low high p h0 h1 h2 h3 h4)
/-- What a Get that takes a bit leaves. -/
def RGetPost (w : World) (S : Nat → Prop) (g : Nat) (kind : Int) (b c : Nat) (st : List Int) (low high mid : Int) (vc : Value) (code : List Int) (a : Nat) (value : Int) (i : Nat) (bit : Int) (e : Ending) (w' : World) : Prop :=
  (∃ l h n, normE 4 (cutL low mid bit) (cutH high mid bit) = (n, l, h) ∧ ((a + n.length - code.length > 4 ∧ e = .returned (.tuple #[.int .i64 0, .int .i64 6]) ∧ RDecRow w' S g kind (some ⟨b, 0, none⟩) c st low high vc code a value ((a - code.length : Nat) : Int) true) ∨ (¬ a + n.length - code.length > 4 ∧ e = .returned (.tuple #[.int .i64 bit, .int .i64 0]) ∧ RDecRow w' S g kind (some ⟨b, 0, none⟩) c (st.set i (after kind (rd st i) bit)) l h vc code ((a + n.length : Nat) : Int) (shV code n.length value a) ((a + n.length - code.length : Nat) : Int) false))) ∧ Mods w w' S
set_option maxHeartbeats 4000000 in
set_option maxRecDepth 100000 in
theorem rget_row0 (w : World) (S : Nat → Prop) (g : Nat) (kind : Int) (b c : Nat) (st : List Int) (low high mid : Int) (vc : Value) (code : List Int) (a : Nat) (value : Int) (i : Nat) (hE : RDecRow w S g kind (some ⟨b, 0, none⟩) c st low high vc code a value ((a - code.length : Nat) : Int) false) (hSb : ∀ k, S k → k < w.heap.size) (hi : i < st.length) (hn : st.length ≤ 8192) (hs : okState kind (rd st i)) (hl0 : 0 ≤ low) (hlh : low ≤ high) (hh : high ≤ 4294967295) (hmid : midOf low high (likely kind (rd st i)) = mid) (hm0 : 0 ≤ mid) (hm1 : mid ≤ 4294967295) (hI0 : PutInv [] (cutL low mid 0) (cutH high mid 0) 4 (cutL low mid 0) (cutH high mid 0) []) (hv0 : 0 ≤ value) (hv1 : value ≤ 4294967295) (hby : Bytes code) (hlen : code.length ≤ 1099511627776) (ha : a - code.length ≤ 4) (hvb : ¬ value ≤ mid) :
    Calls Try.prog 61 #[.pointer (some ⟨g, 0, none⟩), .int .i64 i] w (RGetPost w S g kind b c st low high mid vc code a value i 0) := by
  have HE := Aside0.mk hE
  have hSg : S g := hE.g
  have hSb2 : S b := hE.s.1 b (by simp [Value.ownBlock])
  obtain ⟨Ac, cc, hvc⟩ := Kd.R_slice hE.o
  subst hvc
  have k0 := hE.c0
  have k1 := hE.c1
  have k8 := hE.c8
  have ks : w.cell? ⟨b, i, none⟩ = some (.int .i64 (rd st i)) := by obtain ⟨b', hA, hc, _⟩ := hE.cell hi; cases hA; exact hc
  have hlk := likely_range kind (rd st i) hs
  have HMID := fun W => Aside0.mk (hmid ▸ rmid_calls low high (likely kind (rd st i)) W hl0 hlh hh hlk.1 hlk.2)
  have HP := fun W => Aside0.mk (hmid ▸ part_calls low high (likely kind (rd st i)) 0 W hl0 hlh hh hlk.1 hlk.2)
  have HI := Aside0.mk hI0
  have HBY := Aside0.mk hby
  have HSB := Aside0.mk hSb
  have hu := Try.underlying101
  clear hE hmid hI0 hby hSb
  have hi1 : (0 : Int) ≤ (i : Int) := by omega
  have hi2 : (i : Int) < (st.length : Int) := by omega
  go_enter Try.func61, Try.ntmps61
  go_wp2
  refine start_ (n := 15) (S := fun w' => w'.cell? ⟨g, 0, none⟩ = some (.int .i64 kind) ∧ w'.cell? ⟨g, 1, none⟩ = some (.slice (some ⟨b, 0, none⟩) st.length c) ∧ w'.cell? ⟨b, i, none⟩ = some (.int .i64 (rd st i))) (ds := []) #[false, false, false, false, false, false, false, false, false, false, false, false, false, false, false] (by kernel_rfl) rfl rfl ⟨k0, k1, ks⟩ (fun hHeld => ?_)
  refine pure_ (i := 0) (N := some 30) (v := ?_) (a' := ?_) #[true, false, false, false, false, false, false, false, false, false, false, false, false, false, false] rfl rfl (by kernel_rfl) (fun _ _ _ h => h) (Or.inl ⟨by rfl, ?_⟩) ?_ ?_
  rotate_left
  · intro w'
    go_simp
    with_reducible rfl
  rotate_left
  · simp only [Act.put, List.setIfInBounds_toArray, List.set_cons_zero, List.set_cons_succ, i64_w, i32_w]
    rfl
  refine pure_ (i := 1) (N := some 31) (v := ?_) (a' := ?_) #[true, true, false, false, false, false, false, false, false, false, false, false, false, false, false] rfl rfl (by kernel_rfl) (fun _ _ _ h => h) (Or.inl ⟨by rfl, ?_⟩) ?_ ?_
  rotate_left
  · intro w'
    go_simp
    with_reducible rfl
  rotate_left
  · simp only [Act.put, List.setIfInBounds_toArray, List.set_cons_zero, List.set_cons_succ, i64_w, i32_w]
    rfl
  refine pure_ (i := 2) (N := some 32) (v := ?_) (a' := ?_) #[true, true, true, false, false, false, false, false, false, false, false, false, false, false, false] rfl rfl (by kernel_rfl) (fun _ _ _ h => h) (Or.inl ⟨by rfl, ?_⟩) ?_ ?_
  rotate_left
  · intro w'
    go_simp
    with_reducible rfl
  rotate_left
  · simp only [Act.put, List.setIfInBounds_toArray, List.set_cons_zero, List.set_cons_succ, i64_w, i32_w]
    rfl
  refine pure_ (i := 3) (N := some 33) (v := ?_) (a' := ?_) #[true, true, true, true, false, false, false, false, false, false, false, false, false, false, false] rfl rfl (by kernel_rfl) (fun _ _ _ h => h) (Or.inl ⟨by rfl, ?_⟩) ?_ ?_
  rotate_left
  · intro w'
    go_simp
    with_reducible rfl
  rotate_left
  · simp only [Act.put, List.setIfInBounds_toArray, List.set_cons_zero, List.set_cons_succ, i64_w, i32_w]
    rfl
  refine pure_ (i := 5) (N := some 35) (v := ?_) (a' := ?_) #[true, true, true, true, false, true, false, false, false, false, false, false, false, false, false] rfl rfl (by kernel_rfl) (fun _ _ _ h => h) (Or.inl ⟨by rfl, ?_⟩) ?_ ?_
  rotate_left
  · intro w'
    go_simp
    with_reducible rfl
  rotate_left
  · simp only [Act.put, List.setIfInBounds_toArray, List.set_cons_zero, List.set_cons_succ, i64_w, i32_w]
    rfl
  refine pure_ (i := 6) (N := some 36) (v := ?_) (a' := ?_) #[true, true, true, true, false, true, true, false, false, false, false, false, false, false, false] rfl rfl (by kernel_rfl) (fun _ _ _ h => h) (Or.inl ⟨by rfl, ?_⟩) ?_ ?_
  rotate_left
  · intro w'
    go_simp
    with_reducible rfl
  rotate_left
  · simp only [Act.put, List.setIfInBounds_toArray, List.set_cons_zero, List.set_cons_succ, i64_w, i32_w]
    rfl
  refine pure_ (i := 7) (N := some 37) (v := ?_) (a' := ?_) #[true, true, true, true, false, true, true, true, false, false, false, false, false, false, false] rfl rfl (by kernel_rfl) (fun _ _ _ h => h) (Or.inl ⟨by rfl, ?_⟩) ?_ ?_
  rotate_left
  · intro w'
    go_simp
    with_reducible rfl
  rotate_left
  · simp only [Act.put, List.setIfInBounds_toArray, List.set_cons_zero, List.set_cons_succ, i64_w, i32_w]
    rfl
  refine pure_ (i := 8) (N := some 38) (v := ?_) (a' := ?_) #[true, true, true, true, false, true, true, true, true, false, false, false, false, false, false] rfl rfl (by kernel_rfl) (fun _ _ _ h => h) (Or.inl ⟨by rfl, ?_⟩) ?_ ?_
  rotate_left
  · intro w'
    go_simp
    with_reducible rfl
  rotate_left
  · simp only [Act.put, List.setIfInBounds_toArray, List.set_cons_zero, List.set_cons_succ, i64_w, i32_w]
    rfl
  refine pure_ (i := 10) (N := some 40) (v := ?_) (a' := ?_) #[true, true, true, true, false, true, true, true, true, false, true, false, false, false, false] rfl rfl (by kernel_rfl) (fun _ _ _ h => h) (Or.inl ⟨by rfl, ?_⟩) ?_ ?_
  rotate_left
  · intro w'
    go_simp
    with_reducible rfl
  rotate_left
  · simp only [Act.put, List.setIfInBounds_toArray, List.set_cons_zero, List.set_cons_succ, i64_w, i32_w]
    rfl
  refine take_ (i := 4) (N := some 34) (v := ?_) (a' := ?_) #[true, true, true, true, true, true, true, true, true, false, true, false, false, false, false] rfl rfl (by kernel_rfl) (fun _ _ _ h => h) (Or.inl ⟨by rfl, ?_⟩) hHeld ?_ ?_
  rotate_left
  · rintro w' ⟨s0, s1, s2⟩
    go_simp
    with_reducible rfl
  rotate_left
  · simp only [Act.put, List.setIfInBounds_toArray, List.set_cons_zero, List.set_cons_succ, i64_w, i32_w]
    rfl
  refine take_ (i := 9) (N := some 39) (v := ?_) (a' := ?_) #[true, true, true, true, true, true, true, true, true, true, true, false, false, false, false] rfl rfl (by kernel_rfl) (fun _ _ _ h => h) (Or.inl ⟨by rfl, ?_⟩) hHeld ?_ ?_
  rotate_left
  · rintro w' ⟨s0, s1, s2⟩
    go_simp
    with_reducible rfl
  rotate_left
  · simp only [Act.put, List.setIfInBounds_toArray, List.set_cons_zero, List.set_cons_succ, i64_w, i32_w]
    rfl
  refine pure_ (i := 11) (N := some 41) (v := ?_) (a' := ?_) #[true, true, true, true, true, true, true, true, true, true, true, true, false, false, false] rfl rfl (by kernel_rfl) (fun _ _ _ h => h) (Or.inl ⟨by rfl, ?_⟩) ?_ ?_
  rotate_left
  · intro w'
    go_simp
    with_reducible rfl
  rotate_left
  · simp only [Act.put, List.setIfInBounds_toArray, List.set_cons_zero, List.set_cons_succ, i64_w, i32_w]
    rfl
  refine take_ (i := 12) (N := some 42) (v := ?_) (a' := ?_) #[true, true, true, true, true, true, true, true, true, true, true, true, true, false, false] rfl rfl (by kernel_rfl) (fun _ _ _ h => h) (Or.inl ⟨by rfl, ?_⟩) hHeld ?_ ?_
  rotate_left
  · rintro w' ⟨s0, s1, s2⟩
    go_simp
    with_reducible rfl
  rotate_left
  · simp only [Act.put, List.setIfInBounds_toArray, List.set_cons_zero, List.set_cons_succ, i64_w, i32_w]
    rfl
  refine one_ (i := 13) (N := some 43) #[true, true, true, true, true, true, true, true, true, true, true, true, true, true, false] rfl rfl (by kernel_rfl) (by decide) (fun K hK => ?_)
  refine goes_ Try.func77 (by kernel_rfl) rfl #[.int .i64 kind, .int .i64 (rd st i)] (by rfl) rfl rfl (by simp only [List.map_toArray, List.map_cons, List.map_nil]; rfl) ?_
  with_reducible refine (likelyB kind (rd st i) _ hs).mono ?_
  rintro e w3 ⟨rfl, hb3⟩
  refine ⟨_, rfl, ?_⟩
  have hb3' := below_undrew1 hb3
  have HE3 := Aside0.mk (HE.out.below hb3')
  have HM3 := Aside0.mk ((Mods.refl w S).below hb3')
  clear hb3 hb3'
  refine hK.out _ _ ⟨HE3.out.c0, HE3.out.c1, by obtain ⟨b', hA, hc, _⟩ := HE3.out.cell hi; cases hA; exact hc⟩ (fun hHeld => ?_)
  clear hK K
  refine norm_ (a' := ?_) ?_ ?_
  rotate_left
  · show Act.put _ (some 43) _ = _
    simp only [Act.put, List.setIfInBounds_toArray, List.set_cons_zero, List.set_cons_succ, i64_w, i32_w]
    rfl
  refine pure_ (i := 14) (N := some 6) (v := ?_) (a' := ?_) #[true, true, true, true, true, true, true, true, true, true, true, true, true, true, true] rfl rfl (by kernel_rfl) (fun _ _ _ h => h) (Or.inl ⟨by rfl, ?_⟩) ?_ ?_
  rotate_left
  · intro w'
    go_simp
    with_reducible rfl
  rotate_left
  · simp only [Act.put, List.setIfInBounds_toArray, List.set_cons_zero, List.set_cons_succ, i64_w, i32_w]
    rfl
  refine done_ (by kernel_rfl) ?_
  clear k0 k1 ks k8 HE
  go_wp2
  have HE3 := Aside0.mk HE3.out.drew
  have HM3 := Aside0.mk HM3.out.drew
  have k2 := HE3.out.c2
  have k3 := HE3.out.c3
  have k6 := HE3.out.c6
  refine start_ (n := 11) (S := fun w' => w'.cell? ⟨g, 2, none⟩ = some (.int .u64 low) ∧ w'.cell? ⟨g, 3, none⟩ = some (.int .u64 high) ∧ w'.cell? ⟨g, 6, none⟩ = some (.int .u64 value)) (ds := []) #[false, false, false, false, false, false, false, false, false, false, false] (by kernel_rfl) rfl rfl ⟨k2, k3, k6⟩ (fun hHeld => ?_)
  refine pure_ (i := 0) (N := some 44) (v := ?_) (a' := ?_) #[true, false, false, false, false, false, false, false, false, false, false] rfl rfl (by kernel_rfl) (fun _ _ _ h => h) (Or.inl ⟨by rfl, ?_⟩) ?_ ?_
  rotate_left
  · intro w'
    go_simp
    with_reducible rfl
  rotate_left
  · simp only [Act.put, List.setIfInBounds_toArray, List.set_cons_zero, List.set_cons_succ, i64_w, i32_w]
    rfl
  refine pure_ (i := 1) (N := some 45) (v := ?_) (a' := ?_) #[true, true, false, false, false, false, false, false, false, false, false] rfl rfl (by kernel_rfl) (fun _ _ _ h => h) (Or.inl ⟨by rfl, ?_⟩) ?_ ?_
  rotate_left
  · intro w'
    go_simp
    with_reducible rfl
  rotate_left
  · simp only [Act.put, List.setIfInBounds_toArray, List.set_cons_zero, List.set_cons_succ, i64_w, i32_w]
    rfl
  refine pure_ (i := 2) (N := some 46) (v := ?_) (a' := ?_) #[true, true, true, false, false, false, false, false, false, false, false] rfl rfl (by kernel_rfl) (fun _ _ _ h => h) (Or.inl ⟨by rfl, ?_⟩) ?_ ?_
  rotate_left
  · intro w'
    go_simp
    with_reducible rfl
  rotate_left
  · simp only [Act.put, List.setIfInBounds_toArray, List.set_cons_zero, List.set_cons_succ, i64_w, i32_w]
    rfl
  refine pure_ (i := 4) (N := some 48) (v := ?_) (a' := ?_) #[true, true, true, false, true, false, false, false, false, false, false] rfl rfl (by kernel_rfl) (fun _ _ _ h => h) (Or.inl ⟨by rfl, ?_⟩) ?_ ?_
  rotate_left
  · intro w'
    go_simp
    with_reducible rfl
  rotate_left
  · simp only [Act.put, List.setIfInBounds_toArray, List.set_cons_zero, List.set_cons_succ, i64_w, i32_w]
    rfl
  refine pure_ (i := 5) (N := some 49) (v := ?_) (a' := ?_) #[true, true, true, false, true, true, false, false, false, false, false] rfl rfl (by kernel_rfl) (fun _ _ _ h => h) (Or.inl ⟨by rfl, ?_⟩) ?_ ?_
  rotate_left
  · intro w'
    go_simp
    with_reducible rfl
  rotate_left
  · simp only [Act.put, List.setIfInBounds_toArray, List.set_cons_zero, List.set_cons_succ, i64_w, i32_w]
    rfl
  refine pure_ (i := 6) (N := some 50) (v := ?_) (a' := ?_) #[true, true, true, false, true, true, true, false, false, false, false] rfl rfl (by kernel_rfl) (fun _ _ _ h => h) (Or.inl ⟨by rfl, ?_⟩) ?_ ?_
  rotate_left
  · intro w'
    go_simp
    with_reducible rfl
  rotate_left
  · simp only [Act.put, List.setIfInBounds_toArray, List.set_cons_zero, List.set_cons_succ, i64_w, i32_w]
    rfl
  refine pure_ (i := 8) (N := some 52) (v := ?_) (a' := ?_) #[true, true, true, false, true, true, true, false, true, false, false] rfl rfl (by kernel_rfl) (fun _ _ _ h => h) (Or.inl ⟨by rfl, ?_⟩) ?_ ?_
  rotate_left
  · intro w'
    go_simp
    with_reducible rfl
  rotate_left
  · simp only [Act.put, List.setIfInBounds_toArray, List.set_cons_zero, List.set_cons_succ, i64_w, i32_w]
    rfl
  refine take_ (i := 3) (N := some 47) (v := ?_) (a' := ?_) #[true, true, true, true, true, true, true, false, true, false, false] rfl rfl (by kernel_rfl) (fun _ _ _ h => h) (Or.inl ⟨by rfl, ?_⟩) hHeld ?_ ?_
  rotate_left
  · rintro w' ⟨s0, s1, s2⟩
    go_simp
    with_reducible rfl
  rotate_left
  · simp only [Act.put, List.setIfInBounds_toArray, List.set_cons_zero, List.set_cons_succ, i64_w, i32_w]
    rfl
  refine take_ (i := 7) (N := some 51) (v := ?_) (a' := ?_) #[true, true, true, true, true, true, true, true, true, false, false] rfl rfl (by kernel_rfl) (fun _ _ _ h => h) (Or.inl ⟨by rfl, ?_⟩) hHeld ?_ ?_
  rotate_left
  · rintro w' ⟨s0, s1, s2⟩
    go_simp
    with_reducible rfl
  rotate_left
  · simp only [Act.put, List.setIfInBounds_toArray, List.set_cons_zero, List.set_cons_succ, i64_w, i32_w]
    rfl
  refine one_ (i := 9) (N := some 53) #[true, true, true, true, true, true, true, true, true, true, false] rfl rfl (by kernel_rfl) (by decide) (fun K hK => ?_)
  refine goes_ Try.func78 (by kernel_rfl) rfl #[.agg #[.int .u64 low, .int .u64 high], .int .i64 (likely kind (rd st i))] (by rfl) rfl rfl (by simp only [List.map_toArray, List.map_cons, List.map_nil]; rfl) ?_
  with_reducible refine ((HMID _).out).mono ?_
  rintro e w4 ⟨rfl, hb4⟩
  refine ⟨_, rfl, ?_⟩
  have HE4 := Aside0.mk (HE3.out.below hb4)
  have HM4 := Aside0.mk (HM3.out.below hb4)
  clear hb4
  refine hK.out _ _ ⟨HE4.out.c2, HE4.out.c3, HE4.out.c6⟩ (fun hHeld => ?_)
  clear hK K
  refine norm_ (a' := ?_) ?_ ?_
  rotate_left
  · show Act.put _ (some 53) _ = _
    simp only [Act.put, List.setIfInBounds_toArray, List.set_cons_zero, List.set_cons_succ, i64_w, i32_w]
    rfl
  refine pure_ (i := 10) (N := some 54) (v := ?_) (a' := ?_) #[true, true, true, true, true, true, true, true, true, true, true] rfl rfl (by kernel_rfl) (fun _ _ _ h => h) (Or.inl ⟨by rfl, ?_⟩) ?_ ?_
  rotate_left
  · intro w'
    go_simp
    with_reducible rfl
  rotate_left
  · simp only [Act.put, List.setIfInBounds_toArray, List.set_cons_zero, List.set_cons_succ, i64_w, i32_w]
    rfl
  refine done_ (by kernel_rfl) ?_
  clear k2 k3 k6 HE3 HM3
  go_wp2
  have HE4 := Aside0.mk HE4.out.drew
  have HM4 := Aside0.mk HM4.out.drew
  have p2 := HE4.out.c2
  have p3 := HE4.out.c3
  have p5 := HE4.out.c5
  have p6 := HE4.out.c6
  refine start_ (n := 19) (S := fun w' => w'.cell? ⟨g, 2, none⟩ = some (.int .u64 low) ∧ w'.cell? ⟨g, 3, none⟩ = some (.int .u64 high) ∧ w'.cell? ⟨g, 5, none⟩ = some (.int .i64 a) ∧ w'.cell? ⟨g, 6, none⟩ = some (.int .u64 value)) (ds := []) #[false, false, false, false, false, false, false, false, false, false, false, false, false, false, false, false, false, false, false] (by kernel_rfl) rfl rfl ⟨p2, p3, p5, p6⟩ (fun hHeld => ?_)
  generalize w4.drew = wd at p2 p3 p5 p6 HE4 HM4 hHeld ⊢
  refine pure_ (i := 0) (N := some 55) (v := ?_) (a' := ?_) #[true, false, false, false, false, false, false, false, false, false, false, false, false, false, false, false, false, false, false] rfl rfl (by kernel_rfl) (fun _ _ _ h => h) (Or.inl ⟨by rfl, ?_⟩) ?_ ?_
  rotate_left
  · intro w'
    go_simp
    with_reducible rfl
  rotate_left
  · simp only [Act.put, List.setIfInBounds_toArray, List.set_cons_zero, List.set_cons_succ, i64_w, i32_w]
    rfl
  refine pure_ (i := 1) (N := some 56) (v := ?_) (a' := ?_) #[true, true, false, false, false, false, false, false, false, false, false, false, false, false, false, false, false, false, false] rfl rfl (by kernel_rfl) (fun _ _ _ h => h) (Or.inl ⟨by rfl, ?_⟩) ?_ ?_
  rotate_left
  · intro w'
    go_simp
    with_reducible rfl
  rotate_left
  · simp only [Act.put, List.setIfInBounds_toArray, List.set_cons_zero, List.set_cons_succ, i64_w, i32_w]
    rfl
  refine pure_ (i := 2) (N := some 57) (v := ?_) (a' := ?_) #[true, true, true, false, false, false, false, false, false, false, false, false, false, false, false, false, false, false, false] rfl rfl (by kernel_rfl) (fun _ _ _ h => h) (Or.inl ⟨by rfl, ?_⟩) ?_ ?_
  rotate_left
  · intro w'
    go_simp
    with_reducible rfl
  rotate_left
  · simp only [Act.put, List.setIfInBounds_toArray, List.set_cons_zero, List.set_cons_succ, i64_w, i32_w]
    rfl
  refine pure_ (i := 4) (N := some 59) (v := ?_) (a' := ?_) #[true, true, true, false, true, false, false, false, false, false, false, false, false, false, false, false, false, false, false] rfl rfl (by kernel_rfl) (fun _ _ _ h => h) (Or.inl ⟨by rfl, ?_⟩) ?_ ?_
  rotate_left
  · intro w'
    go_simp
    with_reducible rfl
  rotate_left
  · simp only [Act.put, List.setIfInBounds_toArray, List.set_cons_zero, List.set_cons_succ, i64_w, i32_w]
    rfl
  refine pure_ (i := 5) (N := some 60) (v := ?_) (a' := ?_) #[true, true, true, false, true, true, false, false, false, false, false, false, false, false, false, false, false, false, false] rfl rfl (by kernel_rfl) (fun _ _ _ h => h) (Or.inl ⟨by rfl, ?_⟩) ?_ ?_
  rotate_left
  · intro w'
    go_simp
    with_reducible rfl
  rotate_left
  · simp only [Act.put, List.setIfInBounds_toArray, List.set_cons_zero, List.set_cons_succ, i64_w, i32_w]
    rfl
  refine pure_ (i := 7) (N := some 62) (v := ?_) (a' := ?_) #[true, true, true, false, true, true, false, true, false, false, false, false, false, false, false, false, false, false, false] rfl rfl (by kernel_rfl) (fun _ _ _ h => h) (Or.inl ⟨by rfl, ?_⟩) ?_ ?_
  rotate_left
  · intro w'
    go_simp
    with_reducible rfl
  rotate_left
  · simp only [Act.put, List.setIfInBounds_toArray, List.set_cons_zero, List.set_cons_succ, i64_w, i32_w]
    rfl
  refine pure_ (i := 8) (N := some 63) (v := ?_) (a' := ?_) #[true, true, true, false, true, true, false, true, true, false, false, false, false, false, false, false, false, false, false] rfl rfl (by kernel_rfl) (fun _ _ _ h => h) (Or.inl ⟨by rfl, ?_⟩) ?_ ?_
  rotate_left
  · intro w'
    go_simp
    with_reducible rfl
  rotate_left
  · simp only [Act.put, List.setIfInBounds_toArray, List.set_cons_zero, List.set_cons_succ, i64_w, i32_w]
    rfl
  refine pure_ (i := 9) (N := some 64) (v := ?_) (a' := ?_) #[true, true, true, false, true, true, false, true, true, true, false, false, false, false, false, false, false, false, false] rfl rfl (by kernel_rfl) (fun _ _ _ h => h) (Or.inl ⟨by rfl, ?_⟩) ?_ ?_
  rotate_left
  · intro w'
    go_simp
    with_reducible rfl
  rotate_left
  · simp only [Act.put, List.setIfInBounds_toArray, List.set_cons_zero, List.set_cons_succ, i64_w, i32_w]
    rfl
  refine pure_ (i := 11) (N := some 66) (v := ?_) (a' := ?_) #[true, true, true, false, true, true, false, true, true, true, false, true, false, false, false, false, false, false, false] rfl rfl (by kernel_rfl) (fun _ _ _ h => h) (Or.inl ⟨by rfl, ?_⟩) ?_ ?_
  rotate_left
  · intro w'
    go_simp
    with_reducible rfl
  rotate_left
  · simp only [Act.put, List.setIfInBounds_toArray, List.set_cons_zero, List.set_cons_succ, i64_w, i32_w]
    rfl
  refine pure_ (i := 12) (N := some 67) (v := ?_) (a' := ?_) #[true, true, true, false, true, true, false, true, true, true, false, true, true, false, false, false, false, false, false] rfl rfl (by kernel_rfl) (fun _ _ _ h => h) (Or.inl ⟨by rfl, ?_⟩) ?_ ?_
  rotate_left
  · intro w'
    go_simp
    with_reducible rfl
  rotate_left
  · simp only [Act.put, List.setIfInBounds_toArray, List.set_cons_zero, List.set_cons_succ, i64_w, i32_w]
    rfl
  refine pure_ (i := 13) (N := some 68) (v := ?_) (a' := ?_) #[true, true, true, false, true, true, false, true, true, true, false, true, true, true, false, false, false, false, false] rfl rfl (by kernel_rfl) (fun _ _ _ h => h) (Or.inl ⟨by rfl, ?_⟩) ?_ ?_
  rotate_left
  · intro w'
    go_simp
    with_reducible rfl
  rotate_left
  · simp only [Act.put, List.setIfInBounds_toArray, List.set_cons_zero, List.set_cons_succ, i64_w, i32_w]
    rfl
  refine take_ (i := 3) (N := some 58) (v := ?_) (a' := ?_) #[true, true, true, true, true, true, false, true, true, true, false, true, true, true, false, false, false, false, false] rfl rfl (by kernel_rfl) (fun _ _ _ h => h) (Or.inl ⟨by rfl, ?_⟩) hHeld ?_ ?_
  rotate_left
  · rintro w' ⟨s0, s1, s2, s3⟩
    go_simp
    with_reducible rfl
  rotate_left
  · simp only [Act.put, List.setIfInBounds_toArray, List.set_cons_zero, List.set_cons_succ, i64_w, i32_w]
    rfl
  refine take_ (i := 10) (N := some 65) (v := ?_) (a' := ?_) #[true, true, true, true, true, true, false, true, true, true, true, true, true, true, false, false, false, false, false] rfl rfl (by kernel_rfl) (fun _ _ _ h => h) (Or.inl ⟨by rfl, ?_⟩) hHeld ?_ ?_
  rotate_left
  · rintro w' ⟨s0, s1, s2, s3⟩
    go_simp
    with_reducible rfl
  rotate_left
  · simp only [Act.put, List.setIfInBounds_toArray, List.set_cons_zero, List.set_cons_succ, i64_w, i32_w]
    rfl
  refine take_ (i := 14) (N := some 69) (v := ?_) (a' := ?_) #[true, true, true, true, true, true, false, true, true, true, true, true, true, true, true, false, false, false, false] rfl rfl (by kernel_rfl) (fun _ _ _ h => h) (Or.inl ⟨by rfl, ?_⟩) hHeld ?_ ?_
  rotate_left
  · rintro w' ⟨s0, s1, s2, s3⟩
    go_simp
    with_reducible rfl
  rotate_left
  · simp only [Act.put, List.setIfInBounds_toArray, List.set_cons_zero, List.set_cons_succ, i64_w, i32_w]
    rfl
  refine join_ (σ := Nat) 3 #[true, true, true, true, true, true, true, true, true, true, true, true, true, true, true, true, false, false, false] (fun s => [(61, .agg #[.int .u64 (cutL low mid 0), .int .u64 (cutH high mid 0)]), (8, .pointer (some ⟨s, 0, none⟩))]) (fun s w' => w'.heap[s]? = some (.cells #[.int .u64 0, .int .u64 0] 101 (0, 0)) ∧ wd.heap.size ≤ s ∧ Below wd.heap.size wd w') ?_ ?_
  rotate_left
  · intro hCont
    refine two_ (i := 6) (j := 15) (Ni := some 61) (Nj := some 8) #[true, true, true, true, true, true, true, true, true, true, true, true, true, true, true, false, false, false, false] #[true, true, true, true, true, true, false, true, true, true, true, true, true, true, true, true, false, false, false] rfl rfl rfl rfl (by kernel_rfl) (by decide) (by decide) (fun K hK => ?_) (fun K hK => ?_)
    · skip
      refine goes_ Try.func79 (by kernel_rfl) rfl #[.agg #[.int .u64 low, .int .u64 high], .int .i64 (likely kind (rd st i)), .int .i64 0] (by rfl) rfl rfl (by simp only [List.map_toArray, List.map_cons, List.map_nil]; rfl) ?_
      with_reducible refine ((HP _).out).mono ?_
      rintro e wk ⟨rfl, hk⟩
      refine ⟨_, rfl, ?_⟩
      have t2 := pw_cell_below hk p2
      have t3 := pw_cell_below hk p3
      have t5 := pw_cell_below hk p5
      have t6 := pw_cell_below hk p6
      refine hK.out _ _ ⟨t2, t3, t5, t6⟩ (fun hHeld => ?_)
      clear hK K
      refine norm_ (a' := ?_) ?_ ?_
      rotate_left
      · show Act.put _ (some 61) _ = _
        simp only [Act.put, List.setIfInBounds_toArray, List.set_cons_zero, List.set_cons_succ, i64_w, i32_w]
        rfl
      refine one_ (i := 15) (N := some 8) #[true, true, true, true, true, true, true, true, true, true, true, true, true, true, true, true, false, false, false] rfl rfl (by kernel_rfl) (by decide) (fun K hK => ?_)
      refine value_ (w1 := ?_) (v := ?_) (by rfl) rfl ?_ ?_
      rotate_left 2
      · go_simp
        constructor
        · rfl
        · rfl
      refine hK.out _ _ ⟨pw_cell_below (below_alloc (Below.refl _ _) _) t2, pw_cell_below (below_alloc (Below.refl _ _) _) t3, pw_cell_below (below_alloc (Below.refl _ _) _) t5, pw_cell_below (below_alloc (Below.refl _ _) _) t6⟩ (fun hHeld => ?_)
      clear hK K
      refine norm_ (a' := ?_) ?_ ?_
      rotate_left
      · show Act.put _ (some 8) _ = _
        simp only [Act.put, List.setIfInBounds_toArray, List.set_cons_zero, List.set_cons_succ, i64_w, i32_w]
        rfl
      exact norm_ (by simp only [putAll, Act.put, List.setIfInBounds_toArray, List.set_cons_zero, List.set_cons_succ]) (hCont wk.heap.size _ ⟨blk_new _ _, hk.size, below_alloc hk _⟩)
    · skip
      refine value_ (w1 := ?_) (v := ?_) (by rfl) rfl ?_ ?_
      rotate_left 2
      · go_simp
        constructor
        · rfl
        · rfl
      refine hK.out _ _ ⟨pw_cell_below (below_alloc (Below.refl _ _) _) p2, pw_cell_below (below_alloc (Below.refl _ _) _) p3, pw_cell_below (below_alloc (Below.refl _ _) _) p5, pw_cell_below (below_alloc (Below.refl _ _) _) p6⟩ (fun hHeld => ?_)
      clear hK K
      refine norm_ (a' := ?_) ?_ ?_
      rotate_left
      · show Act.put _ (some 8) _ = _
        simp only [Act.put, List.setIfInBounds_toArray, List.set_cons_zero, List.set_cons_succ, i64_w, i32_w]
        rfl
      refine one_ (i := 6) (N := some 61) #[true, true, true, true, true, true, true, true, true, true, true, true, true, true, true, true, false, false, false] rfl rfl (by kernel_rfl) (by decide) (fun K hK => ?_)
      refine goes_ Try.func79 (by kernel_rfl) rfl #[.agg #[.int .u64 low, .int .u64 high], .int .i64 (likely kind (rd st i)), .int .i64 0] (by rfl) rfl rfl (by simp only [List.map_toArray, List.map_cons, List.map_nil]; rfl) ?_
      with_reducible refine ((HP _).out).mono ?_
      rintro e wk ⟨rfl, hk⟩
      refine ⟨_, rfl, ?_⟩
      have t2 := pw_cell_below hk (pw_cell_below (below_alloc (Below.refl _ _) _) p2)
      have t3 := pw_cell_below hk (pw_cell_below (below_alloc (Below.refl _ _) _) p3)
      have t5 := pw_cell_below hk (pw_cell_below (below_alloc (Below.refl _ _) _) p5)
      have t6 := pw_cell_below hk (pw_cell_below (below_alloc (Below.refl _ _) _) p6)
      refine hK.out _ _ ⟨t2, t3, t5, t6⟩ (fun hHeld => ?_)
      clear hK K
      refine norm_ (a' := ?_) ?_ ?_
      rotate_left
      · show Act.put _ (some 61) _ = _
        simp only [Act.put, List.setIfInBounds_toArray, List.set_cons_zero, List.set_cons_succ, i64_w, i32_w]
        rfl
      exact norm_ (by simp only [putAll, Act.put, List.setIfInBounds_toArray, List.set_cons_zero, List.set_cons_succ]) (hCont wd.heap.size _ ⟨blk_below (blk_new _ _) hk, Nat.le_refl _, below_then (below_alloc (Below.refl _ _) _) (by simp) hk⟩)
  rintro q w5 ⟨hq, hqs, hqb⟩
  have t2 := pw_cell_below hqb p2
  have t3 := pw_cell_below hqb p3
  have t5 := pw_cell_below hqb p5
  have t6 := pw_cell_below hqb p6
  have hHeld : w5.cell? ⟨g, 2, none⟩ = some (.int .u64 low) ∧ w5.cell? ⟨g, 3, none⟩ = some (.int .u64 high) ∧ w5.cell? ⟨g, 5, none⟩ = some (.int .i64 a) ∧ w5.cell? ⟨g, 6, none⟩ = some (.int .u64 value) := ⟨t2, t3, t5, t6⟩
  have z0 : w5.cell? ⟨q, 0, none⟩ = some (.int .u64 0) := (blk_cell hq 0).trans rfl
  have z1 : w5.cell? ⟨q, 1, none⟩ = some (.int .u64 0) := (blk_cell hq 1).trans rfl
  have zf0 := blk_frozen hq 0
  have zf1 := blk_frozen hq 1
  have HQ := Aside0.mk hq
  have HQS := Aside0.mk hqs
  have HQB := Aside0.mk hqb
  clear hq hqs hqb
  refine norm_ (a' := ?_) ?_ ?_
  rotate_left
  · simp only [putAll, Act.put, List.setIfInBounds_toArray, List.set_cons_zero, List.set_cons_succ]
    rfl
  refine one_ (i := 16) (N := none) #[true, true, true, true, true, true, true, true, true, true, true, true, true, true, true, true, true, false, false] rfl rfl (by kernel_rfl) (by decide) (fun K hK => ?_)
  refine skip_ (w1 := ?_) (by rfl) rfl ?_ ?_
  rotate_left
  · go_simp
    rfl
  refine hK.out _ _ ⟨pw_cell_below ((HQB.out.setCell (p := ⟨q, 0, none⟩) HQS.out _).setCell (p := ⟨q, 1, none⟩) HQS.out _) p2, pw_cell_below ((HQB.out.setCell (p := ⟨q, 0, none⟩) HQS.out _).setCell (p := ⟨q, 1, none⟩) HQS.out _) p3, pw_cell_below ((HQB.out.setCell (p := ⟨q, 0, none⟩) HQS.out _).setCell (p := ⟨q, 1, none⟩) HQS.out _) p5, pw_cell_below ((HQB.out.setCell (p := ⟨q, 0, none⟩) HQS.out _).setCell (p := ⟨q, 1, none⟩) HQS.out _) p6⟩ (fun hHeld => ?_)
  clear hK K
  refine pure_ (i := 17) (N := some 9) (v := ?_) (a' := ?_) #[true, true, true, true, true, true, true, true, true, true, true, true, true, true, true, true, true, true, false] rfl rfl (by kernel_rfl) (fun _ _ _ h => h) (Or.inl ⟨by rfl, ?_⟩) ?_ ?_
  rotate_left
  · intro w'
    go_simp
    with_reducible rfl
  rotate_left
  · simp only [Act.put, List.setIfInBounds_toArray, List.set_cons_zero, List.set_cons_succ, i64_w, i32_w]
    rfl
  refine pure_ (i := 18) (N := some 10) (v := ?_) (a' := ?_) #[true, true, true, true, true, true, true, true, true, true, true, true, true, true, true, true, true, true, true] rfl rfl (by kernel_rfl) (fun _ _ _ h => h) (Or.inl ⟨by rfl, ?_⟩) ?_ ?_
  rotate_left
  · intro w'
    go_simp
    with_reducible rfl
  rotate_left
  · simp only [Act.put, List.setIfInBounds_toArray, List.set_cons_zero, List.set_cons_succ, i64_w, i32_w]
    rfl
  refine done_ (by kernel_rfl) ?_
  obtain ⟨w6, hw6⟩ : ∃ w6, w6 = (w5.setCell ⟨q, 0, none⟩ (.int .u64 (cutL low mid 0))).setCell ⟨q, 1, none⟩ (.int .u64 (cutH high mid 0)) := ⟨_, rfl⟩
  rw [← hw6]
  have hB6 : Below wd.heap.size wd w6 := hw6 ▸ (HQB.out.setCell (p := ⟨q, 0, none⟩) HQS.out _).setCell (p := ⟨q, 1, none⟩) HQS.out _
  have hq1 : (w5.setCell ⟨q, 0, none⟩ (.int .u64 (cutL low mid 0))).heap[q]? = some (.cells #[.int .u64 (cutL low mid 0), .int .u64 0] 101 (0, 0)) := blk_put (cs := #[.int .u64 0, .int .u64 0]) HQ.out 0 _ rfl
  have HQ6 := Aside0.mk (show w6.heap[q]? = some (.cells #[.int .u64 (cutL low mid 0), .int .u64 (cutH high mid 0)] 101 (0, 0)) from hw6 ▸ blk_put (cs := #[.int .u64 (cutL low mid 0), .int .u64 0]) hq1 1 _ rfl)
  have HE6 := Aside0.mk (HE4.out.below hB6)
  have HM6 := Aside0.mk (HM4.out.below hB6)
  have hqn : ¬ S q := fun hk => by have h1 := HSB.out q hk; have h2 := HM4.out.size; have h3 := HQS.out; omega
  have hgq : g ≠ q := fun he => hqn (he ▸ hSg)
  have HQN := Aside0.mk hqn
  have HQS2 := Aside0.mk (show w.heap.size ≤ q from Nat.le_trans HM4.out.size HQS.out)
  clear hw6 hB6 hq1 hqn HE4 HM4 HQ HQS HQB z0 z1 zf0 zf1 t2 t3 t5 t6 p2 p3 p5 p6
  go_wp2
  skip
  go_loopg [9, 10] 4 (fun d s9 s10 wr => ∃ (l h : Int) (n : List Int) (k : Nat) (v : Int), s9 = .int .i64 k ∧ s10 = .int .u64 v ∧ (0 ≤ v ∧ v ≤ 4294967295) ∧ Aside0 (k = a + n.length ∧ v = shV code n.length value a) ∧ Aside0 (RDecRow wr S g kind (some ⟨b, 0, none⟩) c st low high (.slice Ac code.length cc) code a value ((a - code.length : Nat) : Int) false) ∧ Aside0 (Mods w wr S) ∧ Aside0 (wr.heap[q]? = some (.cells #[.int .u64 l, .int .u64 h] 101 (0, 0))) ∧ Aside0 (PutInv [] (cutL low mid 0) (cutH high mid 0) d l h n))
  case atStart => exact ⟨_, _, [], a, value, rfl, rfl, ⟨hv0, hv1⟩, ⟨rfl, rfl⟩, HE6, HM6, HQ6, HI⟩
  clear HE6 HM6 HQ6 HI
  case round =>
    obtain ⟨l, h, n, k, v, rfl, rfl, hv, HKV, HE7, HM7, HQ7, HPI⟩ := hrel
    have hp0 := HPI.out.l0
    have hp1 := HPI.out.lh
    have hp2 := HPI.out.h0
    have hp3 := HPI.out.len
    rw [List.length_nil] at hp3
    have hka : k ≤ 2199023255552 := by have := HKV.out.1; omega
    have hs7 := fixed_calls l h
    have z0 : wr.cell? ⟨q, 0, none⟩ = some (.int .u64 l) := (blk_cell HQ7.out 0).trans rfl
    have z1 : wr.cell? ⟨q, 1, none⟩ = some (.int .u64 h) := (blk_cell HQ7.out 1).trans rfl
    by_cases cx : l / 16777216 = h / 16777216
    · rw [decide_eq_true cx] at hs7
      have HSA := Aside0.mk hs7
      clear hs7
      obtain ⟨d', hd', hP'⟩ := HPI.out.step cx
      have HP' := Aside0.mk hP'
      have HD := Aside0.mk hd'
      have hbr := byteOf_range HBY.out k
      clear hd' hP' cx
      go_wp2_with (first
        | (go_at_call 80; refine (HSA.out _).mono ?_; rintro e w8 ⟨rfl, hb8⟩; have HE8 := Aside0.mk (HE7.out.below hb8); have HM8 := Aside0.mk (HM7.out.below hb8); have HQ8 := Aside0.mk (blk_below HQ7.out hb8); have z0 : w8.cell? ⟨q, 0, none⟩ = some (.int .u64 l) := (blk_cell HQ8.out 0).trans rfl; have z1 : w8.cell? ⟨q, 1, none⟩ = some (.int .u64 h) := (blk_cell HQ8.out 1).trans rfl; clear hb8)
        | (go_at_call 81; refine (shift_calls l h _ hp0 (by omega) (by omega) hp2).mono ?_; rintro e w9 ⟨rfl, hb9⟩; have HE9 := Aside0.mk (HE8.out.below hb9); have HM9 := Aside0.mk (HM8.out.below hb9); have HQ9 := Aside0.mk (blk_below HQ8.out hb9); have z0 : w9.cell? ⟨q, 0, none⟩ = some (.int .u64 l) := (blk_cell HQ9.out 0).trans rfl; have z1 : w9.cell? ⟨q, 1, none⟩ = some (.int .u64 h) := (blk_cell HQ9.out 1).trans rfl; have zf0 := blk_frozen HQ9.out 0; have zf1 := blk_frozen HQ9.out 1; have k4 := HE9.out.c4; clear hb9))
      obtain ⟨w10, hw10⟩ : ∃ w10, w10 = (w9.setCell ⟨q, 0, none⟩ (.int .u64 (l % 16777216 * 256))).setCell ⟨q, 1, none⟩ (.int .u64 (h % 16777216 * 256 + 255)) := ⟨_, rfl⟩
      rw [← hw10]
      have hq10 : (w9.setCell ⟨q, 0, none⟩ (.int .u64 (l % 16777216 * 256))).heap[q]? = some (.cells #[.int .u64 (l % 16777216 * 256), .int .u64 h] 101 (0, 0)) := blk_put (cs := #[.int .u64 l, .int .u64 h]) HQ9.out 0 _ rfl
      have HQ10 := Aside0.mk (show w10.heap[q]? = some (.cells #[.int .u64 (l % 16777216 * 256), .int .u64 (h % 16777216 * 256 + 255)] 101 (0, 0)) from hw10 ▸ blk_put (cs := #[.int .u64 (l % 16777216 * 256), .int .u64 h]) hq10 1 _ rfl)
      have HE10 := Aside0.mk (show RDecRow w10 S g kind (some ⟨b, 0, none⟩) c st low high (.slice Ac code.length cc) code a value ((a - code.length : Nat) : Int) false from hw10 ▸ (HE9.out.far (p := ⟨q, 0, none⟩) HQN.out _).far (p := ⟨q, 1, none⟩) HQN.out _)
      have hqs : w.heap.size ≤ q := by have h1 := HQS2.out; omega
      have HM10 := Aside0.mk (show Mods w w10 S from hw10 ▸ (HM9.out.setCell (p := ⟨q, 0, none⟩) (.inr hqs) _).setCell (p := ⟨q, 1, none⟩) (.inr hqs) _)
      clear hw10 hq10 hqs z0 z1 zf0 zf1 k4 HE9 HM9 HQ9 HE8 HM8 HQ8
      refine (byte_calls Ac cc code k _ (Kd.R_reads' HE10.out.o).2.2 HBY.out).mono ?_
      rintro e w11 ⟨rfl, rfl⟩
      go_wp2
      go_roundg d'
      case measure => have := HD.out; omega
      case rel =>
        have h1 := HKV.out
        refine ⟨_, _, _, k + 1, _, rfl, rfl, by omega, ⟨?_, ?_⟩, HE10, HM10, HQ10, HP'⟩
        · rw [List.length_append, List.length_cons, List.length_nil, h1.1]
          omega
        · rw [List.length_append, List.length_cons, List.length_nil, Nat.zero_add, shV_succ, ← h1.2, ← h1.1]
    · rw [decide_eq_false cx] at hs7
      have HSA := Aside0.mk hs7
      clear hs7
      have HCC := Aside0.mk (HPI.out.done cx)
      clear cx
      have HN := Aside0.mk (show normE 4 (cutL low mid 0) (cutH high mid 0) = (n, l, h) from by
        have h1 := HCC.out
        rw [List.nil_append] at h1
        exact Prod.ext h1.1.symm h1.2)
      obtain ⟨be, hbe⟩ : ∃ be : Nat, k - code.length = be := ⟨_, rfl⟩
      have HBE := Aside0.mk hbe
      have hbk : be ≤ 2199023255552 := by omega
      by_cases hb4 : (be : Int) > 4
      · have HB4 := Aside0.mk hb4
        go_wp2_with (go_at_call 80; refine (HSA.out _).mono ?_; rintro e w8 ⟨rfl, hb8⟩; have HE8 := Aside0.mk (HE7.out.below hb8); have HM8 := Aside0.mk (HM7.out.below hb8); have k4 := HE8.out.c4; have k8 := HE8.out.c8; have f8 := HE8.out.fz 8; clear hb8)
        go_ret2
        have h1 := HKV.out
        refine ⟨⟨l, h, n, HN.out, .inl ⟨by have := HB4.out; have := HBE.out; omega, rfl, HE8.out.put 8 _ rfl⟩⟩, HM8.out.setCell (.inl hSg) _⟩
      · have HB4 := Aside0.mk hb4
        go_wp2_with (go_at_call 80; refine (HSA.out _).mono ?_; rintro e w8 ⟨rfl, hb8⟩; have HE8 := Aside0.mk (HE7.out.below hb8); have HM8 := Aside0.mk (HM7.out.below hb8); have HQ8 := Aside0.mk (blk_below HQ7.out hb8); have k4 := HE8.out.c4; clear hb8)
        have HE8 := Aside0.mk HE8.out.drew
        have HM8 := Aside0.mk HM8.out.drew
        have HQ8 := Aside0.mk (blk_drew HQ8.out)
        have k0 := HE8.out.c0
        have k1 := HE8.out.c1
        have ks : w8.drew.cell? ⟨b, i, none⟩ = some (.int .i64 (rd st i)) := by obtain ⟨b', hA, hc, _⟩ := HE8.out.cell hi; cases hA; exact hc
        clear k4
        refine start_ (n := 23) (S := fun w' => w'.cell? ⟨g, 0, none⟩ = some (.int .i64 kind) ∧ w'.cell? ⟨g, 1, none⟩ = some (.slice (some ⟨b, 0, none⟩) st.length c) ∧ w'.cell? ⟨b, i, none⟩ = some (.int .i64 (rd st i))) (ds := [22]) #[false, false, false, false, false, false, false, false, false, false, false, false, false, false, false, false, false, false, false, false, false, false, false] (by kernel_rfl) rfl rfl ⟨k0, k1, ks⟩ (fun hHeld => ?_)
        refine pure_ (i := 0) (N := some 99) (v := ?_) (a' := ?_) #[true, false, false, false, false, false, false, false, false, false, false, false, false, false, false, false, false, false, false, false, false, false, false] rfl rfl (by kernel_rfl) (fun _ _ _ h => h) (Or.inl ⟨by rfl, ?_⟩) ?_ ?_
        rotate_left
        · intro w'
          go_simp
          with_reducible rfl
        rotate_left
        · simp only [Act.put, List.setIfInBounds_toArray, List.set_cons_zero, List.set_cons_succ, i64_w, i32_w]
          rfl
        refine pure_ (i := 1) (N := some 100) (v := ?_) (a' := ?_) #[true, true, false, false, false, false, false, false, false, false, false, false, false, false, false, false, false, false, false, false, false, false, false] rfl rfl (by kernel_rfl) (fun _ _ _ h => h) (Or.inl ⟨by rfl, ?_⟩) ?_ ?_
        rotate_left
        · intro w'
          go_simp
          with_reducible rfl
        rotate_left
        · simp only [Act.put, List.setIfInBounds_toArray, List.set_cons_zero, List.set_cons_succ, i64_w, i32_w]
          rfl
        refine pure_ (i := 2) (N := some 101) (v := ?_) (a' := ?_) #[true, true, true, false, false, false, false, false, false, false, false, false, false, false, false, false, false, false, false, false, false, false, false] rfl rfl (by kernel_rfl) (fun _ _ _ h => h) (Or.inl ⟨by rfl, ?_⟩) ?_ ?_
        rotate_left
        · intro w'
          go_simp
          with_reducible rfl
        rotate_left
        · simp only [Act.put, List.setIfInBounds_toArray, List.set_cons_zero, List.set_cons_succ, i64_w, i32_w]
          rfl
        refine pure_ (i := 3) (N := some 102) (v := ?_) (a' := ?_) #[true, true, true, true, false, false, false, false, false, false, false, false, false, false, false, false, false, false, false, false, false, false, false] rfl rfl (by kernel_rfl) (fun _ _ _ h => h) (Or.inl ⟨by rfl, ?_⟩) ?_ ?_
        rotate_left
        · intro w'
          go_simp
          with_reducible rfl
        rotate_left
        · simp only [Act.put, List.setIfInBounds_toArray, List.set_cons_zero, List.set_cons_succ, i64_w, i32_w]
          rfl
        refine pure_ (i := 5) (N := some 104) (v := ?_) (a' := ?_) #[true, true, true, true, false, true, false, false, false, false, false, false, false, false, false, false, false, false, false, false, false, false, false] rfl rfl (by kernel_rfl) (fun _ _ _ h => h) (Or.inl ⟨by rfl, ?_⟩) ?_ ?_
        rotate_left
        · intro w'
          go_simp
          with_reducible rfl
        rotate_left
        · simp only [Act.put, List.setIfInBounds_toArray, List.set_cons_zero, List.set_cons_succ, i64_w, i32_w]
          rfl
        refine pure_ (i := 6) (N := some 105) (v := ?_) (a' := ?_) #[true, true, true, true, false, true, true, false, false, false, false, false, false, false, false, false, false, false, false, false, false, false, false] rfl rfl (by kernel_rfl) (fun _ _ _ h => h) (Or.inl ⟨by rfl, ?_⟩) ?_ ?_
        rotate_left
        · intro w'
          go_simp
          with_reducible rfl
        rotate_left
        · simp only [Act.put, List.setIfInBounds_toArray, List.set_cons_zero, List.set_cons_succ, i64_w, i32_w]
          rfl
        refine pure_ (i := 7) (N := some 106) (v := ?_) (a' := ?_) #[true, true, true, true, false, true, true, true, false, false, false, false, false, false, false, false, false, false, false, false, false, false, false] rfl rfl (by kernel_rfl) (fun _ _ _ h => h) (Or.inl ⟨by rfl, ?_⟩) ?_ ?_
        rotate_left
        · intro w'
          go_simp
          with_reducible rfl
        rotate_left
        · simp only [Act.put, List.setIfInBounds_toArray, List.set_cons_zero, List.set_cons_succ, i64_w, i32_w]
          rfl
        refine pure_ (i := 8) (N := some 107) (v := ?_) (a' := ?_) #[true, true, true, true, false, true, true, true, true, false, false, false, false, false, false, false, false, false, false, false, false, false, false] rfl rfl (by kernel_rfl) (fun _ _ _ h => h) (Or.inl ⟨by rfl, ?_⟩) ?_ ?_
        rotate_left
        · intro w'
          go_simp
          with_reducible rfl
        rotate_left
        · simp only [Act.put, List.setIfInBounds_toArray, List.set_cons_zero, List.set_cons_succ, i64_w, i32_w]
          rfl
        refine pure_ (i := 9) (N := some 108) (v := ?_) (a' := ?_) #[true, true, true, true, false, true, true, true, true, true, false, false, false, false, false, false, false, false, false, false, false, false, false] rfl rfl (by kernel_rfl) (fun _ _ _ h => h) (Or.inl ⟨by rfl, ?_⟩) ?_ ?_
        rotate_left
        · intro w'
          go_simp
          with_reducible rfl
        rotate_left
        · simp only [Act.put, List.setIfInBounds_toArray, List.set_cons_zero, List.set_cons_succ, i64_w, i32_w]
          rfl
        refine pure_ (i := 11) (N := some 110) (v := ?_) (a' := ?_) #[true, true, true, true, false, true, true, true, true, true, false, true, false, false, false, false, false, false, false, false, false, false, false] rfl rfl (by kernel_rfl) (fun _ _ _ h => h) (Or.inl ⟨by rfl, ?_⟩) ?_ ?_
        rotate_left
        · intro w'
          go_simp
          with_reducible rfl
        rotate_left
        · simp only [Act.put, List.setIfInBounds_toArray, List.set_cons_zero, List.set_cons_succ, i64_w, i32_w]
          rfl
        refine pure_ (i := 12) (N := some 111) (v := ?_) (a' := ?_) #[true, true, true, true, false, true, true, true, true, true, false, true, true, false, false, false, false, false, false, false, false, false, false] rfl rfl (by kernel_rfl) (fun _ _ _ h => h) (Or.inl ⟨by rfl, ?_⟩) ?_ ?_
        rotate_left
        · intro w'
          go_simp
          with_reducible rfl
        rotate_left
        · simp only [Act.put, List.setIfInBounds_toArray, List.set_cons_zero, List.set_cons_succ, i64_w, i32_w]
          rfl
        refine pure_ (i := 13) (N := some 112) (v := ?_) (a' := ?_) #[true, true, true, true, false, true, true, true, true, true, false, true, true, true, false, false, false, false, false, false, false, false, false] rfl rfl (by kernel_rfl) (fun _ _ _ h => h) (Or.inl ⟨by rfl, ?_⟩) ?_ ?_
        rotate_left
        · intro w'
          go_simp
          with_reducible rfl
        rotate_left
        · simp only [Act.put, List.setIfInBounds_toArray, List.set_cons_zero, List.set_cons_succ, i64_w, i32_w]
          rfl
        refine pure_ (i := 14) (N := some 113) (v := ?_) (a' := ?_) #[true, true, true, true, false, true, true, true, true, true, false, true, true, true, true, false, false, false, false, false, false, false, false] rfl rfl (by kernel_rfl) (fun _ _ _ h => h) (Or.inl ⟨by rfl, ?_⟩) ?_ ?_
        rotate_left
        · intro w'
          go_simp
          with_reducible rfl
        rotate_left
        · simp only [Act.put, List.setIfInBounds_toArray, List.set_cons_zero, List.set_cons_succ, i64_w, i32_w]
          rfl
        refine pure_ (i := 16) (N := some 115) (v := ?_) (a' := ?_) #[true, true, true, true, false, true, true, true, true, true, false, true, true, true, true, false, true, false, false, false, false, false, false] rfl rfl (by kernel_rfl) (fun _ _ _ h => h) (Or.inl ⟨by rfl, ?_⟩) ?_ ?_
        rotate_left
        · intro w'
          go_simp
          with_reducible rfl
        rotate_left
        · simp only [Act.put, List.setIfInBounds_toArray, List.set_cons_zero, List.set_cons_succ, i64_w, i32_w]
          rfl
        refine pure_ (i := 19) (N := some 118) (v := ?_) (a' := ?_) #[true, true, true, true, false, true, true, true, true, true, false, true, true, true, true, false, true, false, false, true, false, false, false] rfl rfl (by kernel_rfl) (fun _ _ _ h => h) (Or.inl ⟨by rfl, ?_⟩) ?_ ?_
        rotate_left
        · intro w'
          go_simp
          with_reducible rfl
        rotate_left
        · simp only [Act.put, List.setIfInBounds_toArray, List.set_cons_zero, List.set_cons_succ, i64_w, i32_w]
          rfl
        refine take_ (i := 4) (N := some 103) (v := ?_) (a' := ?_) #[true, true, true, true, true, true, true, true, true, true, false, true, true, true, true, false, true, false, false, true, false, false, false] rfl rfl (by kernel_rfl) (fun _ _ _ h => h) (Or.inl ⟨by rfl, ?_⟩) hHeld ?_ ?_
        rotate_left
        · rintro w' ⟨s0, s1, s2⟩
          go_simp
          with_reducible rfl
        rotate_left
        · simp only [Act.put, List.setIfInBounds_toArray, List.set_cons_zero, List.set_cons_succ, i64_w, i32_w]
          rfl
        refine take_ (i := 10) (N := some 109) (v := ?_) (a' := ?_) #[true, true, true, true, true, true, true, true, true, true, true, true, true, true, true, false, true, false, false, true, false, false, false] rfl rfl (by kernel_rfl) (fun _ _ _ h => h) (Or.inl ⟨by rfl, ?_⟩) hHeld ?_ ?_
        rotate_left
        · rintro w' ⟨s0, s1, s2⟩
          go_simp
          with_reducible rfl
        rotate_left
        · simp only [Act.put, List.setIfInBounds_toArray, List.set_cons_zero, List.set_cons_succ, i64_w, i32_w]
          rfl
        refine take_ (i := 15) (N := some 114) (v := ?_) (a' := ?_) #[true, true, true, true, true, true, true, true, true, true, true, true, true, true, true, true, true, false, false, true, false, false, false] rfl rfl (by kernel_rfl) (fun _ _ _ h => h) (Or.inl ⟨by rfl, ?_⟩) hHeld ?_ ?_
        rotate_left
        · rintro w' ⟨s0, s1, s2⟩
          go_simp
          with_reducible rfl
        rotate_left
        · simp only [Act.put, List.setIfInBounds_toArray, List.set_cons_zero, List.set_cons_succ, i64_w, i32_w]
          rfl
        refine pure_ (i := 17) (N := some 116) (v := ?_) (a' := ?_) #[true, true, true, true, true, true, true, true, true, true, true, true, true, true, true, true, true, true, false, true, false, false, false] rfl rfl (by kernel_rfl) (fun _ _ _ h => h) (Or.inl ⟨by rfl, ?_⟩) ?_ ?_
        rotate_left
        · intro w'
          go_simp
          with_reducible rfl
        rotate_left
        · simp only [Act.put, List.setIfInBounds_toArray, List.set_cons_zero, List.set_cons_succ, i64_w, i32_w]
          rfl
        refine take_ (i := 18) (N := some 117) (v := ?_) (a' := ?_) #[true, true, true, true, true, true, true, true, true, true, true, true, true, true, true, true, true, true, true, true, false, false, false] rfl rfl (by kernel_rfl) (fun _ _ _ h => h) (Or.inl ⟨by rfl, ?_⟩) hHeld ?_ ?_
        rotate_left
        · rintro w' ⟨s0, s1, s2⟩
          go_simp
          with_reducible rfl
        rotate_left
        · simp only [Act.put, List.setIfInBounds_toArray, List.set_cons_zero, List.set_cons_succ, i64_w, i32_w]
          rfl
        refine one_ (i := 20) (N := some 119) #[true, true, true, true, true, true, true, true, true, true, true, true, true, true, true, true, true, true, true, true, true, false, false] rfl rfl (by kernel_rfl) (by decide) (fun K hK => ?_)
        refine goes_ Try.func82 (by kernel_rfl) rfl #[.int .i64 kind, .int .i64 (rd st i), .int .i64 0] (by rfl) rfl rfl (by simp only [List.map_toArray, List.map_cons, List.map_nil]; rfl) ?_
        with_reducible refine (ref_after kind (rd st i) 0 _ hs (by decide)).mono ?_
        rintro e w9 ⟨rfl, hb9⟩
        refine ⟨_, rfl, ?_⟩
        have HE9 := Aside0.mk (HE8.out.below hb9)
        have HM9 := Aside0.mk (HM8.out.below hb9)
        have HQ9 := Aside0.mk (blk_below HQ8.out hb9)
        have c9 : w9.cell? ⟨b, i, none⟩ = some (.int .i64 (rd st i)) := by obtain ⟨b', hA, hc, _⟩ := HE9.out.cell hi; cases hA; exact hc
        have f9 : w9.frozen? ⟨b, i, none⟩ = false := by obtain ⟨b', hA, _, hf, _⟩ := HE9.out.cell hi; cases hA; exact hf
        clear hb9
        refine hK.out _ _ ⟨HE9.out.c0, HE9.out.c1, c9⟩ (fun hHeld => ?_)
        clear hK K
        refine norm_ (a' := ?_) ?_ ?_
        rotate_left
        · show Act.put _ (some 119) _ = _
          simp only [Act.put, List.setIfInBounds_toArray, List.set_cons_zero, List.set_cons_succ, i64_w, i32_w]
          rfl
        refine pure_ (i := 21) (N := some 120) (v := ?_) (a' := ?_) #[true, true, true, true, true, true, true, true, true, true, true, true, true, true, true, true, true, true, true, true, true, true, false] rfl rfl (by kernel_rfl) (fun _ _ _ h => h) (Or.inl ⟨by rfl, ?_⟩) ?_ ?_
        rotate_left
        · intro w'
          go_simp
          with_reducible rfl
        rotate_left
        · simp only [Act.put, List.setIfInBounds_toArray, List.set_cons_zero, List.set_cons_succ, i64_w, i32_w]
          rfl
        refine last_ (i := 22) (N := none) #[true, true, true, true, true, true, true, true, true, true, true, true, true, true, true, true, true, true, true, true, true, true, true] rfl rfl (by kernel_rfl) (by decide) (fun K hK => ?_)
        refine skip_ (w1 := ?_) (by rfl) rfl ?_ ?_
        rotate_left
        · go_simp
          rfl
        refine hK.out _ _ ?_
        clear hK K
        refine done_ (by kernel_rfl) ?_
        obtain ⟨w10, hw10⟩ : ∃ w10, w10 = w9.setCell ⟨b, i, none⟩ (.int .i64 (after kind (rd st i) 0)) := ⟨_, rfl⟩
        rw [← hw10]
        have HE10 := Aside0.mk (show RDecRow w10 S g kind (some ⟨b, 0, none⟩) c (st.set i (after kind (rd st i) 0)) low high (.slice Ac code.length cc) code a value ((a - code.length : Nat) : Int) false from hw10 ▸ HE9.out.setst hi _)
        have HM10 := Aside0.mk (show Mods w w10 S from hw10 ▸ HM9.out.setCell (.inl hSb2) _)
        have hqb : q ≠ b := fun he => HQN.out (he ▸ hSb2)
        have HQ10 := Aside0.mk (show w10.heap[q]? = some (.cells #[.int .u64 l, .int .u64 h] 101 (0, 0)) from hw10 ▸ blk_far HQ9.out hqb _)
        have z0 : w10.cell? ⟨q, 0, none⟩ = some (.int .u64 l) := (blk_cell HQ10.out 0).trans rfl
        have z1 : w10.cell? ⟨q, 1, none⟩ = some (.int .u64 h) := (blk_cell HQ10.out 1).trans rfl
        have c2 := HE10.out.c2
        have c3 := HE10.out.c3
        have c5 := HE10.out.c5
        have c6 := HE10.out.c6
        have c7 := HE10.out.c7
        have f2 := HE10.out.fz 2
        have f3 := HE10.out.fz 3
        have f5 := HE10.out.fz 5
        have f6 := HE10.out.fz 6
        have f7 := HE10.out.fz 7
        clear hw10 k0 k1 ks c9 f9
        go_wp2
        go_ret2
        have h1 := HKV.out
        refine ⟨⟨l, h, n, HN.out, .inr ⟨by have := HB4.out; have := HBE.out; omega, rfl, ?_⟩⟩, ((((HM10.out.setCell (p := ⟨g, 2, none⟩) (.inl hSg) _).setCell (p := ⟨g, 3, none⟩) (.inl hSg) _).setCell (p := ⟨g, 5, none⟩) (.inl hSg) _).setCell (p := ⟨g, 6, none⟩) (.inl hSg) _).setCell (p := ⟨g, 7, none⟩) (.inl hSg) _⟩
        rw [← h1.2, ← h1.1, HBE.out]
        exact ((((HE10.out.put (low' := l) 2 _ rfl).put (high' := h) 3 _ rfl).put (a' := (k : Int)) 5 _ rfl).put (value' := v) 6 _ rfl).put (be' := (be : Int)) 7 _ rfl
set_option maxHeartbeats 4000000 in
set_option maxRecDepth 100000 in
theorem rget_row1 (w : World) (S : Nat → Prop) (g : Nat) (kind : Int) (b c : Nat) (st : List Int) (low high mid : Int) (vc : Value) (code : List Int) (a : Nat) (value : Int) (i : Nat) (hE : RDecRow w S g kind (some ⟨b, 0, none⟩) c st low high vc code a value ((a - code.length : Nat) : Int) false) (hSb : ∀ k, S k → k < w.heap.size) (hi : i < st.length) (hn : st.length ≤ 8192) (hs : okState kind (rd st i)) (hl0 : 0 ≤ low) (hlh : low ≤ high) (hh : high ≤ 4294967295) (hmid : midOf low high (likely kind (rd st i)) = mid) (hm0 : 0 ≤ mid) (hm1 : mid ≤ 4294967295) (hI0 : PutInv [] (cutL low mid 1) (cutH high mid 1) 4 (cutL low mid 1) (cutH high mid 1) []) (hv0 : 0 ≤ value) (hv1 : value ≤ 4294967295) (hby : Bytes code) (hlen : code.length ≤ 1099511627776) (ha : a - code.length ≤ 4) (hvb : value ≤ mid) :
    Calls Try.prog 61 #[.pointer (some ⟨g, 0, none⟩), .int .i64 i] w (RGetPost w S g kind b c st low high mid vc code a value i 1) := by
  have HE := Aside0.mk hE
  have hSg : S g := hE.g
  have hSb2 : S b := hE.s.1 b (by simp [Value.ownBlock])
  obtain ⟨Ac, cc, hvc⟩ := Kd.R_slice hE.o
  subst hvc
  have k0 := hE.c0
  have k1 := hE.c1
  have k8 := hE.c8
  have ks : w.cell? ⟨b, i, none⟩ = some (.int .i64 (rd st i)) := by obtain ⟨b', hA, hc, _⟩ := hE.cell hi; cases hA; exact hc
  have hlk := likely_range kind (rd st i) hs
  have HMID := fun W => Aside0.mk (hmid ▸ rmid_calls low high (likely kind (rd st i)) W hl0 hlh hh hlk.1 hlk.2)
  have HP := fun W => Aside0.mk (hmid ▸ part_calls low high (likely kind (rd st i)) 1 W hl0 hlh hh hlk.1 hlk.2)
  have HI := Aside0.mk hI0
  have HBY := Aside0.mk hby
  have HSB := Aside0.mk hSb
  have hu := Try.underlying101
  clear hE hmid hI0 hby hSb
  have hi1 : (0 : Int) ≤ (i : Int) := by omega
  have hi2 : (i : Int) < (st.length : Int) := by omega
  go_enter Try.func61, Try.ntmps61
  go_wp2
  refine start_ (n := 15) (S := fun w' => w'.cell? ⟨g, 0, none⟩ = some (.int .i64 kind) ∧ w'.cell? ⟨g, 1, none⟩ = some (.slice (some ⟨b, 0, none⟩) st.length c) ∧ w'.cell? ⟨b, i, none⟩ = some (.int .i64 (rd st i))) (ds := []) #[false, false, false, false, false, false, false, false, false, false, false, false, false, false, false] (by kernel_rfl) rfl rfl ⟨k0, k1, ks⟩ (fun hHeld => ?_)
  refine pure_ (i := 0) (N := some 30) (v := ?_) (a' := ?_) #[true, false, false, false, false, false, false, false, false, false, false, false, false, false, false] rfl rfl (by kernel_rfl) (fun _ _ _ h => h) (Or.inl ⟨by rfl, ?_⟩) ?_ ?_
  rotate_left
  · intro w'
    go_simp
    with_reducible rfl
  rotate_left
  · simp only [Act.put, List.setIfInBounds_toArray, List.set_cons_zero, List.set_cons_succ, i64_w, i32_w]
    rfl
  refine pure_ (i := 1) (N := some 31) (v := ?_) (a' := ?_) #[true, true, false, false, false, false, false, false, false, false, false, false, false, false, false] rfl rfl (by kernel_rfl) (fun _ _ _ h => h) (Or.inl ⟨by rfl, ?_⟩) ?_ ?_
  rotate_left
  · intro w'
    go_simp
    with_reducible rfl
  rotate_left
  · simp only [Act.put, List.setIfInBounds_toArray, List.set_cons_zero, List.set_cons_succ, i64_w, i32_w]
    rfl
  refine pure_ (i := 2) (N := some 32) (v := ?_) (a' := ?_) #[true, true, true, false, false, false, false, false, false, false, false, false, false, false, false] rfl rfl (by kernel_rfl) (fun _ _ _ h => h) (Or.inl ⟨by rfl, ?_⟩) ?_ ?_
  rotate_left
  · intro w'
    go_simp
    with_reducible rfl
  rotate_left
  · simp only [Act.put, List.setIfInBounds_toArray, List.set_cons_zero, List.set_cons_succ, i64_w, i32_w]
    rfl
  refine pure_ (i := 3) (N := some 33) (v := ?_) (a' := ?_) #[true, true, true, true, false, false, false, false, false, false, false, false, false, false, false] rfl rfl (by kernel_rfl) (fun _ _ _ h => h) (Or.inl ⟨by rfl, ?_⟩) ?_ ?_
  rotate_left
  · intro w'
    go_simp
    with_reducible rfl
  rotate_left
  · simp only [Act.put, List.setIfInBounds_toArray, List.set_cons_zero, List.set_cons_succ, i64_w, i32_w]
    rfl
  refine pure_ (i := 5) (N := some 35) (v := ?_) (a' := ?_) #[true, true, true, true, false, true, false, false, false, false, false, false, false, false, false] rfl rfl (by kernel_rfl) (fun _ _ _ h => h) (Or.inl ⟨by rfl, ?_⟩) ?_ ?_
  rotate_left
  · intro w'
    go_simp
    with_reducible rfl
  rotate_left
  · simp only [Act.put, List.setIfInBounds_toArray, List.set_cons_zero, List.set_cons_succ, i64_w, i32_w]
    rfl
  refine pure_ (i := 6) (N := some 36) (v := ?_) (a' := ?_) #[true, true, true, true, false, true, true, false, false, false, false, false, false, false, false] rfl rfl (by kernel_rfl) (fun _ _ _ h => h) (Or.inl ⟨by rfl, ?_⟩) ?_ ?_
  rotate_left
  · intro w'
    go_simp
    with_reducible rfl
  rotate_left
  · simp only [Act.put, List.setIfInBounds_toArray, List.set_cons_zero, List.set_cons_succ, i64_w, i32_w]
    rfl
  refine pure_ (i := 7) (N := some 37) (v := ?_) (a' := ?_) #[true, true, true, true, false, true, true, true, false, false, false, false, false, false, false] rfl rfl (by kernel_rfl) (fun _ _ _ h => h) (Or.inl ⟨by rfl, ?_⟩) ?_ ?_
  rotate_left
  · intro w'
    go_simp
    with_reducible rfl
  rotate_left
  · simp only [Act.put, List.setIfInBounds_toArray, List.set_cons_zero, List.set_cons_succ, i64_w, i32_w]
    rfl
  refine pure_ (i := 8) (N := some 38) (v := ?_) (a' := ?_) #[true, true, true, true, false, true, true, true, true, false, false, false, false, false, false] rfl rfl (by kernel_rfl) (fun _ _ _ h => h) (Or.inl ⟨by rfl, ?_⟩) ?_ ?_
  rotate_left
  · intro w'
    go_simp
    with_reducible rfl
  rotate_left
  · simp only [Act.put, List.setIfInBounds_toArray, List.set_cons_zero, List.set_cons_succ, i64_w, i32_w]
    rfl
  refine pure_ (i := 10) (N := some 40) (v := ?_) (a' := ?_) #[true, true, true, true, false, true, true, true, true, false, true, false, false, false, false] rfl rfl (by kernel_rfl) (fun _ _ _ h => h) (Or.inl ⟨by rfl, ?_⟩) ?_ ?_
  rotate_left
  · intro w'
    go_simp
    with_reducible rfl
  rotate_left
  · simp only [Act.put, List.setIfInBounds_toArray, List.set_cons_zero, List.set_cons_succ, i64_w, i32_w]
    rfl
  refine take_ (i := 4) (N := some 34) (v := ?_) (a' := ?_) #[true, true, true, true, true, true, true, true, true, false, true, false, false, false, false] rfl rfl (by kernel_rfl) (fun _ _ _ h => h) (Or.inl ⟨by rfl, ?_⟩) hHeld ?_ ?_
  rotate_left
  · rintro w' ⟨s0, s1, s2⟩
    go_simp
    with_reducible rfl
  rotate_left
  · simp only [Act.put, List.setIfInBounds_toArray, List.set_cons_zero, List.set_cons_succ, i64_w, i32_w]
    rfl
  refine take_ (i := 9) (N := some 39) (v := ?_) (a' := ?_) #[true, true, true, true, true, true, true, true, true, true, true, false, false, false, false] rfl rfl (by kernel_rfl) (fun _ _ _ h => h) (Or.inl ⟨by rfl, ?_⟩) hHeld ?_ ?_
  rotate_left
  · rintro w' ⟨s0, s1, s2⟩
    go_simp
    with_reducible rfl
  rotate_left
  · simp only [Act.put, List.setIfInBounds_toArray, List.set_cons_zero, List.set_cons_succ, i64_w, i32_w]
    rfl
  refine pure_ (i := 11) (N := some 41) (v := ?_) (a' := ?_) #[true, true, true, true, true, true, true, true, true, true, true, true, false, false, false] rfl rfl (by kernel_rfl) (fun _ _ _ h => h) (Or.inl ⟨by rfl, ?_⟩) ?_ ?_
  rotate_left
  · intro w'
    go_simp
    with_reducible rfl
  rotate_left
  · simp only [Act.put, List.setIfInBounds_toArray, List.set_cons_zero, List.set_cons_succ, i64_w, i32_w]
    rfl
  refine take_ (i := 12) (N := some 42) (v := ?_) (a' := ?_) #[true, true, true, true, true, true, true, true, true, true, true, true, true, false, false] rfl rfl (by kernel_rfl) (fun _ _ _ h => h) (Or.inl ⟨by rfl, ?_⟩) hHeld ?_ ?_
  rotate_left
  · rintro w' ⟨s0, s1, s2⟩
    go_simp
    with_reducible rfl
  rotate_left
  · simp only [Act.put, List.setIfInBounds_toArray, List.set_cons_zero, List.set_cons_succ, i64_w, i32_w]
    rfl
  refine one_ (i := 13) (N := some 43) #[true, true, true, true, true, true, true, true, true, true, true, true, true, true, false] rfl rfl (by kernel_rfl) (by decide) (fun K hK => ?_)
  refine goes_ Try.func77 (by kernel_rfl) rfl #[.int .i64 kind, .int .i64 (rd st i)] (by rfl) rfl rfl (by simp only [List.map_toArray, List.map_cons, List.map_nil]; rfl) ?_
  with_reducible refine (likelyB kind (rd st i) _ hs).mono ?_
  rintro e w3 ⟨rfl, hb3⟩
  refine ⟨_, rfl, ?_⟩
  have hb3' := below_undrew1 hb3
  have HE3 := Aside0.mk (HE.out.below hb3')
  have HM3 := Aside0.mk ((Mods.refl w S).below hb3')
  clear hb3 hb3'
  refine hK.out _ _ ⟨HE3.out.c0, HE3.out.c1, by obtain ⟨b', hA, hc, _⟩ := HE3.out.cell hi; cases hA; exact hc⟩ (fun hHeld => ?_)
  clear hK K
  refine norm_ (a' := ?_) ?_ ?_
  rotate_left
  · show Act.put _ (some 43) _ = _
    simp only [Act.put, List.setIfInBounds_toArray, List.set_cons_zero, List.set_cons_succ, i64_w, i32_w]
    rfl
  refine pure_ (i := 14) (N := some 6) (v := ?_) (a' := ?_) #[true, true, true, true, true, true, true, true, true, true, true, true, true, true, true] rfl rfl (by kernel_rfl) (fun _ _ _ h => h) (Or.inl ⟨by rfl, ?_⟩) ?_ ?_
  rotate_left
  · intro w'
    go_simp
    with_reducible rfl
  rotate_left
  · simp only [Act.put, List.setIfInBounds_toArray, List.set_cons_zero, List.set_cons_succ, i64_w, i32_w]
    rfl
  refine done_ (by kernel_rfl) ?_
  clear k0 k1 ks k8 HE
  go_wp2
  have HE3 := Aside0.mk HE3.out.drew
  have HM3 := Aside0.mk HM3.out.drew
  have k2 := HE3.out.c2
  have k3 := HE3.out.c3
  have k6 := HE3.out.c6
  refine start_ (n := 11) (S := fun w' => w'.cell? ⟨g, 2, none⟩ = some (.int .u64 low) ∧ w'.cell? ⟨g, 3, none⟩ = some (.int .u64 high) ∧ w'.cell? ⟨g, 6, none⟩ = some (.int .u64 value)) (ds := []) #[false, false, false, false, false, false, false, false, false, false, false] (by kernel_rfl) rfl rfl ⟨k2, k3, k6⟩ (fun hHeld => ?_)
  refine pure_ (i := 0) (N := some 44) (v := ?_) (a' := ?_) #[true, false, false, false, false, false, false, false, false, false, false] rfl rfl (by kernel_rfl) (fun _ _ _ h => h) (Or.inl ⟨by rfl, ?_⟩) ?_ ?_
  rotate_left
  · intro w'
    go_simp
    with_reducible rfl
  rotate_left
  · simp only [Act.put, List.setIfInBounds_toArray, List.set_cons_zero, List.set_cons_succ, i64_w, i32_w]
    rfl
  refine pure_ (i := 1) (N := some 45) (v := ?_) (a' := ?_) #[true, true, false, false, false, false, false, false, false, false, false] rfl rfl (by kernel_rfl) (fun _ _ _ h => h) (Or.inl ⟨by rfl, ?_⟩) ?_ ?_
  rotate_left
  · intro w'
    go_simp
    with_reducible rfl
  rotate_left
  · simp only [Act.put, List.setIfInBounds_toArray, List.set_cons_zero, List.set_cons_succ, i64_w, i32_w]
    rfl
  refine pure_ (i := 2) (N := some 46) (v := ?_) (a' := ?_) #[true, true, true, false, false, false, false, false, false, false, false] rfl rfl (by kernel_rfl) (fun _ _ _ h => h) (Or.inl ⟨by rfl, ?_⟩) ?_ ?_
  rotate_left
  · intro w'
    go_simp
    with_reducible rfl
  rotate_left
  · simp only [Act.put, List.setIfInBounds_toArray, List.set_cons_zero, List.set_cons_succ, i64_w, i32_w]
    rfl
  refine pure_ (i := 4) (N := some 48) (v := ?_) (a' := ?_) #[true, true, true, false, true, false, false, false, false, false, false] rfl rfl (by kernel_rfl) (fun _ _ _ h => h) (Or.inl ⟨by rfl, ?_⟩) ?_ ?_
  rotate_left
  · intro w'
    go_simp
    with_reducible rfl
  rotate_left
  · simp only [Act.put, List.setIfInBounds_toArray, List.set_cons_zero, List.set_cons_succ, i64_w, i32_w]
    rfl
  refine pure_ (i := 5) (N := some 49) (v := ?_) (a' := ?_) #[true, true, true, false, true, true, false, false, false, false, false] rfl rfl (by kernel_rfl) (fun _ _ _ h => h) (Or.inl ⟨by rfl, ?_⟩) ?_ ?_
  rotate_left
  · intro w'
    go_simp
    with_reducible rfl
  rotate_left
  · simp only [Act.put, List.setIfInBounds_toArray, List.set_cons_zero, List.set_cons_succ, i64_w, i32_w]
    rfl
  refine pure_ (i := 6) (N := some 50) (v := ?_) (a' := ?_) #[true, true, true, false, true, true, true, false, false, false, false] rfl rfl (by kernel_rfl) (fun _ _ _ h => h) (Or.inl ⟨by rfl, ?_⟩) ?_ ?_
  rotate_left
  · intro w'
    go_simp
    with_reducible rfl
  rotate_left
  · simp only [Act.put, List.setIfInBounds_toArray, List.set_cons_zero, List.set_cons_succ, i64_w, i32_w]
    rfl
  refine pure_ (i := 8) (N := some 52) (v := ?_) (a' := ?_) #[true, true, true, false, true, true, true, false, true, false, false] rfl rfl (by kernel_rfl) (fun _ _ _ h => h) (Or.inl ⟨by rfl, ?_⟩) ?_ ?_
  rotate_left
  · intro w'
    go_simp
    with_reducible rfl
  rotate_left
  · simp only [Act.put, List.setIfInBounds_toArray, List.set_cons_zero, List.set_cons_succ, i64_w, i32_w]
    rfl
  refine take_ (i := 3) (N := some 47) (v := ?_) (a' := ?_) #[true, true, true, true, true, true, true, false, true, false, false] rfl rfl (by kernel_rfl) (fun _ _ _ h => h) (Or.inl ⟨by rfl, ?_⟩) hHeld ?_ ?_
  rotate_left
  · rintro w' ⟨s0, s1, s2⟩
    go_simp
    with_reducible rfl
  rotate_left
  · simp only [Act.put, List.setIfInBounds_toArray, List.set_cons_zero, List.set_cons_succ, i64_w, i32_w]
    rfl
  refine take_ (i := 7) (N := some 51) (v := ?_) (a' := ?_) #[true, true, true, true, true, true, true, true, true, false, false] rfl rfl (by kernel_rfl) (fun _ _ _ h => h) (Or.inl ⟨by rfl, ?_⟩) hHeld ?_ ?_
  rotate_left
  · rintro w' ⟨s0, s1, s2⟩
    go_simp
    with_reducible rfl
  rotate_left
  · simp only [Act.put, List.setIfInBounds_toArray, List.set_cons_zero, List.set_cons_succ, i64_w, i32_w]
    rfl
  refine one_ (i := 9) (N := some 53) #[true, true, true, true, true, true, true, true, true, true, false] rfl rfl (by kernel_rfl) (by decide) (fun K hK => ?_)
  refine goes_ Try.func78 (by kernel_rfl) rfl #[.agg #[.int .u64 low, .int .u64 high], .int .i64 (likely kind (rd st i))] (by rfl) rfl rfl (by simp only [List.map_toArray, List.map_cons, List.map_nil]; rfl) ?_
  with_reducible refine ((HMID _).out).mono ?_
  rintro e w4 ⟨rfl, hb4⟩
  refine ⟨_, rfl, ?_⟩
  have HE4 := Aside0.mk (HE3.out.below hb4)
  have HM4 := Aside0.mk (HM3.out.below hb4)
  clear hb4
  refine hK.out _ _ ⟨HE4.out.c2, HE4.out.c3, HE4.out.c6⟩ (fun hHeld => ?_)
  clear hK K
  refine norm_ (a' := ?_) ?_ ?_
  rotate_left
  · show Act.put _ (some 53) _ = _
    simp only [Act.put, List.setIfInBounds_toArray, List.set_cons_zero, List.set_cons_succ, i64_w, i32_w]
    rfl
  refine pure_ (i := 10) (N := some 54) (v := ?_) (a' := ?_) #[true, true, true, true, true, true, true, true, true, true, true] rfl rfl (by kernel_rfl) (fun _ _ _ h => h) (Or.inl ⟨by rfl, ?_⟩) ?_ ?_
  rotate_left
  · intro w'
    go_simp
    with_reducible rfl
  rotate_left
  · simp only [Act.put, List.setIfInBounds_toArray, List.set_cons_zero, List.set_cons_succ, i64_w, i32_w]
    rfl
  refine done_ (by kernel_rfl) ?_
  clear k2 k3 k6 HE3 HM3
  go_wp2
  have HE4 := Aside0.mk HE4.out.drew
  have HM4 := Aside0.mk HM4.out.drew
  have p2 := HE4.out.c2
  have p3 := HE4.out.c3
  have p5 := HE4.out.c5
  have p6 := HE4.out.c6
  refine start_ (n := 19) (S := fun w' => w'.cell? ⟨g, 2, none⟩ = some (.int .u64 low) ∧ w'.cell? ⟨g, 3, none⟩ = some (.int .u64 high) ∧ w'.cell? ⟨g, 5, none⟩ = some (.int .i64 a) ∧ w'.cell? ⟨g, 6, none⟩ = some (.int .u64 value)) (ds := []) #[false, false, false, false, false, false, false, false, false, false, false, false, false, false, false, false, false, false, false] (by kernel_rfl) rfl rfl ⟨p2, p3, p5, p6⟩ (fun hHeld => ?_)
  generalize w4.drew = wd at p2 p3 p5 p6 HE4 HM4 hHeld ⊢
  refine pure_ (i := 0) (N := some 55) (v := ?_) (a' := ?_) #[true, false, false, false, false, false, false, false, false, false, false, false, false, false, false, false, false, false, false] rfl rfl (by kernel_rfl) (fun _ _ _ h => h) (Or.inl ⟨by rfl, ?_⟩) ?_ ?_
  rotate_left
  · intro w'
    go_simp
    with_reducible rfl
  rotate_left
  · simp only [Act.put, List.setIfInBounds_toArray, List.set_cons_zero, List.set_cons_succ, i64_w, i32_w]
    rfl
  refine pure_ (i := 1) (N := some 56) (v := ?_) (a' := ?_) #[true, true, false, false, false, false, false, false, false, false, false, false, false, false, false, false, false, false, false] rfl rfl (by kernel_rfl) (fun _ _ _ h => h) (Or.inl ⟨by rfl, ?_⟩) ?_ ?_
  rotate_left
  · intro w'
    go_simp
    with_reducible rfl
  rotate_left
  · simp only [Act.put, List.setIfInBounds_toArray, List.set_cons_zero, List.set_cons_succ, i64_w, i32_w]
    rfl
  refine pure_ (i := 2) (N := some 57) (v := ?_) (a' := ?_) #[true, true, true, false, false, false, false, false, false, false, false, false, false, false, false, false, false, false, false] rfl rfl (by kernel_rfl) (fun _ _ _ h => h) (Or.inl ⟨by rfl, ?_⟩) ?_ ?_
  rotate_left
  · intro w'
    go_simp
    with_reducible rfl
  rotate_left
  · simp only [Act.put, List.setIfInBounds_toArray, List.set_cons_zero, List.set_cons_succ, i64_w, i32_w]
    rfl
  refine pure_ (i := 4) (N := some 59) (v := ?_) (a' := ?_) #[true, true, true, false, true, false, false, false, false, false, false, false, false, false, false, false, false, false, false] rfl rfl (by kernel_rfl) (fun _ _ _ h => h) (Or.inl ⟨by rfl, ?_⟩) ?_ ?_
  rotate_left
  · intro w'
    go_simp
    with_reducible rfl
  rotate_left
  · simp only [Act.put, List.setIfInBounds_toArray, List.set_cons_zero, List.set_cons_succ, i64_w, i32_w]
    rfl
  refine pure_ (i := 5) (N := some 60) (v := ?_) (a' := ?_) #[true, true, true, false, true, true, false, false, false, false, false, false, false, false, false, false, false, false, false] rfl rfl (by kernel_rfl) (fun _ _ _ h => h) (Or.inl ⟨by rfl, ?_⟩) ?_ ?_
  rotate_left
  · intro w'
    go_simp
    with_reducible rfl
  rotate_left
  · simp only [Act.put, List.setIfInBounds_toArray, List.set_cons_zero, List.set_cons_succ, i64_w, i32_w]
    rfl
  refine pure_ (i := 7) (N := some 62) (v := ?_) (a' := ?_) #[true, true, true, false, true, true, false, true, false, false, false, false, false, false, false, false, false, false, false] rfl rfl (by kernel_rfl) (fun _ _ _ h => h) (Or.inl ⟨by rfl, ?_⟩) ?_ ?_
  rotate_left
  · intro w'
    go_simp
    with_reducible rfl
  rotate_left
  · simp only [Act.put, List.setIfInBounds_toArray, List.set_cons_zero, List.set_cons_succ, i64_w, i32_w]
    rfl
  refine pure_ (i := 8) (N := some 63) (v := ?_) (a' := ?_) #[true, true, true, false, true, true, false, true, true, false, false, false, false, false, false, false, false, false, false] rfl rfl (by kernel_rfl) (fun _ _ _ h => h) (Or.inl ⟨by rfl, ?_⟩) ?_ ?_
  rotate_left
  · intro w'
    go_simp
    with_reducible rfl
  rotate_left
  · simp only [Act.put, List.setIfInBounds_toArray, List.set_cons_zero, List.set_cons_succ, i64_w, i32_w]
    rfl
  refine pure_ (i := 9) (N := some 64) (v := ?_) (a' := ?_) #[true, true, true, false, true, true, false, true, true, true, false, false, false, false, false, false, false, false, false] rfl rfl (by kernel_rfl) (fun _ _ _ h => h) (Or.inl ⟨by rfl, ?_⟩) ?_ ?_
  rotate_left
  · intro w'
    go_simp
    with_reducible rfl
  rotate_left
  · simp only [Act.put, List.setIfInBounds_toArray, List.set_cons_zero, List.set_cons_succ, i64_w, i32_w]
    rfl
  refine pure_ (i := 11) (N := some 66) (v := ?_) (a' := ?_) #[true, true, true, false, true, true, false, true, true, true, false, true, false, false, false, false, false, false, false] rfl rfl (by kernel_rfl) (fun _ _ _ h => h) (Or.inl ⟨by rfl, ?_⟩) ?_ ?_
  rotate_left
  · intro w'
    go_simp
    with_reducible rfl
  rotate_left
  · simp only [Act.put, List.setIfInBounds_toArray, List.set_cons_zero, List.set_cons_succ, i64_w, i32_w]
    rfl
  refine pure_ (i := 12) (N := some 67) (v := ?_) (a' := ?_) #[true, true, true, false, true, true, false, true, true, true, false, true, true, false, false, false, false, false, false] rfl rfl (by kernel_rfl) (fun _ _ _ h => h) (Or.inl ⟨by rfl, ?_⟩) ?_ ?_
  rotate_left
  · intro w'
    go_simp
    with_reducible rfl
  rotate_left
  · simp only [Act.put, List.setIfInBounds_toArray, List.set_cons_zero, List.set_cons_succ, i64_w, i32_w]
    rfl
  refine pure_ (i := 13) (N := some 68) (v := ?_) (a' := ?_) #[true, true, true, false, true, true, false, true, true, true, false, true, true, true, false, false, false, false, false] rfl rfl (by kernel_rfl) (fun _ _ _ h => h) (Or.inl ⟨by rfl, ?_⟩) ?_ ?_
  rotate_left
  · intro w'
    go_simp
    with_reducible rfl
  rotate_left
  · simp only [Act.put, List.setIfInBounds_toArray, List.set_cons_zero, List.set_cons_succ, i64_w, i32_w]
    rfl
  refine take_ (i := 3) (N := some 58) (v := ?_) (a' := ?_) #[true, true, true, true, true, true, false, true, true, true, false, true, true, true, false, false, false, false, false] rfl rfl (by kernel_rfl) (fun _ _ _ h => h) (Or.inl ⟨by rfl, ?_⟩) hHeld ?_ ?_
  rotate_left
  · rintro w' ⟨s0, s1, s2, s3⟩
    go_simp
    with_reducible rfl
  rotate_left
  · simp only [Act.put, List.setIfInBounds_toArray, List.set_cons_zero, List.set_cons_succ, i64_w, i32_w]
    rfl
  refine take_ (i := 10) (N := some 65) (v := ?_) (a' := ?_) #[true, true, true, true, true, true, false, true, true, true, true, true, true, true, false, false, false, false, false] rfl rfl (by kernel_rfl) (fun _ _ _ h => h) (Or.inl ⟨by rfl, ?_⟩) hHeld ?_ ?_
  rotate_left
  · rintro w' ⟨s0, s1, s2, s3⟩
    go_simp
    with_reducible rfl
  rotate_left
  · simp only [Act.put, List.setIfInBounds_toArray, List.set_cons_zero, List.set_cons_succ, i64_w, i32_w]
    rfl
  refine take_ (i := 14) (N := some 69) (v := ?_) (a' := ?_) #[true, true, true, true, true, true, false, true, true, true, true, true, true, true, true, false, false, false, false] rfl rfl (by kernel_rfl) (fun _ _ _ h => h) (Or.inl ⟨by rfl, ?_⟩) hHeld ?_ ?_
  rotate_left
  · rintro w' ⟨s0, s1, s2, s3⟩
    go_simp
    with_reducible rfl
  rotate_left
  · simp only [Act.put, List.setIfInBounds_toArray, List.set_cons_zero, List.set_cons_succ, i64_w, i32_w]
    rfl
  refine join_ (σ := Nat) 3 #[true, true, true, true, true, true, true, true, true, true, true, true, true, true, true, true, false, false, false] (fun s => [(61, .agg #[.int .u64 (cutL low mid 1), .int .u64 (cutH high mid 1)]), (8, .pointer (some ⟨s, 0, none⟩))]) (fun s w' => w'.heap[s]? = some (.cells #[.int .u64 0, .int .u64 0] 101 (0, 0)) ∧ wd.heap.size ≤ s ∧ Below wd.heap.size wd w') ?_ ?_
  rotate_left
  · intro hCont
    refine two_ (i := 6) (j := 15) (Ni := some 61) (Nj := some 8) #[true, true, true, true, true, true, true, true, true, true, true, true, true, true, true, false, false, false, false] #[true, true, true, true, true, true, false, true, true, true, true, true, true, true, true, true, false, false, false] rfl rfl rfl rfl (by kernel_rfl) (by decide) (by decide) (fun K hK => ?_) (fun K hK => ?_)
    · skip
      refine goes_ Try.func79 (by kernel_rfl) rfl #[.agg #[.int .u64 low, .int .u64 high], .int .i64 (likely kind (rd st i)), .int .i64 1] (by rfl) rfl rfl (by simp only [List.map_toArray, List.map_cons, List.map_nil]; rfl) ?_
      with_reducible refine ((HP _).out).mono ?_
      rintro e wk ⟨rfl, hk⟩
      refine ⟨_, rfl, ?_⟩
      have t2 := pw_cell_below hk p2
      have t3 := pw_cell_below hk p3
      have t5 := pw_cell_below hk p5
      have t6 := pw_cell_below hk p6
      refine hK.out _ _ ⟨t2, t3, t5, t6⟩ (fun hHeld => ?_)
      clear hK K
      refine norm_ (a' := ?_) ?_ ?_
      rotate_left
      · show Act.put _ (some 61) _ = _
        simp only [Act.put, List.setIfInBounds_toArray, List.set_cons_zero, List.set_cons_succ, i64_w, i32_w]
        rfl
      refine one_ (i := 15) (N := some 8) #[true, true, true, true, true, true, true, true, true, true, true, true, true, true, true, true, false, false, false] rfl rfl (by kernel_rfl) (by decide) (fun K hK => ?_)
      refine value_ (w1 := ?_) (v := ?_) (by rfl) rfl ?_ ?_
      rotate_left 2
      · go_simp
        constructor
        · rfl
        · rfl
      refine hK.out _ _ ⟨pw_cell_below (below_alloc (Below.refl _ _) _) t2, pw_cell_below (below_alloc (Below.refl _ _) _) t3, pw_cell_below (below_alloc (Below.refl _ _) _) t5, pw_cell_below (below_alloc (Below.refl _ _) _) t6⟩ (fun hHeld => ?_)
      clear hK K
      refine norm_ (a' := ?_) ?_ ?_
      rotate_left
      · show Act.put _ (some 8) _ = _
        simp only [Act.put, List.setIfInBounds_toArray, List.set_cons_zero, List.set_cons_succ, i64_w, i32_w]
        rfl
      exact norm_ (by simp only [putAll, Act.put, List.setIfInBounds_toArray, List.set_cons_zero, List.set_cons_succ]) (hCont wk.heap.size _ ⟨blk_new _ _, hk.size, below_alloc hk _⟩)
    · skip
      refine value_ (w1 := ?_) (v := ?_) (by rfl) rfl ?_ ?_
      rotate_left 2
      · go_simp
        constructor
        · rfl
        · rfl
      refine hK.out _ _ ⟨pw_cell_below (below_alloc (Below.refl _ _) _) p2, pw_cell_below (below_alloc (Below.refl _ _) _) p3, pw_cell_below (below_alloc (Below.refl _ _) _) p5, pw_cell_below (below_alloc (Below.refl _ _) _) p6⟩ (fun hHeld => ?_)
      clear hK K
      refine norm_ (a' := ?_) ?_ ?_
      rotate_left
      · show Act.put _ (some 8) _ = _
        simp only [Act.put, List.setIfInBounds_toArray, List.set_cons_zero, List.set_cons_succ, i64_w, i32_w]
        rfl
      refine one_ (i := 6) (N := some 61) #[true, true, true, true, true, true, true, true, true, true, true, true, true, true, true, true, false, false, false] rfl rfl (by kernel_rfl) (by decide) (fun K hK => ?_)
      refine goes_ Try.func79 (by kernel_rfl) rfl #[.agg #[.int .u64 low, .int .u64 high], .int .i64 (likely kind (rd st i)), .int .i64 1] (by rfl) rfl rfl (by simp only [List.map_toArray, List.map_cons, List.map_nil]; rfl) ?_
      with_reducible refine ((HP _).out).mono ?_
      rintro e wk ⟨rfl, hk⟩
      refine ⟨_, rfl, ?_⟩
      have t2 := pw_cell_below hk (pw_cell_below (below_alloc (Below.refl _ _) _) p2)
      have t3 := pw_cell_below hk (pw_cell_below (below_alloc (Below.refl _ _) _) p3)
      have t5 := pw_cell_below hk (pw_cell_below (below_alloc (Below.refl _ _) _) p5)
      have t6 := pw_cell_below hk (pw_cell_below (below_alloc (Below.refl _ _) _) p6)
      refine hK.out _ _ ⟨t2, t3, t5, t6⟩ (fun hHeld => ?_)
      clear hK K
      refine norm_ (a' := ?_) ?_ ?_
      rotate_left
      · show Act.put _ (some 61) _ = _
        simp only [Act.put, List.setIfInBounds_toArray, List.set_cons_zero, List.set_cons_succ, i64_w, i32_w]
        rfl
      exact norm_ (by simp only [putAll, Act.put, List.setIfInBounds_toArray, List.set_cons_zero, List.set_cons_succ]) (hCont wd.heap.size _ ⟨blk_below (blk_new _ _) hk, Nat.le_refl _, below_then (below_alloc (Below.refl _ _) _) (by simp) hk⟩)
  rintro q w5 ⟨hq, hqs, hqb⟩
  have t2 := pw_cell_below hqb p2
  have t3 := pw_cell_below hqb p3
  have t5 := pw_cell_below hqb p5
  have t6 := pw_cell_below hqb p6
  have hHeld : w5.cell? ⟨g, 2, none⟩ = some (.int .u64 low) ∧ w5.cell? ⟨g, 3, none⟩ = some (.int .u64 high) ∧ w5.cell? ⟨g, 5, none⟩ = some (.int .i64 a) ∧ w5.cell? ⟨g, 6, none⟩ = some (.int .u64 value) := ⟨t2, t3, t5, t6⟩
  have z0 : w5.cell? ⟨q, 0, none⟩ = some (.int .u64 0) := (blk_cell hq 0).trans rfl
  have z1 : w5.cell? ⟨q, 1, none⟩ = some (.int .u64 0) := (blk_cell hq 1).trans rfl
  have zf0 := blk_frozen hq 0
  have zf1 := blk_frozen hq 1
  have HQ := Aside0.mk hq
  have HQS := Aside0.mk hqs
  have HQB := Aside0.mk hqb
  clear hq hqs hqb
  refine norm_ (a' := ?_) ?_ ?_
  rotate_left
  · simp only [putAll, Act.put, List.setIfInBounds_toArray, List.set_cons_zero, List.set_cons_succ]
    rfl
  refine one_ (i := 16) (N := none) #[true, true, true, true, true, true, true, true, true, true, true, true, true, true, true, true, true, false, false] rfl rfl (by kernel_rfl) (by decide) (fun K hK => ?_)
  refine skip_ (w1 := ?_) (by rfl) rfl ?_ ?_
  rotate_left
  · go_simp
    rfl
  refine hK.out _ _ ⟨pw_cell_below ((HQB.out.setCell (p := ⟨q, 0, none⟩) HQS.out _).setCell (p := ⟨q, 1, none⟩) HQS.out _) p2, pw_cell_below ((HQB.out.setCell (p := ⟨q, 0, none⟩) HQS.out _).setCell (p := ⟨q, 1, none⟩) HQS.out _) p3, pw_cell_below ((HQB.out.setCell (p := ⟨q, 0, none⟩) HQS.out _).setCell (p := ⟨q, 1, none⟩) HQS.out _) p5, pw_cell_below ((HQB.out.setCell (p := ⟨q, 0, none⟩) HQS.out _).setCell (p := ⟨q, 1, none⟩) HQS.out _) p6⟩ (fun hHeld => ?_)
  clear hK K
  refine pure_ (i := 17) (N := some 9) (v := ?_) (a' := ?_) #[true, true, true, true, true, true, true, true, true, true, true, true, true, true, true, true, true, true, false] rfl rfl (by kernel_rfl) (fun _ _ _ h => h) (Or.inl ⟨by rfl, ?_⟩) ?_ ?_
  rotate_left
  · intro w'
    go_simp
    with_reducible rfl
  rotate_left
  · simp only [Act.put, List.setIfInBounds_toArray, List.set_cons_zero, List.set_cons_succ, i64_w, i32_w]
    rfl
  refine pure_ (i := 18) (N := some 10) (v := ?_) (a' := ?_) #[true, true, true, true, true, true, true, true, true, true, true, true, true, true, true, true, true, true, true] rfl rfl (by kernel_rfl) (fun _ _ _ h => h) (Or.inl ⟨by rfl, ?_⟩) ?_ ?_
  rotate_left
  · intro w'
    go_simp
    with_reducible rfl
  rotate_left
  · simp only [Act.put, List.setIfInBounds_toArray, List.set_cons_zero, List.set_cons_succ, i64_w, i32_w]
    rfl
  refine done_ (by kernel_rfl) ?_
  obtain ⟨w6, hw6⟩ : ∃ w6, w6 = (w5.setCell ⟨q, 0, none⟩ (.int .u64 (cutL low mid 1))).setCell ⟨q, 1, none⟩ (.int .u64 (cutH high mid 1)) := ⟨_, rfl⟩
  rw [← hw6]
  have hB6 : Below wd.heap.size wd w6 := hw6 ▸ (HQB.out.setCell (p := ⟨q, 0, none⟩) HQS.out _).setCell (p := ⟨q, 1, none⟩) HQS.out _
  have hq1 : (w5.setCell ⟨q, 0, none⟩ (.int .u64 (cutL low mid 1))).heap[q]? = some (.cells #[.int .u64 (cutL low mid 1), .int .u64 0] 101 (0, 0)) := blk_put (cs := #[.int .u64 0, .int .u64 0]) HQ.out 0 _ rfl
  have HQ6 := Aside0.mk (show w6.heap[q]? = some (.cells #[.int .u64 (cutL low mid 1), .int .u64 (cutH high mid 1)] 101 (0, 0)) from hw6 ▸ blk_put (cs := #[.int .u64 (cutL low mid 1), .int .u64 0]) hq1 1 _ rfl)
  have HE6 := Aside0.mk (HE4.out.below hB6)
  have HM6 := Aside0.mk (HM4.out.below hB6)
  have hqn : ¬ S q := fun hk => by have h1 := HSB.out q hk; have h2 := HM4.out.size; have h3 := HQS.out; omega
  have hgq : g ≠ q := fun he => hqn (he ▸ hSg)
  have HQN := Aside0.mk hqn
  have HQS2 := Aside0.mk (show w.heap.size ≤ q from Nat.le_trans HM4.out.size HQS.out)
  clear hw6 hB6 hq1 hqn HE4 HM4 HQ HQS HQB z0 z1 zf0 zf1 t2 t3 t5 t6 p2 p3 p5 p6
  go_wp2
  try rw [decide_eq_true hvb]
  try simp only [decide_eq_false (show ¬ st.length ≤ i by omega), Bool.or_false]
  go_loopg [9, 10] 4 (fun d s9 s10 wr => ∃ (l h : Int) (n : List Int) (k : Nat) (v : Int), s9 = .int .i64 k ∧ s10 = .int .u64 v ∧ (0 ≤ v ∧ v ≤ 4294967295) ∧ Aside0 (k = a + n.length ∧ v = shV code n.length value a) ∧ Aside0 (RDecRow wr S g kind (some ⟨b, 0, none⟩) c st low high (.slice Ac code.length cc) code a value ((a - code.length : Nat) : Int) false) ∧ Aside0 (Mods w wr S) ∧ Aside0 (wr.heap[q]? = some (.cells #[.int .u64 l, .int .u64 h] 101 (0, 0))) ∧ Aside0 (PutInv [] (cutL low mid 1) (cutH high mid 1) d l h n))
  case atStart => exact ⟨_, _, [], a, value, rfl, rfl, ⟨hv0, hv1⟩, ⟨rfl, rfl⟩, HE6, HM6, HQ6, HI⟩
  clear HE6 HM6 HQ6 HI
  case round =>
    obtain ⟨l, h, n, k, v, rfl, rfl, hv, HKV, HE7, HM7, HQ7, HPI⟩ := hrel
    have hp0 := HPI.out.l0
    have hp1 := HPI.out.lh
    have hp2 := HPI.out.h0
    have hp3 := HPI.out.len
    rw [List.length_nil] at hp3
    have hka : k ≤ 2199023255552 := by have := HKV.out.1; omega
    have hs7 := fixed_calls l h
    have z0 : wr.cell? ⟨q, 0, none⟩ = some (.int .u64 l) := (blk_cell HQ7.out 0).trans rfl
    have z1 : wr.cell? ⟨q, 1, none⟩ = some (.int .u64 h) := (blk_cell HQ7.out 1).trans rfl
    by_cases cx : l / 16777216 = h / 16777216
    · rw [decide_eq_true cx] at hs7
      have HSA := Aside0.mk hs7
      clear hs7
      obtain ⟨d', hd', hP'⟩ := HPI.out.step cx
      have HP' := Aside0.mk hP'
      have HD := Aside0.mk hd'
      have hbr := byteOf_range HBY.out k
      clear hd' hP' cx
      go_wp2_with (first
        | (go_at_call 80; refine (HSA.out _).mono ?_; rintro e w8 ⟨rfl, hb8⟩; have HE8 := Aside0.mk (HE7.out.below hb8); have HM8 := Aside0.mk (HM7.out.below hb8); have HQ8 := Aside0.mk (blk_below HQ7.out hb8); have z0 : w8.cell? ⟨q, 0, none⟩ = some (.int .u64 l) := (blk_cell HQ8.out 0).trans rfl; have z1 : w8.cell? ⟨q, 1, none⟩ = some (.int .u64 h) := (blk_cell HQ8.out 1).trans rfl; clear hb8)
        | (go_at_call 81; refine (shift_calls l h _ hp0 (by omega) (by omega) hp2).mono ?_; rintro e w9 ⟨rfl, hb9⟩; have HE9 := Aside0.mk (HE8.out.below hb9); have HM9 := Aside0.mk (HM8.out.below hb9); have HQ9 := Aside0.mk (blk_below HQ8.out hb9); have z0 : w9.cell? ⟨q, 0, none⟩ = some (.int .u64 l) := (blk_cell HQ9.out 0).trans rfl; have z1 : w9.cell? ⟨q, 1, none⟩ = some (.int .u64 h) := (blk_cell HQ9.out 1).trans rfl; have zf0 := blk_frozen HQ9.out 0; have zf1 := blk_frozen HQ9.out 1; have k4 := HE9.out.c4; clear hb9))
      obtain ⟨w10, hw10⟩ : ∃ w10, w10 = (w9.setCell ⟨q, 0, none⟩ (.int .u64 (l % 16777216 * 256))).setCell ⟨q, 1, none⟩ (.int .u64 (h % 16777216 * 256 + 255)) := ⟨_, rfl⟩
      rw [← hw10]
      have hq10 : (w9.setCell ⟨q, 0, none⟩ (.int .u64 (l % 16777216 * 256))).heap[q]? = some (.cells #[.int .u64 (l % 16777216 * 256), .int .u64 h] 101 (0, 0)) := blk_put (cs := #[.int .u64 l, .int .u64 h]) HQ9.out 0 _ rfl
      have HQ10 := Aside0.mk (show w10.heap[q]? = some (.cells #[.int .u64 (l % 16777216 * 256), .int .u64 (h % 16777216 * 256 + 255)] 101 (0, 0)) from hw10 ▸ blk_put (cs := #[.int .u64 (l % 16777216 * 256), .int .u64 h]) hq10 1 _ rfl)
      have HE10 := Aside0.mk (show RDecRow w10 S g kind (some ⟨b, 0, none⟩) c st low high (.slice Ac code.length cc) code a value ((a - code.length : Nat) : Int) false from hw10 ▸ (HE9.out.far (p := ⟨q, 0, none⟩) HQN.out _).far (p := ⟨q, 1, none⟩) HQN.out _)
      have hqs : w.heap.size ≤ q := by have h1 := HQS2.out; omega
      have HM10 := Aside0.mk (show Mods w w10 S from hw10 ▸ (HM9.out.setCell (p := ⟨q, 0, none⟩) (.inr hqs) _).setCell (p := ⟨q, 1, none⟩) (.inr hqs) _)
      clear hw10 hq10 hqs z0 z1 zf0 zf1 k4 HE9 HM9 HQ9 HE8 HM8 HQ8
      refine (byte_calls Ac cc code k _ (Kd.R_reads' HE10.out.o).2.2 HBY.out).mono ?_
      rintro e w11 ⟨rfl, rfl⟩
      go_wp2
      go_roundg d'
      case measure => have := HD.out; omega
      case rel =>
        have h1 := HKV.out
        refine ⟨_, _, _, k + 1, _, rfl, rfl, by omega, ⟨?_, ?_⟩, HE10, HM10, HQ10, HP'⟩
        · rw [List.length_append, List.length_cons, List.length_nil, h1.1]
          omega
        · rw [List.length_append, List.length_cons, List.length_nil, Nat.zero_add, shV_succ, ← h1.2, ← h1.1]
    · rw [decide_eq_false cx] at hs7
      have HSA := Aside0.mk hs7
      clear hs7
      have HCC := Aside0.mk (HPI.out.done cx)
      clear cx
      have HN := Aside0.mk (show normE 4 (cutL low mid 1) (cutH high mid 1) = (n, l, h) from by
        have h1 := HCC.out
        rw [List.nil_append] at h1
        exact Prod.ext h1.1.symm h1.2)
      obtain ⟨be, hbe⟩ : ∃ be : Nat, k - code.length = be := ⟨_, rfl⟩
      have HBE := Aside0.mk hbe
      have hbk : be ≤ 2199023255552 := by omega
      by_cases hb4 : (be : Int) > 4
      · have HB4 := Aside0.mk hb4
        go_wp2_with (go_at_call 80; refine (HSA.out _).mono ?_; rintro e w8 ⟨rfl, hb8⟩; have HE8 := Aside0.mk (HE7.out.below hb8); have HM8 := Aside0.mk (HM7.out.below hb8); have k4 := HE8.out.c4; have k8 := HE8.out.c8; have f8 := HE8.out.fz 8; clear hb8)
        go_ret2
        have h1 := HKV.out
        refine ⟨⟨l, h, n, HN.out, .inl ⟨by have := HB4.out; have := HBE.out; omega, rfl, HE8.out.put 8 _ rfl⟩⟩, HM8.out.setCell (.inl hSg) _⟩
      · have HB4 := Aside0.mk hb4
        go_wp2_with (go_at_call 80; refine (HSA.out _).mono ?_; rintro e w8 ⟨rfl, hb8⟩; have HE8 := Aside0.mk (HE7.out.below hb8); have HM8 := Aside0.mk (HM7.out.below hb8); have HQ8 := Aside0.mk (blk_below HQ7.out hb8); have k4 := HE8.out.c4; clear hb8)
        have HE8 := Aside0.mk HE8.out.drew
        have HM8 := Aside0.mk HM8.out.drew
        have HQ8 := Aside0.mk (blk_drew HQ8.out)
        have k0 := HE8.out.c0
        have k1 := HE8.out.c1
        have ks : w8.drew.cell? ⟨b, i, none⟩ = some (.int .i64 (rd st i)) := by obtain ⟨b', hA, hc, _⟩ := HE8.out.cell hi; cases hA; exact hc
        clear k4
        refine start_ (n := 23) (S := fun w' => w'.cell? ⟨g, 0, none⟩ = some (.int .i64 kind) ∧ w'.cell? ⟨g, 1, none⟩ = some (.slice (some ⟨b, 0, none⟩) st.length c) ∧ w'.cell? ⟨b, i, none⟩ = some (.int .i64 (rd st i))) (ds := [22]) #[false, false, false, false, false, false, false, false, false, false, false, false, false, false, false, false, false, false, false, false, false, false, false] (by kernel_rfl) rfl rfl ⟨k0, k1, ks⟩ (fun hHeld => ?_)
        refine pure_ (i := 0) (N := some 99) (v := ?_) (a' := ?_) #[true, false, false, false, false, false, false, false, false, false, false, false, false, false, false, false, false, false, false, false, false, false, false] rfl rfl (by kernel_rfl) (fun _ _ _ h => h) (Or.inl ⟨by rfl, ?_⟩) ?_ ?_
        rotate_left
        · intro w'
          go_simp
          with_reducible rfl
        rotate_left
        · simp only [Act.put, List.setIfInBounds_toArray, List.set_cons_zero, List.set_cons_succ, i64_w, i32_w]
          rfl
        refine pure_ (i := 1) (N := some 100) (v := ?_) (a' := ?_) #[true, true, false, false, false, false, false, false, false, false, false, false, false, false, false, false, false, false, false, false, false, false, false] rfl rfl (by kernel_rfl) (fun _ _ _ h => h) (Or.inl ⟨by rfl, ?_⟩) ?_ ?_
        rotate_left
        · intro w'
          go_simp
          with_reducible rfl
        rotate_left
        · simp only [Act.put, List.setIfInBounds_toArray, List.set_cons_zero, List.set_cons_succ, i64_w, i32_w]
          rfl
        refine pure_ (i := 2) (N := some 101) (v := ?_) (a' := ?_) #[true, true, true, false, false, false, false, false, false, false, false, false, false, false, false, false, false, false, false, false, false, false, false] rfl rfl (by kernel_rfl) (fun _ _ _ h => h) (Or.inl ⟨by rfl, ?_⟩) ?_ ?_
        rotate_left
        · intro w'
          go_simp
          with_reducible rfl
        rotate_left
        · simp only [Act.put, List.setIfInBounds_toArray, List.set_cons_zero, List.set_cons_succ, i64_w, i32_w]
          rfl
        refine pure_ (i := 3) (N := some 102) (v := ?_) (a' := ?_) #[true, true, true, true, false, false, false, false, false, false, false, false, false, false, false, false, false, false, false, false, false, false, false] rfl rfl (by kernel_rfl) (fun _ _ _ h => h) (Or.inl ⟨by rfl, ?_⟩) ?_ ?_
        rotate_left
        · intro w'
          go_simp
          with_reducible rfl
        rotate_left
        · simp only [Act.put, List.setIfInBounds_toArray, List.set_cons_zero, List.set_cons_succ, i64_w, i32_w]
          rfl
        refine pure_ (i := 5) (N := some 104) (v := ?_) (a' := ?_) #[true, true, true, true, false, true, false, false, false, false, false, false, false, false, false, false, false, false, false, false, false, false, false] rfl rfl (by kernel_rfl) (fun _ _ _ h => h) (Or.inl ⟨by rfl, ?_⟩) ?_ ?_
        rotate_left
        · intro w'
          go_simp
          with_reducible rfl
        rotate_left
        · simp only [Act.put, List.setIfInBounds_toArray, List.set_cons_zero, List.set_cons_succ, i64_w, i32_w]
          rfl
        refine pure_ (i := 6) (N := some 105) (v := ?_) (a' := ?_) #[true, true, true, true, false, true, true, false, false, false, false, false, false, false, false, false, false, false, false, false, false, false, false] rfl rfl (by kernel_rfl) (fun _ _ _ h => h) (Or.inl ⟨by rfl, ?_⟩) ?_ ?_
        rotate_left
        · intro w'
          go_simp
          with_reducible rfl
        rotate_left
        · simp only [Act.put, List.setIfInBounds_toArray, List.set_cons_zero, List.set_cons_succ, i64_w, i32_w]
          rfl
        refine pure_ (i := 7) (N := some 106) (v := ?_) (a' := ?_) #[true, true, true, true, false, true, true, true, false, false, false, false, false, false, false, false, false, false, false, false, false, false, false] rfl rfl (by kernel_rfl) (fun _ _ _ h => h) (Or.inl ⟨by rfl, ?_⟩) ?_ ?_
        rotate_left
        · intro w'
          go_simp
          with_reducible rfl
        rotate_left
        · simp only [Act.put, List.setIfInBounds_toArray, List.set_cons_zero, List.set_cons_succ, i64_w, i32_w]
          rfl
        refine pure_ (i := 8) (N := some 107) (v := ?_) (a' := ?_) #[true, true, true, true, false, true, true, true, true, false, false, false, false, false, false, false, false, false, false, false, false, false, false] rfl rfl (by kernel_rfl) (fun _ _ _ h => h) (Or.inl ⟨by rfl, ?_⟩) ?_ ?_
        rotate_left
        · intro w'
          go_simp
          with_reducible rfl
        rotate_left
        · simp only [Act.put, List.setIfInBounds_toArray, List.set_cons_zero, List.set_cons_succ, i64_w, i32_w]
          rfl
        refine pure_ (i := 9) (N := some 108) (v := ?_) (a' := ?_) #[true, true, true, true, false, true, true, true, true, true, false, false, false, false, false, false, false, false, false, false, false, false, false] rfl rfl (by kernel_rfl) (fun _ _ _ h => h) (Or.inl ⟨by rfl, ?_⟩) ?_ ?_
        rotate_left
        · intro w'
          go_simp
          with_reducible rfl
        rotate_left
        · simp only [Act.put, List.setIfInBounds_toArray, List.set_cons_zero, List.set_cons_succ, i64_w, i32_w]
          rfl
        refine pure_ (i := 11) (N := some 110) (v := ?_) (a' := ?_) #[true, true, true, true, false, true, true, true, true, true, false, true, false, false, false, false, false, false, false, false, false, false, false] rfl rfl (by kernel_rfl) (fun _ _ _ h => h) (Or.inl ⟨by rfl, ?_⟩) ?_ ?_
        rotate_left
        · intro w'
          go_simp
          with_reducible rfl
        rotate_left
        · simp only [Act.put, List.setIfInBounds_toArray, List.set_cons_zero, List.set_cons_succ, i64_w, i32_w]
          rfl
        refine pure_ (i := 12) (N := some 111) (v := ?_) (a' := ?_) #[true, true, true, true, false, true, true, true, true, true, false, true, true, false, false, false, false, false, false, false, false, false, false] rfl rfl (by kernel_rfl) (fun _ _ _ h => h) (Or.inl ⟨by rfl, ?_⟩) ?_ ?_
        rotate_left
        · intro w'
          go_simp
          with_reducible rfl
        rotate_left
        · simp only [Act.put, List.setIfInBounds_toArray, List.set_cons_zero, List.set_cons_succ, i64_w, i32_w]
          rfl
        refine pure_ (i := 13) (N := some 112) (v := ?_) (a' := ?_) #[true, true, true, true, false, true, true, true, true, true, false, true, true, true, false, false, false, false, false, false, false, false, false] rfl rfl (by kernel_rfl) (fun _ _ _ h => h) (Or.inl ⟨by rfl, ?_⟩) ?_ ?_
        rotate_left
        · intro w'
          go_simp
          with_reducible rfl
        rotate_left
        · simp only [Act.put, List.setIfInBounds_toArray, List.set_cons_zero, List.set_cons_succ, i64_w, i32_w]
          rfl
        refine pure_ (i := 14) (N := some 113) (v := ?_) (a' := ?_) #[true, true, true, true, false, true, true, true, true, true, false, true, true, true, true, false, false, false, false, false, false, false, false] rfl rfl (by kernel_rfl) (fun _ _ _ h => h) (Or.inl ⟨by rfl, ?_⟩) ?_ ?_
        rotate_left
        · intro w'
          go_simp
          with_reducible rfl
        rotate_left
        · simp only [Act.put, List.setIfInBounds_toArray, List.set_cons_zero, List.set_cons_succ, i64_w, i32_w]
          rfl
        refine pure_ (i := 16) (N := some 115) (v := ?_) (a' := ?_) #[true, true, true, true, false, true, true, true, true, true, false, true, true, true, true, false, true, false, false, false, false, false, false] rfl rfl (by kernel_rfl) (fun _ _ _ h => h) (Or.inl ⟨by rfl, ?_⟩) ?_ ?_
        rotate_left
        · intro w'
          go_simp
          with_reducible rfl
        rotate_left
        · simp only [Act.put, List.setIfInBounds_toArray, List.set_cons_zero, List.set_cons_succ, i64_w, i32_w]
          rfl
        refine pure_ (i := 19) (N := some 118) (v := ?_) (a' := ?_) #[true, true, true, true, false, true, true, true, true, true, false, true, true, true, true, false, true, false, false, true, false, false, false] rfl rfl (by kernel_rfl) (fun _ _ _ h => h) (Or.inl ⟨by rfl, ?_⟩) ?_ ?_
        rotate_left
        · intro w'
          go_simp
          with_reducible rfl
        rotate_left
        · simp only [Act.put, List.setIfInBounds_toArray, List.set_cons_zero, List.set_cons_succ, i64_w, i32_w]
          rfl
        refine take_ (i := 4) (N := some 103) (v := ?_) (a' := ?_) #[true, true, true, true, true, true, true, true, true, true, false, true, true, true, true, false, true, false, false, true, false, false, false] rfl rfl (by kernel_rfl) (fun _ _ _ h => h) (Or.inl ⟨by rfl, ?_⟩) hHeld ?_ ?_
        rotate_left
        · rintro w' ⟨s0, s1, s2⟩
          go_simp
          with_reducible rfl
        rotate_left
        · simp only [Act.put, List.setIfInBounds_toArray, List.set_cons_zero, List.set_cons_succ, i64_w, i32_w]
          rfl
        refine take_ (i := 10) (N := some 109) (v := ?_) (a' := ?_) #[true, true, true, true, true, true, true, true, true, true, true, true, true, true, true, false, true, false, false, true, false, false, false] rfl rfl (by kernel_rfl) (fun _ _ _ h => h) (Or.inl ⟨by rfl, ?_⟩) hHeld ?_ ?_
        rotate_left
        · rintro w' ⟨s0, s1, s2⟩
          go_simp
          with_reducible rfl
        rotate_left
        · simp only [Act.put, List.setIfInBounds_toArray, List.set_cons_zero, List.set_cons_succ, i64_w, i32_w]
          rfl
        refine take_ (i := 15) (N := some 114) (v := ?_) (a' := ?_) #[true, true, true, true, true, true, true, true, true, true, true, true, true, true, true, true, true, false, false, true, false, false, false] rfl rfl (by kernel_rfl) (fun _ _ _ h => h) (Or.inl ⟨by rfl, ?_⟩) hHeld ?_ ?_
        rotate_left
        · rintro w' ⟨s0, s1, s2⟩
          go_simp
          with_reducible rfl
        rotate_left
        · simp only [Act.put, List.setIfInBounds_toArray, List.set_cons_zero, List.set_cons_succ, i64_w, i32_w]
          rfl
        refine pure_ (i := 17) (N := some 116) (v := ?_) (a' := ?_) #[true, true, true, true, true, true, true, true, true, true, true, true, true, true, true, true, true, true, false, true, false, false, false] rfl rfl (by kernel_rfl) (fun _ _ _ h => h) (Or.inl ⟨by rfl, ?_⟩) ?_ ?_
        rotate_left
        · intro w'
          go_simp
          with_reducible rfl
        rotate_left
        · simp only [Act.put, List.setIfInBounds_toArray, List.set_cons_zero, List.set_cons_succ, i64_w, i32_w]
          rfl
        refine take_ (i := 18) (N := some 117) (v := ?_) (a' := ?_) #[true, true, true, true, true, true, true, true, true, true, true, true, true, true, true, true, true, true, true, true, false, false, false] rfl rfl (by kernel_rfl) (fun _ _ _ h => h) (Or.inl ⟨by rfl, ?_⟩) hHeld ?_ ?_
        rotate_left
        · rintro w' ⟨s0, s1, s2⟩
          go_simp
          with_reducible rfl
        rotate_left
        · simp only [Act.put, List.setIfInBounds_toArray, List.set_cons_zero, List.set_cons_succ, i64_w, i32_w]
          rfl
        refine one_ (i := 20) (N := some 119) #[true, true, true, true, true, true, true, true, true, true, true, true, true, true, true, true, true, true, true, true, true, false, false] rfl rfl (by kernel_rfl) (by decide) (fun K hK => ?_)
        refine goes_ Try.func82 (by kernel_rfl) rfl #[.int .i64 kind, .int .i64 (rd st i), .int .i64 1] (by rfl) rfl rfl (by simp only [List.map_toArray, List.map_cons, List.map_nil]; rfl) ?_
        with_reducible refine (ref_after kind (rd st i) 1 _ hs (by decide)).mono ?_
        rintro e w9 ⟨rfl, hb9⟩
        refine ⟨_, rfl, ?_⟩
        have HE9 := Aside0.mk (HE8.out.below hb9)
        have HM9 := Aside0.mk (HM8.out.below hb9)
        have HQ9 := Aside0.mk (blk_below HQ8.out hb9)
        have c9 : w9.cell? ⟨b, i, none⟩ = some (.int .i64 (rd st i)) := by obtain ⟨b', hA, hc, _⟩ := HE9.out.cell hi; cases hA; exact hc
        have f9 : w9.frozen? ⟨b, i, none⟩ = false := by obtain ⟨b', hA, _, hf, _⟩ := HE9.out.cell hi; cases hA; exact hf
        clear hb9
        refine hK.out _ _ ⟨HE9.out.c0, HE9.out.c1, c9⟩ (fun hHeld => ?_)
        clear hK K
        refine norm_ (a' := ?_) ?_ ?_
        rotate_left
        · show Act.put _ (some 119) _ = _
          simp only [Act.put, List.setIfInBounds_toArray, List.set_cons_zero, List.set_cons_succ, i64_w, i32_w]
          rfl
        refine pure_ (i := 21) (N := some 120) (v := ?_) (a' := ?_) #[true, true, true, true, true, true, true, true, true, true, true, true, true, true, true, true, true, true, true, true, true, true, false] rfl rfl (by kernel_rfl) (fun _ _ _ h => h) (Or.inl ⟨by rfl, ?_⟩) ?_ ?_
        rotate_left
        · intro w'
          go_simp
          with_reducible rfl
        rotate_left
        · simp only [Act.put, List.setIfInBounds_toArray, List.set_cons_zero, List.set_cons_succ, i64_w, i32_w]
          rfl
        refine last_ (i := 22) (N := none) #[true, true, true, true, true, true, true, true, true, true, true, true, true, true, true, true, true, true, true, true, true, true, true] rfl rfl (by kernel_rfl) (by decide) (fun K hK => ?_)
        refine skip_ (w1 := ?_) (by rfl) rfl ?_ ?_
        rotate_left
        · go_simp
          rfl
        refine hK.out _ _ ?_
        clear hK K
        refine done_ (by kernel_rfl) ?_
        obtain ⟨w10, hw10⟩ : ∃ w10, w10 = w9.setCell ⟨b, i, none⟩ (.int .i64 (after kind (rd st i) 1)) := ⟨_, rfl⟩
        rw [← hw10]
        have HE10 := Aside0.mk (show RDecRow w10 S g kind (some ⟨b, 0, none⟩) c (st.set i (after kind (rd st i) 1)) low high (.slice Ac code.length cc) code a value ((a - code.length : Nat) : Int) false from hw10 ▸ HE9.out.setst hi _)
        have HM10 := Aside0.mk (show Mods w w10 S from hw10 ▸ HM9.out.setCell (.inl hSb2) _)
        have hqb : q ≠ b := fun he => HQN.out (he ▸ hSb2)
        have HQ10 := Aside0.mk (show w10.heap[q]? = some (.cells #[.int .u64 l, .int .u64 h] 101 (0, 0)) from hw10 ▸ blk_far HQ9.out hqb _)
        have z0 : w10.cell? ⟨q, 0, none⟩ = some (.int .u64 l) := (blk_cell HQ10.out 0).trans rfl
        have z1 : w10.cell? ⟨q, 1, none⟩ = some (.int .u64 h) := (blk_cell HQ10.out 1).trans rfl
        have c2 := HE10.out.c2
        have c3 := HE10.out.c3
        have c5 := HE10.out.c5
        have c6 := HE10.out.c6
        have c7 := HE10.out.c7
        have f2 := HE10.out.fz 2
        have f3 := HE10.out.fz 3
        have f5 := HE10.out.fz 5
        have f6 := HE10.out.fz 6
        have f7 := HE10.out.fz 7
        clear hw10 k0 k1 ks c9 f9
        go_wp2
        go_ret2
        have h1 := HKV.out
        refine ⟨⟨l, h, n, HN.out, .inr ⟨by have := HB4.out; have := HBE.out; omega, rfl, ?_⟩⟩, ((((HM10.out.setCell (p := ⟨g, 2, none⟩) (.inl hSg) _).setCell (p := ⟨g, 3, none⟩) (.inl hSg) _).setCell (p := ⟨g, 5, none⟩) (.inl hSg) _).setCell (p := ⟨g, 6, none⟩) (.inl hSg) _).setCell (p := ⟨g, 7, none⟩) (.inl hSg) _⟩
        rw [← h1.2, ← h1.1, HBE.out]
        exact ((((HE10.out.put (low' := l) 2 _ rfl).put (high' := h) 3 _ rfl).put (a' := (k : Int)) 5 _ rfl).put (value' := v) 6 _ rfl).put (be' := (be : Int)) 7 _ rfl
end Go.Proofs.Ytlnhahnnjbfjdaa.RDec
namespace Go.Proofs.Ytlnhahnnjbfjdaa.RDecNew
open Go Go.RowKit Go.Proofs.YtlnhahnnjbfjdaaW.PrintWords Go.Proofs.YtlnhahnnjbfjdaaW.PrintLast Go.Proofs.YtlnhahnnjbfjdaaW.PrintMore Go.Proofs.Ytlnhahnnjbfjdaa.Aid Go.Proofs.Ytlnhahnnjbfjdaa.HandAid Go.Proofs.Ytlnhahnnjbfjdaa.Cod1 Go.Proofs.Ytlnhahnnjbfjdaa.Cod2 Go.Proofs.Ytlnhahnnjbfjdaa.Cod3 Go.Proofs.Ytlnhahnnjbfjdaa.Mod Go.Proofs.Ytlnhahnnjbfjdaa.Enc Go.Proofs.Ytlnhahnnjbfjdaa.Mods Go.Proofs.Ytlnhahnnjbfjdaa.EncAt Go.Proofs.Ytlnhahnnjbfjdaa.Put Go.Proofs.Ytlnhahnnjbfjdaa.End Go.Proofs.Ytlnhahnnjbfjdaa.Snc Go.Proofs.Ytlnhahnnjbfjdaa.RefAt Go.Proofs.Ytlnhahnnjbfjdaa.Dec Go.Proofs.Ytlnhahnnjbfjdaa.Get Go.Proofs.Ytlnhahnnjbfjdaa.DecNew Go.Proofs.Ytlnhahnnjbfjdaa.RDec Go.Proofs.Ytlnhahnnjbfjdaa.U
attribute [local go_sem low] max2_int
attribute [local go_sem] min2_int max_two min_two
theorem max_sub4 (n : Nat) : Builtin.max2 (.int .i64 0) (.int .i64 (4 - (n : Int))) = pure (.int .i64 ((4 - n : Nat) : Int)) := by
  rw [max2_int]
  congr 2
  split <;> omega
attribute [local go_sem high] max_sub4
theorem shV_small {code : List Int} (hb : Bytes code) (k : Nat) (hk : k < 4) : shV code k 0 0 < 16777216 := by
  have h0 := byteOf_range hb 0
  have h1 := byteOf_range hb 1
  have h2 := byteOf_range hb 2
  match k, hk with
  | 0, _ => simp only [shV]; omega
  | 1, _ => simp only [shV, Nat.zero_add, Nat.reduceAdd]; omega
  | 2, _ => simp only [shV, Nat.zero_add, Nat.reduceAdd]; omega
  | 3, _ => simp only [shV, Nat.zero_add, Nat.reduceAdd]; omega
/-- The reference's decoder in memory. -/
def RDecAt (W : World) (S : Nat → Prop) (g : Nat) (s : DS) : Prop := ∃ A c vc, RDecRow W S g s.kind A c s.st s.low s.high vc s.code s.a s.value ((s.a - s.code.length : Nat) : Int) s.ended
theorem RDecAt.kept {W W' : World} {S S' : Nat → Prop} {g : Nat} {s : DS} (h : RDecAt W S g s) (hk : Mods W W' S') (hne : ∀ k, S k → ¬ S' k) : RDecAt W' S g s := by
  obtain ⟨A, c, vo, h⟩ := h
  exact ⟨A, c, vo, h.kept hk hne⟩
theorem RDecAt.below {W W' : World} {S : Nat → Prop} {g : Nat} {s : DS} (h : RDecAt W S g s) (hb : Below W.heap.size W W') : RDecAt W' S g s := by
  obtain ⟨A, c, vo, h⟩ := h
  exact ⟨A, c, vo, h.below hb⟩
theorem RDecAt.mono {W : World} {S S' : Nat → Prop} {g : Nat} {s : DS} (h : RDecAt W S g s) (hs : ∀ k, S k → S' k) : RDecAt W S' g s := by
  obtain ⟨A, c, vo, h⟩ := h
  exact ⟨A, c, vo, h.mono hs⟩
theorem rget_end (w : World) (g : Nat) (i : Nat) (n : Nat) (A : Option Addr) (c : Nat) (hi : i < n) (h1 : w.cell? ⟨g, 1, none⟩ = some (.slice A n c)) (h3 : w.cell? ⟨g, 8, none⟩ = some (.bool true)) :
    Calls Try.prog 61 #[.pointer (some ⟨g, 0, none⟩), .int .i64 i] w fun e w' => e = .returned (.tuple #[.int .i64 0, .int .i64 6]) ∧ w = w' := by
  have hi1 : (0 : Int) ≤ (i : Int) := by omega
  have hi2 : (i : Int) < (n : Int) := by omega
  go_enter Try.func61, Try.ntmps61
  go_wp2
  go_ret2
  exact ⟨rfl, rfl⟩
theorem rget_bad (w : World) (g : Nat) (i : Int) (n : Nat) (A : Option Addr) (c : Nat) (hi : ¬ (0 ≤ i ∧ i < n)) (h1 : w.cell? ⟨g, 1, none⟩ = some (.slice A n c)) :
    Calls Try.prog 61 #[.pointer (some ⟨g, 0, none⟩), .int .i64 i] w fun e w' => e = .returned (.tuple #[.int .i64 0, .int .i64 2]) ∧ w = w' := by
  have hi' : i < 0 ∨ (i ≥ n ∧ ¬ i < 0) := by omega
  clear hi
  rcases hi' with h | ⟨h, h0⟩
  · go_enter Try.func61, Try.ntmps61
    go_wp2
    go_ret2
    exact ⟨rfl, rfl⟩
  · go_enter Try.func61, Try.ntmps61
    go_wp2
    go_ret2
    exact ⟨rfl, rfl⟩
theorem rget_calls (w : World) (S : Nat → Prop) (g : Nat) (s : DS) (i : Int) (hE : RDecAt w S g s) (hS : ∀ k, S k → k < w.heap.size) (hok : s.ok) :
    Calls Try.prog 61 #[.pointer (some ⟨g, 0, none⟩), .int .i64 i] w fun e w' => e = .returned (.tuple #[.int .i64 (s.getI i).2.1, .int .i64 (s.getI i).2.2]) ∧ RDecAt w' S g (s.getI i).1 ∧ Mods w w' S := by
  obtain ⟨A, c, vo, hR⟩ := hE
  unfold DS.getI
  by_cases hi : 0 ≤ i ∧ i < s.st.length
  · rw [if_pos hi]
    obtain ⟨j, rfl⟩ : ∃ j : Nat, i = (j : Int) := ⟨i.toNat, by omega⟩
    rw [Int.toNat_natCast]
    have hj : j < s.st.length := by omega
    by_cases he : s.ended = true
    · rw [if_pos he]
      have h40 := hR.c8
      rw [he] at h40
      refine (rget_end w g j s.st.length A c hj hR.c1 h40).mono ?_
      rintro e w' ⟨rfl, rfl⟩
      exact ⟨rfl, ⟨A, c, vo, hR⟩, Mods.refl _ _⟩
    · rw [if_neg he]
      have hef : s.ended = false := by simpa using he
      obtain ⟨b, rfl, _⟩ := hR.cell hj
      have hm := DS.mid_ hok hj
      have hc := DS.cut_ hok hj
      have hl := hok.l
      have hh := hok.h
      have hI : PutInv [] (cutL s.low (s.mid j) (s.bit j)) (cutH s.high (s.mid j) (s.bit j)) 4 (cutL s.low (s.mid j) (s.bit j)) (cutH s.high (s.mid j) (s.bit j)) [] := ⟨hc.1, hc.2.1, hc.2.2, by rw [show (256 : Int) ^ 4 = 4294967296 from rfl]; omega, rfl, rfl, Nat.le_refl _⟩
      have key : Calls Try.prog 61 #[.pointer (some ⟨g, 0, none⟩), .int .i64 j] w (RGetPost w S g s.kind b c s.st s.low s.high (s.mid j) vo s.code s.a s.value j (s.bit j)) := by
        rw [hef] at hR
        by_cases hv : s.value ≤ s.mid j
        · have hb : s.bit j = 1 := if_pos hv
          rw [hb] at hI ⊢
          exact rget_row1 w S g s.kind b c s.st s.low s.high (s.mid j) vo s.code s.a s.value j hR hS hj hok.m.2.1 (DS.at_ hok hj) hl hok.lh hh rfl (by omega) (by omega) hI hok.v0 hok.v1 hok.by_ hok.len hok.be hv
        · have hb : s.bit j = 0 := if_neg hv
          rw [hb] at hI ⊢
          exact rget_row0 w S g s.kind b c s.st s.low s.high (s.mid j) vo s.code s.a s.value j hR hS hj hok.m.2.1 (DS.at_ hok hj) hl hok.lh hh rfl (by omega) (by omega) hI hok.v0 hok.v1 hok.by_ hok.len hok.be hv
      refine key.mono ?_
      rintro e w' ⟨⟨l, h, n, hn, hq⟩, hk⟩
      have hn' : s.norm j = (n, l, h) := hn
      rw [hn']
      rcases hq with ⟨hb, rfl, hD⟩ | ⟨hb, rfl, hD⟩
      · rw [if_pos hb]
        exact ⟨rfl, ⟨_, c, vo, hD⟩, hk⟩
      · rw [if_neg hb]
        refine ⟨rfl, ⟨some ⟨b, 0, none⟩, c, vo, ?_⟩, hk⟩
        have e1 : s.next j = ⟨s.kind, s.st.set j (after s.kind (rd s.st j) (s.bit j)), l, h, s.code, s.a + n.length, shV s.code n.length s.value s.a, false⟩ := by
          unfold DS.next
          rw [hn']
        rw [e1]
        exact hD
  · rw [if_neg hi]
    refine (rget_bad w g i s.st.length A c hi hR.c1).mono ?_
    rintro e w' ⟨rfl, rfl⟩
    exact ⟨rfl, ⟨A, c, vo, hR⟩, Mods.refl _ _⟩
theorem dec9_new (kind : Int) (v vc : Value) (be : Int) : dec9 kind v 0 4294967295 vc 4 0 be false = #[.int .i64 kind, v, .int .u64 0, .int .u64 4294967295, vc, .int .i64 4, .int .u64 0, .int .i64 be, .bool false] := rfl
def RNewDecPost (w : World) (kind : Int) (st code : List Int) (e : Ending) (w' : World) : Prop := ∃ g, e = .returned (.tuple #[.pointer (some ⟨g, 0, none⟩), .int .i64 0]) ∧ RDecAt w' (Since w.heap.size w') g (newDS kind st code) ∧ Below w.heap.size w w'
set_option maxHeartbeats 4000000 in
set_option maxRecDepth 100000 in
theorem rnew_dec (A : Option Addr) (c : Nat) (kind : Int) (st : List Int) (Ac : Option Addr) (cc : Nat) (code : List Int) (w : World) (hC : Kd.C (Kd.int .i64) w A st.length st) (hc : st.length ≤ c) (hm : okModel kind st) (hCc : Kd.C (Kd.int .u8) w Ac code.length code) (hcc : code.length ≤ cc) (hby : Bytes code) (hlen : code.length ≤ 1099511627776) :
    Calls Try.prog 24 #[.agg #[.int .i64 kind, .slice A st.length c], .slice Ac code.length cc] w (RNewDecPost w kind st code) := by
  have HC := Aside0.mk hC
  have HCc := Aside0.mk hCc
  have hv := ref_valid_calls A c kind st
  rw [decide_eq_true hm] at hv
  have HV := Aside0.mk hv
  have HM := Aside0.mk hm
  have HBY := Aside0.mk hby
  have hl := hm.2.1
  have hu := Try.underlying45
  clear hC hv hm hCc hby
  have hb0 := Aside0.mk (below_alloc (Below.refl w.heap.size w) (.cells #[.int .i64 kind, .slice A st.length c] 45))
  have hq0 : Aside0 ((w.alloc (.cells #[.int .i64 kind, .slice A st.length c] 45)).heap[w.heap.size]? = some (.cells #[.int .i64 kind, .slice A st.length c] 45 (0, 0))) := ⟨heap_new _ _⟩
  go_enter Try.func24, Try.ntmps24
  go_wp2_with (first
    | (go_at_call 52; refine (HV.out _ (Kd.C_below HC.out hb0.out) hc).mono ?_; rintro e w1 ⟨rfl, hB⟩; have HB := Aside0.mk (below_then hb0.out hb0.out.size hB); have hq1 : Aside0 (w1.heap[w.heap.size]? = some (.cells #[.int .i64 kind, .slice A st.length c] 45 (0, 0))) := ⟨(hB.block _ (blk_lt hq0.out)).trans hq0.out⟩; have k0 : w1.cell? ⟨w.heap.size, 0, none⟩ = some (.int .i64 kind) := (blk_cell hq1.out 0).trans rfl; have k1 : w1.cell? ⟨w.heap.size, 1, none⟩ = some (.slice A st.length c) := (blk_cell hq1.out 1).trans rfl; clear hB)
    | (go_at_call 53; refine (copy_calls A c kind st _ (Kd.C_below HC.out HB.out) hc (by omega)).mono ?_; rintro e w2 ⟨A2, c2, rfl, hR, hB⟩; have HB2 := Aside0.mk (below_then HB.out HB.out.size hB); have HR := Aside0.mk (Kd.R_lower hR HB.out.size); clear hR hB)
    | (go_at_call 54; refine (incunableref02_Whole.calls 0 4294967295 _ rfl).mono ?_; rintro e w3 ⟨rfl, hB⟩; have HB3 := Aside0.mk (below_then HB2.out HB2.out.size hB); have HR3 := Aside0.mk (Kd.R_alloc (Kd.R_below HR.out hB) (.cells #[] 5)); have HR1 : Aside0 (Kd.R (Kd.int .u8) 5 (w3.alloc (.cells #[] 5)) w.heap.size (fun _ => True) (.slice (some ⟨w3.heap.size, 0, none⟩) 0 0) []) := ⟨Kd.R_of_own (enc := Value.int .u8) (World.ownsRow_lit w3 #[] 0 HB3.out.size (by decide) rfl) (fun _ _ => trivial)⟩; have HB3' := Aside0.mk (below_alloc HB3.out (.cells #[] 5)); have HCo := Aside0.mk (Kd.C_below HCc.out HB3'.out); clear hB)
    | (at_builtin; refine Kd.R_append_rows (Kd.int .u8) (w0 := w) w.heap.size (by rfl) (.tmp 14) (.tmp 15) 34 5 (.int .u8 0) 1 rfl Try.underlying34 infoU8 rfl (by decide) (by omega) (.slice (some ⟨w3.heap.size, 0, none⟩) 0 0) [] code _ _ _ (fun _ => True) (fun _ => False) rfl rfl HR1.out HCo.out (fun _ _ h => h) (fun _ h => h.elim) (fun _ _ => trivial) HB3'.out HB3'.out.size (by simp only [List.length_nil]; omega) ?_; intro v4 w4 hR4 hB4 hg4 hat4; rw [List.nil_append] at hR4; obtain ⟨A3, c3, hv3⟩ := Kd.R_slice hR4; subst hv3; have HS4 := Aside0.mk (Kd.R_over HR3.out HR1.out (by decide) hg4); have HR4 := Aside0.mk hR4; have HB4 := Aside0.mk hB4; clear hR4 hB4 hg4 hat4))
  clear HR1 HR HR3 HCo HB3' HV
  rw [← dec9_new]
  have HR0 := Aside0.mk (heap_new w4 (.cells (dec9 kind (.slice A2 st.length c2) 0 4294967295 (.slice A3 code.length c3) 4 0 ((4 - code.length : Nat) : Int) false) 104))
  have HB5 := Aside0.mk (below_alloc HB4.out (.cells (dec9 kind (.slice A2 st.length c2) 0 4294967295 (.slice A3 code.length c3) 4 0 ((4 - code.length : Nat) : Int) false) 104))
  have HRS := Aside0.mk (Kd.R_alloc HS4.out (.cells (dec9 kind (.slice A2 st.length c2) 0 4294967295 (.slice A3 code.length c3) 4 0 ((4 - code.length : Nat) : Int) false) 104))
  have HRO := Aside0.mk (Kd.R_alloc HR4.out (.cells (dec9 kind (.slice A2 st.length c2) 0 4294967295 (.slice A3 code.length c3) 4 0 ((4 - code.length : Nat) : Int) false) 104))
  generalize w4.alloc (.cells (dec9 kind (.slice A2 st.length c2) 0 4294967295 (.slice A3 code.length c3) 4 0 ((4 - code.length : Nat) : Int) false) 104) = w5 at HR0 HB5 HRS HRO ⊢
  have HQ3 := Aside0.mk HB4.out.size
  obtain ⟨q, hq⟩ : ∃ q, w4.heap.size = q := ⟨_, rfl⟩
  rw [hq] at HR0 HQ3 ⊢
  obtain ⟨S, hS⟩ : ∃ S : Nat → Prop, S = Since w.heap.size w5 := ⟨_, rfl⟩
  have HE0 : Aside0 (RDecRow w5 S q kind A2 c2 st 0 4294967295 (.slice A3 code.length c3) code 4 0 ((4 - code.length : Nat) : Int) false) := ⟨by
    subst hS
    exact ⟨HR0.out, Kd.R_lower (Kd.R_mono (Kd.R_bound HRS.out) fun k hk => ⟨hk.2.1, hk.2.2.1⟩) (Nat.zero_le _), Kd.R_lower (Kd.R_mono (Kd.R_bound HRO.out) fun k hk => ⟨hk.2.1, hk.2.2.1⟩) (Nat.zero_le _), ⟨HQ3.out, blk_lt HR0.out⟩⟩⟩
  have HS := Aside0.mk hS
  clear hS HR0 HRS HRO HS4 HR4 HB4 HB3 HB2 HB hq hq0 hq1 hb0 k0 k1
  go_loopw [7] (fun i wr => ∃ (k : Nat), k ≤ 4 ∧ i = .int .i64 k ∧ Aside0 (RDecRow wr S q kind A2 c2 st 0 4294967295 (.slice A3 code.length c3) code 4 (shV code k 0 0) ((4 - code.length : Nat) : Int) false) ∧ Aside0 (Mods w5 wr S)) (fun i _ => 5 - (intOf i).toNat)
  case atStart => exact ⟨0, by omega, rfl, HE0, ⟨Mods.refl _ _⟩⟩
  clear HE0
  case round =>
    obtain ⟨k, hk, rfl, HE, HK⟩ := hrel
    by_cases h4 : (k : Int) < 4
    · have hv0 := shV_range HBY.out k 0 0 (by omega) (by omega)
      have hv1 := shV_small HBY.out k (by omega)
      have hbr := byteOf_range HBY.out k
      go_wp2
      have HE := Aside0.mk HE.out.drew
      have HK := Aside0.mk HK.out.drew
      have p4 := HE.out.c4
      have p6 := HE.out.c6
      have f6 := HE.out.fz 6
      refine start_ (n := 16) (S := fun w' => w'.cell? ⟨q, 4, none⟩ = some (.slice A3 code.length c3) ∧ w'.cell? ⟨q, 6, none⟩ = some (.int .u64 (shV code k 0 0))) (ds := [15]) #[false, false, false, false, false, false, false, false, false, false, false, false, false, false, false, false] (by kernel_rfl) rfl rfl ⟨p4, p6⟩ (fun hHeld => ?_)
      refine pure_ (i := 0) (N := some 27) (v := ?_) (a' := ?_) #[true, false, false, false, false, false, false, false, false, false, false, false, false, false, false, false] rfl rfl (by kernel_rfl) (fun _ _ _ h => h) (Or.inl ⟨by rfl, ?_⟩) ?_ ?_
      rotate_left
      · intro w'
        go_simp
        with_reducible rfl
      rotate_left
      · simp only [Act.put, List.setIfInBounds_toArray, List.set_cons_zero, List.set_cons_succ, i64_w, i32_w]
        rfl
      refine pure_ (i := 1) (N := some 28) (v := ?_) (a' := ?_) #[true, true, false, false, false, false, false, false, false, false, false, false, false, false, false, false] rfl rfl (by kernel_rfl) (fun _ _ _ h => h) (Or.inl ⟨by rfl, ?_⟩) ?_ ?_
      rotate_left
      · intro w'
        go_simp
        with_reducible rfl
      rotate_left
      · simp only [Act.put, List.setIfInBounds_toArray, List.set_cons_zero, List.set_cons_succ, i64_w, i32_w]
        rfl
      refine pure_ (i := 2) (N := some 29) (v := ?_) (a' := ?_) #[true, true, true, false, false, false, false, false, false, false, false, false, false, false, false, false] rfl rfl (by kernel_rfl) (fun _ _ _ h => h) (Or.inl ⟨by rfl, ?_⟩) ?_ ?_
      rotate_left
      · intro w'
        go_simp
        with_reducible rfl
      rotate_left
      · simp only [Act.put, List.setIfInBounds_toArray, List.set_cons_zero, List.set_cons_succ, i64_w, i32_w]
        rfl
      refine pure_ (i := 3) (N := some 30) (v := ?_) (a' := ?_) #[true, true, true, true, false, false, false, false, false, false, false, false, false, false, false, false] rfl rfl (by kernel_rfl) (fun _ _ _ h => h) (Or.inl ⟨by rfl, ?_⟩) ?_ ?_
      rotate_left
      · intro w'
        go_simp
        with_reducible rfl
      rotate_left
      · simp only [Act.put, List.setIfInBounds_toArray, List.set_cons_zero, List.set_cons_succ, i64_w, i32_w]
        rfl
      refine pure_ (i := 6) (N := some 33) (v := ?_) (a' := ?_) #[true, true, true, true, false, false, true, false, false, false, false, false, false, false, false, false] rfl rfl (by kernel_rfl) (fun _ _ _ h => h) (Or.inl ⟨by rfl, ?_⟩) ?_ ?_
      rotate_left
      · intro w'
        go_simp
        with_reducible rfl
      rotate_left
      · simp only [Act.put, List.setIfInBounds_toArray, List.set_cons_zero, List.set_cons_succ, i64_w, i32_w]
        rfl
      refine pure_ (i := 7) (N := some 34) (v := ?_) (a' := ?_) #[true, true, true, true, false, false, true, true, false, false, false, false, false, false, false, false] rfl rfl (by kernel_rfl) (fun _ _ _ h => h) (Or.inl ⟨by rfl, ?_⟩) ?_ ?_
      rotate_left
      · intro w'
        go_simp
        with_reducible rfl
      rotate_left
      · simp only [Act.put, List.setIfInBounds_toArray, List.set_cons_zero, List.set_cons_succ, i64_w, i32_w]
        rfl
      refine pure_ (i := 8) (N := some 35) (v := ?_) (a' := ?_) #[true, true, true, true, false, false, true, true, true, false, false, false, false, false, false, false] rfl rfl (by kernel_rfl) (fun _ _ _ h => h) (Or.inl ⟨by rfl, ?_⟩) ?_ ?_
      rotate_left
      · intro w'
        go_simp
        with_reducible rfl
      rotate_left
      · simp only [Act.put, List.setIfInBounds_toArray, List.set_cons_zero, List.set_cons_succ, i64_w, i32_w]
        rfl
      refine pure_ (i := 10) (N := some 37) (v := ?_) (a' := ?_) #[true, true, true, true, false, false, true, true, true, false, true, false, false, false, false, false] rfl rfl (by kernel_rfl) (fun _ _ _ h => h) (Or.inl ⟨by rfl, ?_⟩) ?_ ?_
      rotate_left
      · intro w'
        go_simp
        with_reducible rfl
      rotate_left
      · simp only [Act.put, List.setIfInBounds_toArray, List.set_cons_zero, List.set_cons_succ, i64_w, i32_w]
        rfl
      refine take_ (i := 4) (N := some 31) (v := ?_) (a' := ?_) #[true, true, true, true, true, false, true, true, true, false, true, false, false, false, false, false] rfl rfl (by kernel_rfl) (fun _ _ _ h => h) (Or.inl ⟨by rfl, ?_⟩) hHeld ?_ ?_
      rotate_left
      · rintro w' ⟨s0, s1⟩
        go_simp
        with_reducible rfl
      rotate_left
      · simp only [Act.put, List.setIfInBounds_toArray, List.set_cons_zero, List.set_cons_succ, i64_w, i32_w]
        rfl
      refine pure_ (i := 5) (N := some 32) (v := ?_) (a' := ?_) #[true, true, true, true, true, true, true, true, true, false, true, false, false, false, false, false] rfl rfl (by kernel_rfl) (fun _ _ _ h => h) (Or.inl ⟨by rfl, ?_⟩) ?_ ?_
      rotate_left
      · intro w'
        go_simp
        with_reducible rfl
      rotate_left
      · simp only [Act.put, List.setIfInBounds_toArray, List.set_cons_zero, List.set_cons_succ, i64_w, i32_w]
        rfl
      refine take_ (i := 9) (N := some 36) (v := ?_) (a' := ?_) #[true, true, true, true, true, true, true, true, true, true, true, false, false, false, false, false] rfl rfl (by kernel_rfl) (fun _ _ _ h => h) (Or.inl ⟨by rfl, ?_⟩) hHeld ?_ ?_
      rotate_left
      · rintro w' ⟨s0, s1⟩
        go_simp
        with_reducible rfl
      rotate_left
      · simp only [Act.put, List.setIfInBounds_toArray, List.set_cons_zero, List.set_cons_succ, i64_w, i32_w]
        rfl
      refine one_ (i := 11) (N := some 38) #[true, true, true, true, true, true, true, true, true, true, true, true, false, false, false, false] rfl rfl (by kernel_rfl) (by decide) (fun K hK => ?_)
      refine goes_ Try.func55 (by kernel_rfl) rfl #[.slice A3 code.length c3, .int .i64 k] (by rfl) rfl rfl (by simp only [List.map_toArray, List.map_cons, List.map_nil]; rfl) ?_
      with_reducible refine (byte_calls A3 c3 code k _ (Kd.R_reads' HE.out.o).2.2 HBY.out).mono ?_
      rintro e w8 ⟨rfl, rfl⟩
      refine ⟨_, rfl, ?_⟩
      refine hK.out _ _ ⟨p4, p6⟩ (fun hHeld => ?_)
      clear hK K
      refine norm_ (a' := ?_) ?_ ?_
      rotate_left
      · show Act.put _ (some 38) _ = _
        simp only [Act.put, List.setIfInBounds_toArray, List.set_cons_zero, List.set_cons_succ, i64_w, i32_w]
        rfl
      refine pure_ (i := 12) (N := some 39) (v := ?_) (a' := ?_) #[true, true, true, true, true, true, true, true, true, true, true, true, true, false, false, false] rfl rfl (by kernel_rfl) (fun _ _ _ h => h) (Or.inl ⟨by rfl, ?_⟩) ?_ ?_
      rotate_left
      · intro w'
        go_simp
        with_reducible rfl
      rotate_left
      · simp only [Act.put, List.setIfInBounds_toArray, List.set_cons_zero, List.set_cons_succ, i64_w, i32_w]
        rfl
      refine pure_ (i := 13) (N := some 40) (v := ?_) (a' := ?_) #[true, true, true, true, true, true, true, true, true, true, true, true, true, true, false, false] rfl rfl (by kernel_rfl) (fun _ _ _ h => h) (Or.inl ⟨by rfl, ?_⟩) ?_ ?_
      rotate_left
      · intro w'
        go_simp
        with_reducible rfl
      rotate_left
      · simp only [Act.put, List.setIfInBounds_toArray, List.set_cons_zero, List.set_cons_succ, i64_w, i32_w]
        rfl
      refine pure_ (i := 14) (N := some 41) (v := ?_) (a' := ?_) #[true, true, true, true, true, true, true, true, true, true, true, true, true, true, true, false] rfl rfl (by kernel_rfl) (fun _ _ _ h => h) (Or.inl ⟨by rfl, ?_⟩) ?_ ?_
      rotate_left
      · intro w'
        go_simp
        with_reducible rfl
      rotate_left
      · simp only [Act.put, List.setIfInBounds_toArray, List.set_cons_zero, List.set_cons_succ, i64_w, i32_w]
        rfl
      refine last_ (i := 15) (N := none) #[true, true, true, true, true, true, true, true, true, true, true, true, true, true, true, true] rfl rfl (by kernel_rfl) (by decide) (fun K hK => ?_)
      refine skip_ (w1 := ?_) (by rfl) rfl ?_ ?_
      rotate_left
      · go_simp
        rfl
      refine hK.out _ _ ?_
      clear hK K
      refine done_ (by kernel_rfl) ?_
      go_wp2
      go_roundw
      case measure => simp only [intOf]; omega
      case rel =>
        refine ⟨k + 1, by omega, rfl, ⟨?_⟩, ⟨HK.out.setCell (p := ⟨q, 6, none⟩) (.inl HE.out.g) _⟩⟩
        have e9 := shV_succ code k 0 0
        rw [Nat.zero_add, Int.emod_eq_of_lt hv0.1 hv1] at e9
        rw [e9]
        exact HE.out.put 6 _ rfl
    · have e4 : k = 4 := by omega
      subst e4
      go_wp2
      go_ret2
      have hb := below_mods HB5.out HK.out (fun k hk => by rw [HS.out] at hk; exact hk.1) HB5.out.size
      refine ⟨q, rfl, ⟨A2, c2, .slice A3 code.length c3, HE.out.mono fun k hk => ?_⟩, hb⟩
      rw [HS.out] at hk
      exact ⟨hk.1, Nat.lt_of_lt_of_le hk.2 HK.out.size⟩
set_option maxRecDepth 100000 in
theorem rdec_model_calls (w : World) (S : Nat → Prop) (g : Nat) (s : DS) (hE : RDecAt w S g s) (hok : s.ok) :
    Calls Try.prog 60 #[.pointer (some ⟨g, 0, none⟩)] w (MPost w s.kind s.st) := by
  obtain ⟨A, c, vo, hR⟩ := hE
  have HE := Aside0.mk (hR.below (below_alloc (Below.refl _ _) (.cells #[.int .i64 0, .slice none 0 0] 45)))
  have HB := Aside0.mk (below_alloc (Below.refl w.heap.size w) (.cells #[.int .i64 0, .slice none 0 0] 45))
  have HZ := Aside0.mk (heap_new w (.cells #[.int .i64 0, .slice none 0 0] 45))
  have hu := Try.underlying45
  have k0 := HE.out.c0
  have k1 := HE.out.c1
  have hl := hok.m.2.1
  obtain ⟨hn, hc, hC⟩ := Kd.R_reads' HE.out.s
  have HC := Aside0.mk hC
  obtain ⟨b2, hb2⟩ : ∃ b2, w.heap.size = b2 := ⟨_, rfl⟩
  have HSZ := Aside0.mk hb2
  rw [hb2] at HZ
  clear hR hn hC
  go_enter Try.func60, Try.ntmps60
  go_wp2_with (go_at_call 53; refine (copy_calls A c s.kind s.st _ HC.out hc (by omega)).mono ?_; rintro e w4 ⟨A4, c4, rfl, hR4, hB4⟩; have HR4 := Aside0.mk (Kd.R_lower hR4 HB.out.size); have HB4 := Aside0.mk (below_then HB.out HB.out.size hB4); have HZ4 := Aside0.mk (blk_below HZ.out hB4); have z0 : w4.cell? ⟨b2, 0, none⟩ = some (.int .i64 0) := (blk_cell HZ4.out 0).trans rfl; have z1 : w4.cell? ⟨b2, 1, none⟩ = some (.slice none 0 0) := (blk_cell HZ4.out 1).trans rfl; have zf0 := blk_frozen HZ4.out 0; have zf1 := blk_frozen HZ4.out 1; clear hR4 hB4)
  have hz2 : (w4.setCell ⟨b2, 0, none⟩ (.int .i64 s.kind)).heap[b2]? = some (.cells #[.int .i64 s.kind, .slice none 0 0] 45 (0, 0)) := blk_put (cs := #[.int .i64 0, .slice none 0 0]) HZ4.out 0 _ rfl
  refine bodyPost_ret (results_cell_row rfl _ _ b2 45 #[.int .i64 s.kind, .slice A4 s.st.length c4] (0, 0) _ rfl (blk_put (cs := #[.int .i64 s.kind, .slice none 0 0]) hz2 1 _ rfl) Try.underlying45 rfl (by kernel_rfl)) rfl ?_
  have hwb : w.heap.size ≤ b2 := by rw [HSZ.out]; exact Nat.le_refl _
  exact ⟨A4, c4, rfl, Kd.R_set (Kd.R_set HR4.out HZ4.out (by decide) _ _) hz2 (by decide) _ _, (HB4.out.setCell hwb _).setCell hwb _⟩
end Go.Proofs.Ytlnhahnnjbfjdaa.RDecNew
namespace Go.Proofs.Ytlnhahnnjbfjdaa.Ngt
open Go Go.RowKit Go.Proofs.YtlnhahnnjbfjdaaW.PrintWords Go.Proofs.YtlnhahnnjbfjdaaW.PrintLast Go.Proofs.YtlnhahnnjbfjdaaW.PrintMore Go.Proofs.Ytlnhahnnjbfjdaa.Aid Go.Proofs.Ytlnhahnnjbfjdaa.HandAid Go.Proofs.Ytlnhahnnjbfjdaa.Cod1 Go.Proofs.Ytlnhahnnjbfjdaa.Cod2 Go.Proofs.Ytlnhahnnjbfjdaa.Cod3 Go.Proofs.Ytlnhahnnjbfjdaa.Mod Go.Proofs.Ytlnhahnnjbfjdaa.Enc Go.Proofs.Ytlnhahnnjbfjdaa.Mods Go.Proofs.Ytlnhahnnjbfjdaa.EncAt Go.Proofs.Ytlnhahnnjbfjdaa.Put Go.Proofs.Ytlnhahnnjbfjdaa.End Go.Proofs.Ytlnhahnnjbfjdaa.Snc Go.Proofs.Ytlnhahnnjbfjdaa.Dec Go.Proofs.Ytlnhahnnjbfjdaa.Get
/-- What a number is told with: the decoder behind it, the number, the error. -/
abbrev NR := DS × (Bool × Int) × Int
/-- The context of digit i of c, of a tree at a base. -/
def ctxOf (c i : Nat) : Int := if i = 0 then 23 + (c : Int) else min (43 + (i : Int)) 47
def signD (base : Int) (s : DS) (v : Int) : NR :=
  if v > 1048577 then (s, (false, 0), 3) else if v = 1 then (s, (false, 0), 0)
  else if (s.getI (base + 22)).2.2 = 0 then ((s.getI (base + 22)).1, (false, (v - 1) * (1 - 2 * (s.getI (base + 22)).2.1)), 0) else ((s.getI (base + 22)).1, (false, 0), (s.getI (base + 22)).2.2)
def digD (base : Int) (c : Nat) : Nat → Nat → DS → Int → NR
  | 0, _, s, v => signD base s v
  | r + 1, i, s, v => if (s.getI (base + ctxOf c i)).2.2 = 0 then digD base c r (i + 1) (s.getI (base + ctxOf c i)).1 (2 * v + (s.getI (base + ctxOf c i)).2.1) else ((s.getI (base + ctxOf c i)).1, (false, 0), (s.getI (base + ctxOf c i)).2.2)
def lenD (base : Int) : Nat → Nat → DS → NR
  | 0, c, s => digD base c c 0 s 1
  | f + 1, c, s => if (s.getI (base + 1 + c)).2.2 = 0 then (if (s.getI (base + 1 + c)).2.1 = 0 then digD base c c 0 (s.getI (base + 1 + c)).1 1 else lenD base f (c + 1) (s.getI (base + 1 + c)).1) else ((s.getI (base + 1 + c)).1, (false, 0), (s.getI (base + 1 + c)).2.2)
/-- The number that a decoder tells next, of the tree at a base. -/
def numD (base : Int) (s : DS) : NR :=
  if (s.getI base).2.2 = 0 then (if (s.getI base).2.1 = 1 then ((s.getI base).1, (true, 0), 0) else lenD base 20 0 (s.getI base).1) else ((s.getI base).1, (false, 0), (s.getI base).2.2)
theorem getI_len (s : DS) (i : Int) : (s.getI i).1.st.length = s.st.length := by
  unfold DS.getI
  split
  · split
    · rfl
    · split
      · rfl
      · show (s.st.set _ _).length = _
        exact List.length_set
  · rfl
theorem signD_len (base : Int) (s : DS) (v : Int) : (signD base s v).1.st.length = s.st.length := by
  unfold signD
  split
  · rfl
  · split
    · rfl
    · split <;> exact getI_len _ _
theorem digD_len (base : Int) (c : Nat) : ∀ (r i : Nat) (s : DS) (v : Int), (digD base c r i s v).1.st.length = s.st.length
  | 0, _, s, v => signD_len base s v
  | r + 1, i, s, v => by
    unfold digD
    split
    · exact (digD_len base c r _ _ _).trans (getI_len _ _)
    · exact getI_len _ _
theorem lenD_len (base : Int) : ∀ (f c : Nat) (s : DS), (lenD base f c s).1.st.length = s.st.length
  | 0, c, s => digD_len base c c 0 s 1
  | f + 1, c, s => by
    unfold lenD
    split
    · split
      · exact (digD_len base c c 0 _ 1).trans (getI_len _ _)
      · exact (lenD_len base f (c + 1) _).trans (getI_len _ _)
    · exact getI_len _ _
theorem numD_len (base : Int) (s : DS) : (numD base s).1.st.length = s.st.length := by
  unfold numD
  split
  · split
    · exact getI_len _ _
    · exact (lenD_len base 20 0 _).trans (getI_len _ _)
  · exact getI_len _ _
end Go.Proofs.Ytlnhahnnjbfjdaa.Ngt
namespace Go.Proofs.Ytlnhahnnjbfjdaa.Nwk
open Go Go.RowKit Go.Proofs.YtlnhahnnjbfjdaaW.PrintWords Go.Proofs.YtlnhahnnjbfjdaaW.PrintLast Go.Proofs.YtlnhahnnjbfjdaaW.PrintMore Go.Proofs.Ytlnhahnnjbfjdaa.Aid Go.Proofs.Ytlnhahnnjbfjdaa.HandAid Go.Proofs.Ytlnhahnnjbfjdaa.Cod1 Go.Proofs.Ytlnhahnnjbfjdaa.Cod2 Go.Proofs.Ytlnhahnnjbfjdaa.Cod3 Go.Proofs.Ytlnhahnnjbfjdaa.Mod Go.Proofs.Ytlnhahnnjbfjdaa.Enc Go.Proofs.Ytlnhahnnjbfjdaa.Mods Go.Proofs.Ytlnhahnnjbfjdaa.EncAt Go.Proofs.Ytlnhahnnjbfjdaa.Put Go.Proofs.Ytlnhahnnjbfjdaa.End Go.Proofs.Ytlnhahnnjbfjdaa.Snc Go.Proofs.Ytlnhahnnjbfjdaa.Dec Go.Proofs.Ytlnhahnnjbfjdaa.Get Go.Proofs.Ytlnhahnnjbfjdaa.Ngt
attribute [local go_sem] max2_int min2_int max_two min_two
theorem bit_range (s : DS) (i : Int) : 0 ≤ (s.getI i).2.1 ∧ (s.getI i).2.1 ≤ 1 := by
  unfold DS.getI
  split
  · split
    · exact ⟨Int.le_refl _, by show (0 : Int) ≤ 1; decide⟩
    · split
      · exact ⟨Int.le_refl _, by show (0 : Int) ≤ 1; decide⟩
      · have := DS.bit_ s i.toNat
        show 0 ≤ s.bit i.toNat ∧ s.bit i.toNat ≤ 1
        omega
  · exact ⟨Int.le_refl _, by show (0 : Int) ≤ 1; decide⟩
/-- What a decoder's row in memory is kept by. -/
class AtL (At : World → (Nat → Prop) → Nat → DS → Prop) : Prop where
  kept : ∀ {W W' : World} {S S' : Nat → Prop} {g : Nat} {s : DS}, At W S g s → Mods W W' S' → (∀ k, S k → ¬ S' k) → At W' S g s
  below : ∀ {W W' : World} {S : Nat → Prop} {g : Nat} {s : DS}, At W S g s → Below W.heap.size W W' → At W' S g s
  mono : ∀ {W : World} {S S' : Nat → Prop} {g : Nat} {s : DS}, At W S g s → (∀ k, S k → S' k) → At W S' g s
instance : AtL DecAt := ⟨fun h hk hne => DecAt.kept h hk hne, fun h hb => DecAt.below h hb, fun h hs => DecAt.mono h hs⟩
/-- A decoder at g, and what number.get has made: its result's cell. -/
structure GS (At : World → (Nat → Prop) → Nat → DS → Prop) (w : World) (S : Nat → Prop) (g gz : Nat) (s : DS) (W : World) : Prop where
  d : At W S g s
  m : Mods w W S
  z : W.heap[gz]? = some (.cells #[.bool false, .int .i64 0] 23 (0, 0))
  ok : s.ok
theorem GS.get {w W : World} {S : Nat → Prop} {g gz : Nat} {s : DS} (H : GS DecAt w S g gz s W) (hS : ∀ k, S k → k < w.heap.size) (hz : w.heap.size ≤ gz) (i : Int) :
    Calls Try.prog 56 #[.pointer (some ⟨g, 0, none⟩), .int .i64 i] W fun e W' => e = .returned (.tuple #[.int .i64 (s.getI i).2.1, .int .i64 (s.getI i).2.2]) ∧ GS DecAt w S g gz (s.getI i).1 W' ∧ Mods W W' S := by
  refine (get_calls W S g s i H.d (fun k hk => Nat.lt_of_lt_of_le (hS k hk) H.m.size) H.ok).mono ?_
  rintro e W' ⟨he, hE, hM⟩
  exact ⟨he, ⟨hE, H.m.then_ hM (fun k hk => .inl hk), blk_mods H.z hM (fun hk => by have := hS gz hk; omega), DS.getI_ok H.ok _⟩, hM⟩
/-- Another new block's cell is written. -/
theorem GS.tail {At : World → (Nat → Prop) → Nat → DS → Prop} [AtL At] {w W : World} {S : Nat → Prop} {g gz : Nat} {s : DS} (H : GS At w S g gz s W) (hS : ∀ k, S k → k < w.heap.size) {gt : Nat} (ht : w.heap.size ≤ gt) (hne : gt ≠ gz) (v : Value) : GS At w S g gz s (W.setCell ⟨gt, 0, none⟩ v) := by
  have h2 : Mods W (W.setCell ⟨gt, 0, none⟩ v) (fun k => k = gt) := (Mods.refl W (fun k => k = gt)).setCell (p := ⟨gt, 0, none⟩) (.inl rfl) v
  exact ⟨AtL.kept H.d h2 (fun k hk hk2 => by have := hS k hk; omega), H.m.then_ h2 (fun k hk => .inr (by omega)), blk_mods H.z h2 (fun hk => hne hk.symm), H.ok⟩
theorem GS.below {At : World → (Nat → Prop) → Nat → DS → Prop} [AtL At] {w W W' : World} {S : Nat → Prop} {g gz : Nat} {s : DS} (H : GS At w S g gz s W) (hb : Below W.heap.size W W') : GS At w S g gz s W' :=
  ⟨AtL.below H.d hb, H.m.below hb, blk_below H.z hb, H.ok⟩
theorem zset {W : World} {gz : Nat} {u v : Value} (h : W.heap[gz]? = some (.cells #[u, v] 23 (0, 0))) (p q : Value) :
    ((W.setCell ⟨gz, 0, none⟩ p).setCell ⟨gz, 1, none⟩ q).heap[gz]? = some (.cells #[p, q] 23 (0, 0)) := by simpa using blk_set (blk_set h 0 p) 1 q
/-- The end: the result's cell is written. -/
theorem GS.fin {At : World → (Nat → Prop) → Nat → DS → Prop} [AtL At] {w W : World} {S : Nat → Prop} {g gz : Nat} {s : DS} (H : GS At w S g gz s W) (hS : ∀ k, S k → k < w.heap.size) (hz : w.heap.size ≤ gz) (p q : Value) :
    At ((W.setCell ⟨gz, 0, none⟩ p).setCell ⟨gz, 1, none⟩ q) S g s ∧ Mods w ((W.setCell ⟨gz, 0, none⟩ p).setCell ⟨gz, 1, none⟩ q) S := by
  have h2 : Mods W ((W.setCell ⟨gz, 0, none⟩ p).setCell ⟨gz, 1, none⟩ q) (fun k => k = gz) := ((Mods.refl W (fun k => k = gz)).setCell (p := ⟨gz, 0, none⟩) (.inl rfl) p).setCell (p := ⟨gz, 1, none⟩) (.inl rfl) q
  exact ⟨AtL.kept H.d h2 (fun k hk hk2 => by have := hS k hk; omega), H.m.then_ h2 (fun k hk => .inr (by omega))⟩
theorem nret {W : World} {gz : Nat} {nn : Bool} {N err : Int} {tmps : Array Value} (hz : W.heap[gz]? = some (.cells #[.bool nn, .int .i64 N] 23 (0, 0))) (h2 : tmps.getD 4 undef = .pointer (some ⟨gz, 0, none⟩)) (h3 : tmps.getD 5 undef = .int .i64 err) :
    (results Try.f48 tmps).run Try.prog W = .ok (.tuple #[.agg #[.bool nn, .int .i64 N], .int .i64 err]) W := by
  have y0 : W.cell? ⟨gz, 0, none⟩ = some (.bool nn) := (blk_cell hz 0).trans rfl
  have y1 : W.cell? ⟨gz, 1, none⟩ = some (.int .i64 N) := (blk_cell hz 1).trans rfl
  have hu := Try.underlying23
  rw [results_cell_tmp rfl, h2, h3]
  go_simp
theorem take_calls (W : World) (gt : Nat) (n : Int) (h : W.heap[gt]? = some (.cells #[.int .i64 n] 117 (0, 0))) (h0 : 0 ≤ n) (h1 : n ≤ 47) :
    Calls Try.prog 69 #[.pointer (some ⟨gt, 0, none⟩)] W fun e W' => e = .returned (.int .i64 n) ∧ W' = W.setCell ⟨gt, 0, none⟩ (.int .i64 (min (n + 1) 47)) := by
  have k0 : W.cell? ⟨gt, 0, none⟩ = some (.int .i64 n) := (blk_cell h 0).trans rfl
  have fz := blk_frozen h 0
  go_enter Try.func69, Try.ntmps69
  go_wp2
  all_goals (go_ret; exact ⟨rfl, by rw [Int.min_def]; split <;> first | rfl | (exfalso; omega) | (congr 2; omega)⟩)
/-- What number.get answers. -/
def NPost (At : World → (Nat → Prop) → Nat → DS → Prop) (w : World) (S : Nat → Prop) (g : Nat) (R : NR) (e : Ending) (W : World) : Prop :=
  e = .returned (.tuple #[.agg #[.bool R.2.1.1, .int .i64 R.2.1.2], .int .i64 R.2.2]) ∧ At W S g R.1 ∧ Mods w W S ∧ R.1.ok
set_option maxHeartbeats 8000000 in
set_option maxRecDepth 100000 in
theorem number_get (w : World) (S : Nat → Prop) (g : Nat) (s : DS) (base : Int) (h : DecAt w S g s) (hS : ∀ k, S k → k < w.heap.size) (hok : s.ok) (hb0 : 0 ≤ base) (hb1 : base ≤ 1099511627776) (R : NR) (hR : numD base s = R) :
    Calls Try.prog 48 #[.pointer (some ⟨g, 0, none⟩), .int .i64 base] w (NPost DecAt w S g R) := by
  have hu1 := Try.underlying23
  have hu2 := Try.underlying117
  obtain ⟨gz, hgz⟩ : ∃ x, w.heap.size = x := ⟨_, rfl⟩
  have hz : w.heap.size ≤ gz := Nat.le_of_eq hgz
  have HA := Aside0.mk h
  have HO := Aside0.mk hok
  have HS := Aside0.mk hS
  have HR := Aside0.mk hR
  clear h hok hS hR
  obtain ⟨W1, hW1⟩ : ∃ x, w.alloc (.cells #[.bool false, .int .i64 0] 23) = x := ⟨_, rfl⟩
  have HG := Aside0.mk (show GS DecAt w S g gz s W1 from hW1 ▸ ⟨HA.out.below (below_alloc (Below.refl _ _) _), (Mods.refl w S).below (below_alloc (Below.refl _ _) _), hgz ▸ heap_new w _, HO.out⟩)
  clear HA HO
  have hR := HR.out
  clear HR
  unfold numD at hR
  go_enter Try.func48, Try.ntmps48
  go_wp2_with (fail)
  refine (GS.get HG.out HS.out hz base).mono ?_
  rintro e W2 ⟨rfl, hg, hm⟩
  obtain ⟨⟨s1, bt, er⟩, hg1⟩ : ∃ x, s.getI base = x := ⟨_, rfl⟩
  have hbtbt : 0 ≤ bt ∧ bt ≤ 1 := by have := bit_range s base; rw [hg1] at this; exact this
  rw [hg1] at hR hg ⊢
  simp only at hR hg ⊢
  have HG2 := Aside0.mk hg
  clear hg hm hg1
  have z0W2 : W2.cell? ⟨gz, 0, none⟩ = some (.bool false) := (blk_cell HG2.out.z 0).trans rfl
  have z1W2 : W2.cell? ⟨gz, 1, none⟩ = some (.int .i64 0) := (blk_cell HG2.out.z 1).trans rfl
  have y0W2 := blk_frozen HG2.out.z 0
  have y1W2 := blk_frozen HG2.out.z 1
  by_cases her : er = 0
  · subst her
    rw [if_pos rfl] at hR
    by_cases hb : bt = 1
    · subst hb
      rw [if_pos rfl] at hR
      subst hR
      go_wp2_with (fail)
      exact bodyPost_ret (nret (zset HG2.out.z (.bool true) (.int .i64 0)) rfl rfl) rfl ⟨rfl, (HG2.out.fin HS.out hz (.bool true) (.int .i64 0)).1, (HG2.out.fin HS.out hz (.bool true) (.int .i64 0)).2, HG2.out.ok⟩
    · rw [if_neg hb] at hR
      have eb : (bt == 1) = false := beq_eq_false_iff_ne.mpr hb
      clear HG
      go_wp2_with (fail)
      go_loopw [8] (fun x wr => ∃ c : Nat, ∃ s1 : DS, c ≤ 20 ∧ x = .int .i64 c ∧ lenD base (20 - c) c s1 = R ∧ Aside0 (GS DecAt w S g gz s1 wr)) (fun x _ => (20 - intOf x).toNat)
      case atStart => exact ⟨0, s1, by omega, rfl, hR, HG2⟩
      case round =>
        obtain ⟨c, s2, hc, rfl, hR, HG3⟩ := hrel
        clear z0W2 z1W2 y0W2 y1W2 HG2
        by_cases hlt : c < 20
        · have hcl : (c : Int) < 20 := by omega
          rw [show 20 - c = (20 - (c + 1)) + 1 by omega] at hR
          unfold lenD at hR
          go_wp2_with (fail)
          refine (GS.get HG3.out HS.out hz (base + 1 + c)).mono ?_
          rintro e W3 ⟨rfl, hg, hm⟩
          obtain ⟨⟨s3, btc, erc⟩, hg1⟩ : ∃ x, s2.getI (base + 1 + c) = x := ⟨_, rfl⟩
          have hbtbtc : 0 ≤ btc ∧ btc ≤ 1 := by have := bit_range s2 (base + 1 + c); rw [hg1] at this; exact this
          rw [hg1] at hR hg ⊢
          simp only at hR hg ⊢
          have HG4 := Aside0.mk hg
          clear hg hm hg1
          have z0W3 : W3.cell? ⟨gz, 0, none⟩ = some (.bool false) := (blk_cell HG4.out.z 0).trans rfl
          have z1W3 : W3.cell? ⟨gz, 1, none⟩ = some (.int .i64 0) := (blk_cell HG4.out.z 1).trans rfl
          have y0W3 := blk_frozen HG4.out.z 0
          have y1W3 := blk_frozen HG4.out.z 1
          by_cases herc : erc = 0
          · subst herc
            rw [if_pos rfl] at hR
            by_cases hbc : btc = 0
            · subst hbc
              rw [if_pos rfl] at hR
              clear HG3
              go_wp2_with (fail)
              obtain ⟨gt, hgt⟩ : ∃ x, W3.heap.size = x := ⟨_, rfl⟩
              have hgt1 : w.heap.size ≤ gt := hgt ▸ HG4.out.m.size
              have hgz2 : gz < W3.heap.size := blk_lt HG4.out.z
              have hgt2 : gt ≠ gz := by omega
              obtain ⟨W5, hW5⟩ : ∃ x, W3.alloc (.cells #[.int .i64 44] 117) = x := ⟨_, rfl⟩
              have HT := Aside0.mk (show W5.heap[gt]? = some (.cells #[.int .i64 (if 0 = 0 then 44 else min (43 + (0 : Int)) 47)] 117 (0, 0)) from hW5 ▸ hgt ▸ heap_new _ _)
              have HG5 := Aside0.mk (show GS DecAt w S g gz s3 W5 from hW5 ▸ HG4.out.below (below_alloc (Below.refl _ _) _))
              rw [hW5, hgt]
              clear hW5 hgt hgz2 HG4
              go_loopw [9, 50] (fun uv ui wq => ∃ i : Nat, ∃ v : Int, ∃ s : DS, i ≤ c ∧ uv = .int .i64 v ∧ ui = .int .i64 i ∧ digD base c (c - i) i s v = R ∧ 0 ≤ v ∧ v < 2 ^ (i + 1) ∧ Aside0 (GS DecAt w S g gz s wq) ∧ Aside0 (wq.heap[gt]? = some (.cells #[.int .i64 (if i = 0 then 44 else min (43 + (i : Int)) 47)] 117 (0, 0)))) (fun _ ui _ => (c - intOf ui).toNat)
              case atStart => exact ⟨0, 1, s3, by omega, rfl, rfl, hR, by omega, by decide, HG5, HT⟩
              case round =>
                obtain ⟨i, v, s4, hi, rfl, rfl, hR, hv0, hv1, HG7, HT6⟩ := hrel
                clear HG5 HT
                have hp : (2 : Int) ^ (i + 1) ≤ 2097152 := by
                  have h3 : (2 : Nat) ^ (i + 1) ≤ 2 ^ 21 := Nat.pow_le_pow_right (by omega) (by omega)
                  have h4 : ((2 ^ (i + 1) : Nat) : Int) ≤ ((2 ^ 21 : Nat) : Int) := Int.ofNat_le.mpr h3
                  rw [Int.natCast_pow] at h4
                  exact h4
                by_cases hic : i < c
                · have hicl : (i : Int) < c := by omega
                  rw [show c - i = (c - (i + 1)) + 1 by omega] at hR
                  unfold digD at hR
                  by_cases hi0 : i = 0
                  · have hi0l : ¬ (0 : Int) < (i : Int) := by omega
                    rw [show ctxOf c i = 23 + (c : Int) from if_pos hi0] at hR
                    have HT6 := Aside0.mk (show wr.heap[gt]? = some (.cells #[.int .i64 (if i + 1 = 0 then 44 else min (43 + ((i + 1 : Nat) : Int)) 47)] 117 (0, 0)) from by have h := HT6.out; rw [if_pos hi0] at h; rw [if_neg (Nat.succ_ne_zero i), show min (43 + ((i + 1 : Nat) : Int)) 47 = 44 by omega]; exact h)
                    have hi0 := Aside0.mk hi0
                    go_wp2_with (fail)
                    refine (GS.get HG7.out HS.out hz (base + (23 + c))).mono ?_
                    rintro e W6 ⟨rfl, hg, hm⟩
                    obtain ⟨⟨s5, btd, erd⟩, hg1⟩ : ∃ x, s4.getI (base + (23 + c)) = x := ⟨_, rfl⟩
                    have hbtbtd : 0 ≤ btd ∧ btd ≤ 1 := by have := bit_range s4 (base + (23 + c)); rw [hg1] at this; exact this
                    rw [hg1] at hR hg ⊢
                    simp only at hR hg ⊢
                    have HG6 := Aside0.mk hg
                    have HT6 := Aside0.mk (blk_mods HT6.out hm (fun hk => by have := HS.out _ hk; omega))
                    clear hg hm hg1
                    have z0W6 : W6.cell? ⟨gz, 0, none⟩ = some (.bool false) := (blk_cell HG6.out.z 0).trans rfl
                    have z1W6 : W6.cell? ⟨gz, 1, none⟩ = some (.int .i64 0) := (blk_cell HG6.out.z 1).trans rfl
                    have y0W6 := blk_frozen HG6.out.z 0
                    have y1W6 := blk_frozen HG6.out.z 1
                    by_cases herd : erd = 0
                    · subst herd
                      rw [if_pos rfl] at hR
                      go_wp2_with (fail)
                      exact ⟨⟨i + 1, 2 * v + btd, s5, by omega, rfl, by rw [hi0.out]; rfl, hR, by omega, by rw [Int.pow_succ]; omega, HG6, HT6⟩, by simp [intOf]; omega⟩
                    · rw [if_neg herd] at hR
                      subst hR
                      have e0erd : (erd == 0) = false := beq_eq_false_iff_ne.mpr herd
                      have e1erd : (erd != 0) = true := bne_iff_ne.mpr herd
                      go_wp2_with (fail)
                      exact bodyPost_ret (nret (zset HG6.out.z (.bool false) (.int .i64 0)) rfl rfl) rfl ⟨rfl, (HG6.out.fin HS.out hz (.bool false) (.int .i64 0)).1, (HG6.out.fin HS.out hz (.bool false) (.int .i64 0)).2, HG6.out.ok⟩
                  · have hi0l : (0 : Int) < (i : Int) := by omega
                    obtain ⟨n, hn⟩ : ∃ n : Int, min (43 + (i : Int)) 47 = n := ⟨_, rfl⟩
                    have hn0 : 44 ≤ n ∧ n ≤ 47 := by omega
                    have hn1 : min (n + 1) 47 = min (43 + ((i + 1 : Nat) : Int)) 47 := by omega
                    rw [show ctxOf c i = n from (if_neg hi0).trans hn] at hR
                    rw [if_neg hi0, hn] at HT6
                    go_wp2_with (fail)
                    refine (take_calls _ gt n HT6.out (by omega) (by omega)).mono ?_
                    rintro e W7 ⟨rfl, hw7⟩
                    have HG8 := Aside0.mk (show GS DecAt w S g gz s4 W7 from hw7 ▸ HG7.out.tail HS.out hgt1 hgt2 _)
                    have HT6 := Aside0.mk (show W7.heap[gt]? = some (.cells #[.int .i64 (if i + 1 = 0 then 44 else min (43 + ((i + 1 : Nat) : Int)) 47)] 117 (0, 0)) from by rw [hw7, if_neg (Nat.succ_ne_zero i), ← hn1]; simpa using blk_set HT6.out 0 _)
                    clear hw7
                    go_wp2_with (fail)
                    refine (GS.get HG8.out HS.out hz (base + n)).mono ?_
                    rintro e W6 ⟨rfl, hg, hm⟩
                    obtain ⟨⟨s5, btd, erd⟩, hg1⟩ : ∃ x, s4.getI (base + n) = x := ⟨_, rfl⟩
                    have hbtbtd : 0 ≤ btd ∧ btd ≤ 1 := by have := bit_range s4 (base + n); rw [hg1] at this; exact this
                    rw [hg1] at hR hg ⊢
                    simp only at hR hg ⊢
                    have HG6 := Aside0.mk hg
                    have HT6 := Aside0.mk (blk_mods HT6.out hm (fun hk => by have := HS.out _ hk; omega))
                    clear hg hm hg1
                    have z0W6 : W6.cell? ⟨gz, 0, none⟩ = some (.bool false) := (blk_cell HG6.out.z 0).trans rfl
                    have z1W6 : W6.cell? ⟨gz, 1, none⟩ = some (.int .i64 0) := (blk_cell HG6.out.z 1).trans rfl
                    have y0W6 := blk_frozen HG6.out.z 0
                    have y1W6 := blk_frozen HG6.out.z 1
                    by_cases herd : erd = 0
                    · subst herd
                      rw [if_pos rfl] at hR
                      go_wp2_with (fail)
                      exact ⟨⟨i + 1, 2 * v + btd, s5, by omega, rfl, rfl, hR, by omega, by rw [Int.pow_succ]; omega, HG6, HT6⟩, by simp [intOf]; omega⟩
                    · rw [if_neg herd] at hR
                      subst hR
                      have e0erd : (erd == 0) = false := beq_eq_false_iff_ne.mpr herd
                      have e1erd : (erd != 0) = true := bne_iff_ne.mpr herd
                      go_wp2_with (fail)
                      exact bodyPost_ret (nret (zset HG6.out.z (.bool false) (.int .i64 0)) rfl rfl) rfl ⟨rfl, (HG6.out.fin HS.out hz (.bool false) (.int .i64 0)).1, (HG6.out.fin HS.out hz (.bool false) (.int .i64 0)).2, HG6.out.ok⟩
                · have hicl : ¬ (i : Int) < c := by omega
                  rw [show c - i = 0 by omega] at hR
                  unfold digD signD at hR
                  clear HT6
                  have z0wq : wr.cell? ⟨gz, 0, none⟩ = some (.bool false) := (blk_cell HG7.out.z 0).trans rfl
                  have z1wq : wr.cell? ⟨gz, 1, none⟩ = some (.int .i64 0) := (blk_cell HG7.out.z 1).trans rfl
                  have y0wq := blk_frozen HG7.out.z 0
                  have y1wq := blk_frozen HG7.out.z 1
                  by_cases hv2 : v > 1048577
                  · rw [if_pos hv2] at hR
                    subst hR
                    have hv3 : 1048577 < v := hv2
                    go_wp2_with (fail)
                    exact bodyPost_ret (nret (zset HG7.out.z (.bool false) (.int .i64 0)) rfl rfl) rfl ⟨rfl, (HG7.out.fin HS.out hz (.bool false) (.int .i64 0)).1, (HG7.out.fin HS.out hz (.bool false) (.int .i64 0)).2, HG7.out.ok⟩
                  · rw [if_neg hv2] at hR
                    have hv3 : ¬ 1048577 < v := hv2
                    by_cases hv4 : v = 1
                    · rw [if_pos hv4] at hR
                      subst hR
                      have hv5 : (v == 1) = true := beq_iff_eq.mpr hv4
                      go_wp2_with (fail)
                      exact bodyPost_ret (nret (zset HG7.out.z (.bool false) (.int .i64 0)) rfl rfl) rfl ⟨rfl, (HG7.out.fin HS.out hz (.bool false) (.int .i64 0)).1, (HG7.out.fin HS.out hz (.bool false) (.int .i64 0)).2, HG7.out.ok⟩
                    · rw [if_neg hv4] at hR
                      have hv5 : (v == 1) = false := beq_eq_false_iff_ne.mpr hv4
                      clear z0wq z1wq y0wq y1wq
                      go_wp2_with (fail)
                      refine (GS.get HG7.out HS.out hz (base + 22)).mono ?_
                      rintro e W6 ⟨rfl, hg, hm⟩
                      obtain ⟨⟨s5, btd, erd⟩, hg1⟩ : ∃ x, s4.getI (base + 22) = x := ⟨_, rfl⟩
                      have hbtbtd : 0 ≤ btd ∧ btd ≤ 1 := by have := bit_range s4 (base + 22); rw [hg1] at this; exact this
                      rw [hg1] at hR hg ⊢
                      simp only at hR hg ⊢
                      have HG6 := Aside0.mk hg
                      clear hg hm hg1
                      have z0W6 : W6.cell? ⟨gz, 0, none⟩ = some (.bool false) := (blk_cell HG6.out.z 0).trans rfl
                      have z1W6 : W6.cell? ⟨gz, 1, none⟩ = some (.int .i64 0) := (blk_cell HG6.out.z 1).trans rfl
                      have y0W6 := blk_frozen HG6.out.z 0
                      have y1W6 := blk_frozen HG6.out.z 1
                      by_cases herd : erd = 0
                      · subst herd
                        rw [if_pos rfl] at hR
                        rcases (show btd = 0 ∨ btd = 1 by omega) with rfl | rfl
                        · rw [show (v - 1) * (1 - 2 * 0) = v - 1 by omega] at hR
                          subst hR
                          go_wp2_with (fail)
                          exact bodyPost_ret (nret (zset HG6.out.z (.bool false) (.int .i64 (v - 1))) rfl rfl) rfl ⟨rfl, (HG6.out.fin HS.out hz (.bool false) (.int .i64 (v - 1))).1, (HG6.out.fin HS.out hz (.bool false) (.int .i64 (v - 1))).2, HG6.out.ok⟩
                        · rw [show (v - 1) * (1 - 2 * 1) = -(v - 1) by omega] at hR
                          subst hR
                          go_wp2_with (fail)
                          exact bodyPost_ret (nret (zset HG6.out.z (.bool false) (.int .i64 (-(v - 1)))) rfl rfl) rfl ⟨rfl, (HG6.out.fin HS.out hz (.bool false) (.int .i64 (-(v - 1)))).1, (HG6.out.fin HS.out hz (.bool false) (.int .i64 (-(v - 1)))).2, HG6.out.ok⟩
                      · rw [if_neg herd] at hR
                        subst hR
                        have e0erd : (erd == 0) = false := beq_eq_false_iff_ne.mpr herd
                        have e1erd : (erd != 0) = true := bne_iff_ne.mpr herd
                        go_wp2_with (fail)
                        exact bodyPost_ret (nret (zset HG6.out.z (.bool false) (.int .i64 0)) rfl rfl) rfl ⟨rfl, (HG6.out.fin HS.out hz (.bool false) (.int .i64 0)).1, (HG6.out.fin HS.out hz (.bool false) (.int .i64 0)).2, HG6.out.ok⟩
            · rw [if_neg hbc] at hR
              have ebc : (btc == 0) = false := beq_eq_false_iff_ne.mpr hbc
              go_wp2_with (fail)
              exact ⟨⟨c + 1, s3, by omega, rfl, by exact hR, HG4⟩, by simp [intOf]; omega⟩
          · rw [if_neg herc] at hR
            subst hR
            have e0erc : (erc == 0) = false := beq_eq_false_iff_ne.mpr herc
            have e1erc : (erc != 0) = true := bne_iff_ne.mpr herc
            go_wp2_with (fail)
            exact bodyPost_ret (nret (zset HG4.out.z (.bool false) (.int .i64 0)) rfl rfl) rfl ⟨rfl, (HG4.out.fin HS.out hz (.bool false) (.int .i64 0)).1, (HG4.out.fin HS.out hz (.bool false) (.int .i64 0)).2, HG4.out.ok⟩
        · have hcl : ¬ (c : Int) < 20 := by omega
          rw [show 20 - c = 0 by omega] at hR
          unfold lenD at hR
          go_wp2_with (fail)
          obtain ⟨gt, hgt⟩ : ∃ x, wr.heap.size = x := ⟨_, rfl⟩
          have hgt1 : w.heap.size ≤ gt := hgt ▸ HG3.out.m.size
          have hgz2 : gz < wr.heap.size := blk_lt HG3.out.z
          have hgt2 : gt ≠ gz := by omega
          obtain ⟨W5, hW5⟩ : ∃ x, wr.alloc (.cells #[.int .i64 44] 117) = x := ⟨_, rfl⟩
          have HT := Aside0.mk (show W5.heap[gt]? = some (.cells #[.int .i64 (if 0 = 0 then 44 else min (43 + (0 : Int)) 47)] 117 (0, 0)) from hW5 ▸ hgt ▸ heap_new _ _)
          have HG5 := Aside0.mk (show GS DecAt w S g gz s2 W5 from hW5 ▸ HG3.out.below (below_alloc (Below.refl _ _) _))
          rw [hW5, hgt]
          clear hW5 hgt hgz2 HG3
          go_loopw [9, 50] (fun uv ui wq => ∃ i : Nat, ∃ v : Int, ∃ s : DS, i ≤ c ∧ uv = .int .i64 v ∧ ui = .int .i64 i ∧ digD base c (c - i) i s v = R ∧ 0 ≤ v ∧ v < 2 ^ (i + 1) ∧ Aside0 (GS DecAt w S g gz s wq) ∧ Aside0 (wq.heap[gt]? = some (.cells #[.int .i64 (if i = 0 then 44 else min (43 + (i : Int)) 47)] 117 (0, 0)))) (fun _ ui _ => (c - intOf ui).toNat)
          case atStart => exact ⟨0, 1, s2, by omega, rfl, rfl, hR, by omega, by decide, HG5, HT⟩
          case round =>
            obtain ⟨i, v, s4, hi, rfl, rfl, hR, hv0, hv1, HG7, HT6⟩ := hrel
            clear HG5 HT
            have hp : (2 : Int) ^ (i + 1) ≤ 2097152 := by
              have h3 : (2 : Nat) ^ (i + 1) ≤ 2 ^ 21 := Nat.pow_le_pow_right (by omega) (by omega)
              have h4 : ((2 ^ (i + 1) : Nat) : Int) ≤ ((2 ^ 21 : Nat) : Int) := Int.ofNat_le.mpr h3
              rw [Int.natCast_pow] at h4
              exact h4
            by_cases hic : i < c
            · have hicl : (i : Int) < c := by omega
              rw [show c - i = (c - (i + 1)) + 1 by omega] at hR
              unfold digD at hR
              by_cases hi0 : i = 0
              · have hi0l : ¬ (0 : Int) < (i : Int) := by omega
                rw [show ctxOf c i = 23 + (c : Int) from if_pos hi0] at hR
                have HT6 := Aside0.mk (show wr.heap[gt]? = some (.cells #[.int .i64 (if i + 1 = 0 then 44 else min (43 + ((i + 1 : Nat) : Int)) 47)] 117 (0, 0)) from by have h := HT6.out; rw [if_pos hi0] at h; rw [if_neg (Nat.succ_ne_zero i), show min (43 + ((i + 1 : Nat) : Int)) 47 = 44 by omega]; exact h)
                have hi0 := Aside0.mk hi0
                go_wp2_with (fail)
                refine (GS.get HG7.out HS.out hz (base + (23 + c))).mono ?_
                rintro e W6 ⟨rfl, hg, hm⟩
                obtain ⟨⟨s5, btd, erd⟩, hg1⟩ : ∃ x, s4.getI (base + (23 + c)) = x := ⟨_, rfl⟩
                have hbtbtd : 0 ≤ btd ∧ btd ≤ 1 := by have := bit_range s4 (base + (23 + c)); rw [hg1] at this; exact this
                rw [hg1] at hR hg ⊢
                simp only at hR hg ⊢
                have HG6 := Aside0.mk hg
                have HT6 := Aside0.mk (blk_mods HT6.out hm (fun hk => by have := HS.out _ hk; omega))
                clear hg hm hg1
                have z0W6 : W6.cell? ⟨gz, 0, none⟩ = some (.bool false) := (blk_cell HG6.out.z 0).trans rfl
                have z1W6 : W6.cell? ⟨gz, 1, none⟩ = some (.int .i64 0) := (blk_cell HG6.out.z 1).trans rfl
                have y0W6 := blk_frozen HG6.out.z 0
                have y1W6 := blk_frozen HG6.out.z 1
                by_cases herd : erd = 0
                · subst herd
                  rw [if_pos rfl] at hR
                  go_wp2_with (fail)
                  exact ⟨⟨i + 1, 2 * v + btd, s5, by omega, rfl, by rw [hi0.out]; rfl, hR, by omega, by rw [Int.pow_succ]; omega, HG6, HT6⟩, by simp [intOf]; omega⟩
                · rw [if_neg herd] at hR
                  subst hR
                  have e0erd : (erd == 0) = false := beq_eq_false_iff_ne.mpr herd
                  have e1erd : (erd != 0) = true := bne_iff_ne.mpr herd
                  go_wp2_with (fail)
                  exact bodyPost_ret (nret (zset HG6.out.z (.bool false) (.int .i64 0)) rfl rfl) rfl ⟨rfl, (HG6.out.fin HS.out hz (.bool false) (.int .i64 0)).1, (HG6.out.fin HS.out hz (.bool false) (.int .i64 0)).2, HG6.out.ok⟩
              · have hi0l : (0 : Int) < (i : Int) := by omega
                obtain ⟨n, hn⟩ : ∃ n : Int, min (43 + (i : Int)) 47 = n := ⟨_, rfl⟩
                have hn0 : 44 ≤ n ∧ n ≤ 47 := by omega
                have hn1 : min (n + 1) 47 = min (43 + ((i + 1 : Nat) : Int)) 47 := by omega
                rw [show ctxOf c i = n from (if_neg hi0).trans hn] at hR
                rw [if_neg hi0, hn] at HT6
                go_wp2_with (fail)
                refine (take_calls _ gt n HT6.out (by omega) (by omega)).mono ?_
                rintro e W7 ⟨rfl, hw7⟩
                have HG8 := Aside0.mk (show GS DecAt w S g gz s4 W7 from hw7 ▸ HG7.out.tail HS.out hgt1 hgt2 _)
                have HT6 := Aside0.mk (show W7.heap[gt]? = some (.cells #[.int .i64 (if i + 1 = 0 then 44 else min (43 + ((i + 1 : Nat) : Int)) 47)] 117 (0, 0)) from by rw [hw7, if_neg (Nat.succ_ne_zero i), ← hn1]; simpa using blk_set HT6.out 0 _)
                clear hw7
                go_wp2_with (fail)
                refine (GS.get HG8.out HS.out hz (base + n)).mono ?_
                rintro e W6 ⟨rfl, hg, hm⟩
                obtain ⟨⟨s5, btd, erd⟩, hg1⟩ : ∃ x, s4.getI (base + n) = x := ⟨_, rfl⟩
                have hbtbtd : 0 ≤ btd ∧ btd ≤ 1 := by have := bit_range s4 (base + n); rw [hg1] at this; exact this
                rw [hg1] at hR hg ⊢
                simp only at hR hg ⊢
                have HG6 := Aside0.mk hg
                have HT6 := Aside0.mk (blk_mods HT6.out hm (fun hk => by have := HS.out _ hk; omega))
                clear hg hm hg1
                have z0W6 : W6.cell? ⟨gz, 0, none⟩ = some (.bool false) := (blk_cell HG6.out.z 0).trans rfl
                have z1W6 : W6.cell? ⟨gz, 1, none⟩ = some (.int .i64 0) := (blk_cell HG6.out.z 1).trans rfl
                have y0W6 := blk_frozen HG6.out.z 0
                have y1W6 := blk_frozen HG6.out.z 1
                by_cases herd : erd = 0
                · subst herd
                  rw [if_pos rfl] at hR
                  go_wp2_with (fail)
                  exact ⟨⟨i + 1, 2 * v + btd, s5, by omega, rfl, rfl, hR, by omega, by rw [Int.pow_succ]; omega, HG6, HT6⟩, by simp [intOf]; omega⟩
                · rw [if_neg herd] at hR
                  subst hR
                  have e0erd : (erd == 0) = false := beq_eq_false_iff_ne.mpr herd
                  have e1erd : (erd != 0) = true := bne_iff_ne.mpr herd
                  go_wp2_with (fail)
                  exact bodyPost_ret (nret (zset HG6.out.z (.bool false) (.int .i64 0)) rfl rfl) rfl ⟨rfl, (HG6.out.fin HS.out hz (.bool false) (.int .i64 0)).1, (HG6.out.fin HS.out hz (.bool false) (.int .i64 0)).2, HG6.out.ok⟩
            · have hicl : ¬ (i : Int) < c := by omega
              rw [show c - i = 0 by omega] at hR
              unfold digD signD at hR
              clear HT6
              have z0wq : wr.cell? ⟨gz, 0, none⟩ = some (.bool false) := (blk_cell HG7.out.z 0).trans rfl
              have z1wq : wr.cell? ⟨gz, 1, none⟩ = some (.int .i64 0) := (blk_cell HG7.out.z 1).trans rfl
              have y0wq := blk_frozen HG7.out.z 0
              have y1wq := blk_frozen HG7.out.z 1
              by_cases hv2 : v > 1048577
              · rw [if_pos hv2] at hR
                subst hR
                have hv3 : 1048577 < v := hv2
                go_wp2_with (fail)
                exact bodyPost_ret (nret (zset HG7.out.z (.bool false) (.int .i64 0)) rfl rfl) rfl ⟨rfl, (HG7.out.fin HS.out hz (.bool false) (.int .i64 0)).1, (HG7.out.fin HS.out hz (.bool false) (.int .i64 0)).2, HG7.out.ok⟩
              · rw [if_neg hv2] at hR
                have hv3 : ¬ 1048577 < v := hv2
                by_cases hv4 : v = 1
                · rw [if_pos hv4] at hR
                  subst hR
                  have hv5 : (v == 1) = true := beq_iff_eq.mpr hv4
                  go_wp2_with (fail)
                  exact bodyPost_ret (nret (zset HG7.out.z (.bool false) (.int .i64 0)) rfl rfl) rfl ⟨rfl, (HG7.out.fin HS.out hz (.bool false) (.int .i64 0)).1, (HG7.out.fin HS.out hz (.bool false) (.int .i64 0)).2, HG7.out.ok⟩
                · rw [if_neg hv4] at hR
                  have hv5 : (v == 1) = false := beq_eq_false_iff_ne.mpr hv4
                  clear z0wq z1wq y0wq y1wq
                  go_wp2_with (fail)
                  refine (GS.get HG7.out HS.out hz (base + 22)).mono ?_
                  rintro e W6 ⟨rfl, hg, hm⟩
                  obtain ⟨⟨s5, btd, erd⟩, hg1⟩ : ∃ x, s4.getI (base + 22) = x := ⟨_, rfl⟩
                  have hbtbtd : 0 ≤ btd ∧ btd ≤ 1 := by have := bit_range s4 (base + 22); rw [hg1] at this; exact this
                  rw [hg1] at hR hg ⊢
                  simp only at hR hg ⊢
                  have HG6 := Aside0.mk hg
                  clear hg hm hg1
                  have z0W6 : W6.cell? ⟨gz, 0, none⟩ = some (.bool false) := (blk_cell HG6.out.z 0).trans rfl
                  have z1W6 : W6.cell? ⟨gz, 1, none⟩ = some (.int .i64 0) := (blk_cell HG6.out.z 1).trans rfl
                  have y0W6 := blk_frozen HG6.out.z 0
                  have y1W6 := blk_frozen HG6.out.z 1
                  by_cases herd : erd = 0
                  · subst herd
                    rw [if_pos rfl] at hR
                    rcases (show btd = 0 ∨ btd = 1 by omega) with rfl | rfl
                    · rw [show (v - 1) * (1 - 2 * 0) = v - 1 by omega] at hR
                      subst hR
                      go_wp2_with (fail)
                      exact bodyPost_ret (nret (zset HG6.out.z (.bool false) (.int .i64 (v - 1))) rfl rfl) rfl ⟨rfl, (HG6.out.fin HS.out hz (.bool false) (.int .i64 (v - 1))).1, (HG6.out.fin HS.out hz (.bool false) (.int .i64 (v - 1))).2, HG6.out.ok⟩
                    · rw [show (v - 1) * (1 - 2 * 1) = -(v - 1) by omega] at hR
                      subst hR
                      go_wp2_with (fail)
                      exact bodyPost_ret (nret (zset HG6.out.z (.bool false) (.int .i64 (-(v - 1)))) rfl rfl) rfl ⟨rfl, (HG6.out.fin HS.out hz (.bool false) (.int .i64 (-(v - 1)))).1, (HG6.out.fin HS.out hz (.bool false) (.int .i64 (-(v - 1)))).2, HG6.out.ok⟩
                  · rw [if_neg herd] at hR
                    subst hR
                    have e0erd : (erd == 0) = false := beq_eq_false_iff_ne.mpr herd
                    have e1erd : (erd != 0) = true := bne_iff_ne.mpr herd
                    go_wp2_with (fail)
                    exact bodyPost_ret (nret (zset HG6.out.z (.bool false) (.int .i64 0)) rfl rfl) rfl ⟨rfl, (HG6.out.fin HS.out hz (.bool false) (.int .i64 0)).1, (HG6.out.fin HS.out hz (.bool false) (.int .i64 0)).2, HG6.out.ok⟩
  · rw [if_neg her] at hR
    subst hR
    have e0er : (er == 0) = false := beq_eq_false_iff_ne.mpr her
    have e1er : (er != 0) = true := bne_iff_ne.mpr her
    go_wp2_with (fail)
    exact bodyPost_ret (nret (zset HG2.out.z (.bool false) (.int .i64 0)) rfl rfl) rfl ⟨rfl, (HG2.out.fin HS.out hz (.bool false) (.int .i64 0)).1, (HG2.out.fin HS.out hz (.bool false) (.int .i64 0)).2, HG2.out.ok⟩
end Go.Proofs.Ytlnhahnnjbfjdaa.Nwk
namespace Go.Proofs.Ytlnhahnnjbfjdaa.Nrw
open Go Go.RowKit Go.Proofs.YtlnhahnnjbfjdaaW.PrintWords Go.Proofs.YtlnhahnnjbfjdaaW.PrintLast Go.Proofs.YtlnhahnnjbfjdaaW.PrintMore Go.Proofs.Ytlnhahnnjbfjdaa.Aid Go.Proofs.Ytlnhahnnjbfjdaa.HandAid Go.Proofs.Ytlnhahnnjbfjdaa.Cod1 Go.Proofs.Ytlnhahnnjbfjdaa.Cod2 Go.Proofs.Ytlnhahnnjbfjdaa.Cod3 Go.Proofs.Ytlnhahnnjbfjdaa.Mod Go.Proofs.Ytlnhahnnjbfjdaa.Enc Go.Proofs.Ytlnhahnnjbfjdaa.Mods Go.Proofs.Ytlnhahnnjbfjdaa.EncAt Go.Proofs.Ytlnhahnnjbfjdaa.Put Go.Proofs.Ytlnhahnnjbfjdaa.End Go.Proofs.Ytlnhahnnjbfjdaa.Snc Go.Proofs.Ytlnhahnnjbfjdaa.Dec Go.Proofs.Ytlnhahnnjbfjdaa.Get Go.Proofs.Ytlnhahnnjbfjdaa.DecNew Go.Proofs.Ytlnhahnnjbfjdaa.RefAt Go.Proofs.Ytlnhahnnjbfjdaa.RDec Go.Proofs.Ytlnhahnnjbfjdaa.RDecNew Go.Proofs.Ytlnhahnnjbfjdaa.Ngt Go.Proofs.Ytlnhahnnjbfjdaa.Nwk
attribute [local go_sem] max2_int min2_int max_two min_two
instance : AtL RDecAt := ⟨fun h hk hne => RDecAt.kept h hk hne, fun h hb => RDecAt.below h hb, fun h hs => RDecAt.mono h hs⟩
theorem rgs_get {w W : World} {S : Nat → Prop} {g gz : Nat} {s : DS} (H : GS RDecAt w S g gz s W) (hS : ∀ k, S k → k < w.heap.size) (hz : w.heap.size ≤ gz) (i : Int) :
    Calls Try.prog 61 #[.pointer (some ⟨g, 0, none⟩), .int .i64 i] W fun e W' => e = .returned (.tuple #[.int .i64 (s.getI i).2.1, .int .i64 (s.getI i).2.2]) ∧ GS RDecAt w S g gz (s.getI i).1 W' := by
  refine (rget_calls W S g s i H.d (fun k hk => Nat.lt_of_lt_of_le (hS k hk) H.m.size) H.ok).mono ?_
  rintro e W' ⟨he, hE, hM⟩
  exact ⟨he, ⟨hE, H.m.then_ hM (fun k hk => .inl hk), blk_mods H.z hM (fun hk => by have := hS gz hk; omega), DS.getI_ok H.ok _⟩⟩
theorem rnret {W : World} {gz : Nat} {nn : Bool} {N err : Int} {tmps : Array Value} (hz : W.heap[gz]? = some (.cells #[.bool nn, .int .i64 N] 23 (0, 0))) (h2 : tmps.getD 4 undef = .pointer (some ⟨gz, 0, none⟩)) (h3 : tmps.getD 5 undef = .int .i64 err) :
    (results Try.f28 tmps).run Try.prog W = .ok (.tuple #[.agg #[.bool nn, .int .i64 N], .int .i64 err]) W := by
  have y0 : W.cell? ⟨gz, 0, none⟩ = some (.bool nn) := (blk_cell hz 0).trans rfl
  have y1 : W.cell? ⟨gz, 1, none⟩ = some (.int .i64 N) := (blk_cell hz 1).trans rfl
  have hu := Try.underlying23
  rw [results_cell_tmp rfl, h2, h3]
  go_simp
theorem fld (k : Int) (v : Value) (w : World) : (Instr.field 45 (.agg #[.int .i64 k, v]) 1).run Try.prog w = .ok v w := by kernel_rfl
/-- Whether a model of n states has k contexts from a base on. -/
def hasRoom (n base k : Int) : Prop := 0 ≤ base ∧ base ≤ n ∧ k ≤ n - base
instance (n base k : Int) : Decidable (hasRoom n base k) := by unfold hasRoom; infer_instance
theorem room_calls (n base k : Int) (w : World) (h0 : 0 ≤ n) (h1 : n ≤ 9223372036854775807) :
    Calls Try.prog 59 #[.int .i64 n, .int .i64 base, .int .i64 k] w fun e w' => e = .returned (.bool (decide (hasRoom n base k))) ∧ Below w.heap.size w w' := by
  unfold hasRoom
  by_cases c0 : 0 ≤ base
  · by_cases c1 : base ≤ n
    · by_cases c2 : k ≤ n - base
      · rw [decide_eq_true (show 0 ≤ base ∧ base ≤ n ∧ k ≤ n - base by omega)]
        go_enter Try.func59, Try.ntmps59
        go_wp2
        go_ret
        exact ⟨rfl, by first | exact Below.refl _ _ | exact pw_below_drewN (Below.refl _ _) _ | exact below_drew (Below.refl _ _)⟩
      · rw [decide_eq_false (show ¬ (0 ≤ base ∧ base ≤ n ∧ k ≤ n - base) by omega)]
        go_enter Try.func59, Try.ntmps59
        go_wp2
        go_ret
        exact ⟨rfl, by first | exact Below.refl _ _ | exact pw_below_drewN (Below.refl _ _) _ | exact below_drew (Below.refl _ _)⟩
    · rw [decide_eq_false (show ¬ (0 ≤ base ∧ base ≤ n ∧ k ≤ n - base) by omega)]
      go_enter Try.func59, Try.ntmps59
      go_wp2
      go_ret
      exact ⟨rfl, by first | exact Below.refl _ _ | exact pw_below_drewN (Below.refl _ _) _ | exact below_drew (Below.refl _ _)⟩
  · rw [decide_eq_false (show ¬ (0 ≤ base ∧ base ≤ n ∧ k ≤ n - base) by omega)]
    go_enter Try.func59, Try.ntmps59
    go_wp2
    go_ret
    exact ⟨rfl, by first | exact Below.refl _ _ | exact pw_below_drewN (Below.refl _ _) _ | exact below_drew (Below.refl _ _)⟩
/-- The reference's Get in plain words. -/
def numR (base : Int) (s : DS) : NR := if hasRoom s.st.length base 48 then numD base s else (s, (false, 0), 2)
set_option maxHeartbeats 1000000 in
set_option maxRecDepth 100000 in
theorem rnum_get (w : World) (S : Nat → Prop) (g : Nat) (s : DS) (base : Int) (h : RDecAt w S g s) (hS : ∀ k, S k → k < w.heap.size) (hok : s.ok) (R : NR) (hR : numR base s = R) :
    Calls Try.prog 28 #[.pointer (some ⟨g, 0, none⟩), .int .i64 base] w (NPost RDecAt w S g R) := by
  have hu1 := Try.underlying23
  have hu2 := Try.underlying45
  obtain ⟨gz, hgz⟩ : ∃ x, w.heap.size = x := ⟨_, rfl⟩
  have hz : w.heap.size ≤ gz := Nat.le_of_eq hgz
  obtain ⟨W1, hW1⟩ : ∃ x, w.alloc (.cells #[.bool false, .int .i64 0] 23) = x := ⟨_, rfl⟩
  have HG := Aside0.mk (show GS RDecAt w S g gz s W1 from hW1 ▸ ⟨h.below (below_alloc (Below.refl _ _) _), (Mods.refl w S).below (below_alloc (Below.refl _ _) _), hgz ▸ heap_new w _, hok⟩)
  have HS := Aside0.mk hS
  have hln : s.st.length ≤ 8192 := hok.m.2.1
  unfold numR at hR
  clear h hS hok
  go_enter Try.func28, Try.ntmps28
  go_wp2_with (fail)
  refine (rdec_model_calls W1 S g s HG.out.d HG.out.ok).mono ?_
  rintro e W8 ⟨A8, c8, rfl, -, hb8⟩
  have HG := Aside0.mk (HG.out.below hb8)
  have hfd := fld s.kind (.slice A8 s.st.length c8)
  clear hb8
  go_wp2_with (fail)
  refine (room_calls s.st.length base 48 W8 (by omega) (by omega)).mono ?_
  rintro e W9 ⟨rfl, hb9⟩
  have HG := Aside0.mk (HG.out.below hb9)
  clear hb9
  clear hfd
  by_cases hrm : hasRoom s.st.length base 48
  · rw [if_pos hrm] at hR
    have hd : decide (hasRoom s.st.length base 48) = true := decide_eq_true hrm
    have hb0 : 0 ≤ base ∧ base ≤ 8192 := by unfold hasRoom at hrm; omega
    unfold numD at hR
    rw [hd]
    clear hrm hd
    go_wp2_with (fail)
    refine (rgs_get HG.out HS.out hz base).mono ?_
    rintro e W2 ⟨rfl, hg⟩
    obtain ⟨⟨s1, bt, er⟩, hg1⟩ : ∃ x, s.getI base = x := ⟨_, rfl⟩
    have hbtbt : 0 ≤ bt ∧ bt ≤ 1 := by have := bit_range s base; rw [hg1] at this; exact this
    rw [hg1] at hR hg ⊢
    simp only at hR hg ⊢
    have HG2 := Aside0.mk hg
    clear hg hg1
    have z0W2 : W2.cell? ⟨gz, 0, none⟩ = some (.bool false) := (blk_cell HG2.out.z 0).trans rfl
    have z1W2 : W2.cell? ⟨gz, 1, none⟩ = some (.int .i64 0) := (blk_cell HG2.out.z 1).trans rfl
    have y0W2 := blk_frozen HG2.out.z 0
    have y1W2 := blk_frozen HG2.out.z 1
    by_cases her : er = 0
    · subst her
      rw [if_pos rfl] at hR
      by_cases hb : bt = 1
      · subst hb
        rw [if_pos rfl] at hR
        subst hR
        go_wp2_with (fail)
        exact bodyPost_ret (rnret (zset HG2.out.z (.bool true) (.int .i64 0)) rfl rfl) rfl ⟨rfl, (HG2.out.fin HS.out hz (.bool true) (.int .i64 0)).1, (HG2.out.fin HS.out hz (.bool true) (.int .i64 0)).2, HG2.out.ok⟩
      · rw [if_neg hb] at hR
        have eb : (bt == 1) = false := beq_eq_false_iff_ne.mpr hb
        clear HG
        go_wp2_with (fail)
        go_loopw [8] (fun x wr => ∃ c : Nat, ∃ s1 : DS, c ≤ 20 ∧ x = .int .i64 c ∧ lenD base (20 - c) c s1 = R ∧ Aside0 (GS RDecAt w S g gz s1 wr)) (fun x _ => (20 - intOf x).toNat)
        case atStart => exact ⟨0, s1, by omega, rfl, hR, HG2⟩
        case round =>
          obtain ⟨c, s2, hc, rfl, hR, HG3⟩ := hrel
          clear z0W2 z1W2 y0W2 y1W2 HG2
          by_cases hlt : c < 20
          · have hcl : (c : Int) < 20 := by omega
            rw [show 20 - c = (20 - (c + 1)) + 1 by omega] at hR
            unfold lenD at hR
            go_wp2_with (fail)
            refine (rgs_get HG3.out HS.out hz (base + 1 + c)).mono ?_
            rintro e W3 ⟨rfl, hg⟩
            obtain ⟨⟨s3, btc, erc⟩, hg1⟩ : ∃ x, s2.getI (base + 1 + c) = x := ⟨_, rfl⟩
            have hbtbtc : 0 ≤ btc ∧ btc ≤ 1 := by have := bit_range s2 (base + 1 + c); rw [hg1] at this; exact this
            rw [hg1] at hR hg ⊢
            simp only at hR hg ⊢
            have HG4 := Aside0.mk hg
            clear hg hg1
            have z0W3 : W3.cell? ⟨gz, 0, none⟩ = some (.bool false) := (blk_cell HG4.out.z 0).trans rfl
            have z1W3 : W3.cell? ⟨gz, 1, none⟩ = some (.int .i64 0) := (blk_cell HG4.out.z 1).trans rfl
            have y0W3 := blk_frozen HG4.out.z 0
            have y1W3 := blk_frozen HG4.out.z 1
            by_cases herc : erc = 0
            · subst herc
              rw [if_pos rfl] at hR
              by_cases hbc : btc = 0
              · subst hbc
                rw [if_pos rfl] at hR
                clear HG3
                go_wp2_with (fail)
                go_loopw [11, 12] (fun uv ui wr => ∃ i : Nat, ∃ v : Int, ∃ s : DS, i ≤ c ∧ uv = .int .i64 v ∧ ui = .int .i64 i ∧ digD base c (c - i) i s v = R ∧ 0 ≤ v ∧ v < 2 ^ (i + 1) ∧ Aside0 (GS RDecAt w S g gz s wr)) (fun _ ui _ => (c - intOf ui).toNat)
                case atStart => exact ⟨0, 1, s3, by omega, rfl, rfl, hR, by omega, by decide, HG4⟩
                case round =>
                  obtain ⟨i, v, s4, hi, rfl, rfl, hR, hv0, hv1, HG7⟩ := hrel
                  clear HG4
                  have hp : (2 : Int) ^ (i + 1) ≤ 2097152 := by
                    have h3 : (2 : Nat) ^ (i + 1) ≤ 2 ^ 21 := Nat.pow_le_pow_right (by omega) (by omega)
                    have h4 : ((2 ^ (i + 1) : Nat) : Int) ≤ ((2 ^ 21 : Nat) : Int) := Int.ofNat_le.mpr h3
                    rw [Int.natCast_pow] at h4
                    exact h4
                  by_cases hic : i < c
                  · have hicl : (i : Int) < c := by omega
                    rw [show c - i = (c - (i + 1)) + 1 by omega] at hR
                    unfold digD at hR
                    by_cases hi0 : i = 0
                    · have hi0l : ((i : Int) == 0) = true := beq_iff_eq.mpr (by omega)
                      rw [show ctxOf c i = 23 + (c : Int) from if_pos hi0] at hR
                      have hi0 := Aside0.mk hi0
                      go_wp2_with (fail)
                      refine (rgs_get HG7.out HS.out hz (base + (23 + c))).mono ?_
                      rintro e W6 ⟨rfl, hg⟩
                      obtain ⟨⟨s5, btd, erd⟩, hg1⟩ : ∃ x, s4.getI (base + (23 + c)) = x := ⟨_, rfl⟩
                      have hbtbtd : 0 ≤ btd ∧ btd ≤ 1 := by have := bit_range s4 (base + (23 + c)); rw [hg1] at this; exact this
                      rw [hg1] at hR hg ⊢
                      simp only at hR hg ⊢
                      have HG6 := Aside0.mk hg
                      clear hg hg1
                      have z0W6 : W6.cell? ⟨gz, 0, none⟩ = some (.bool false) := (blk_cell HG6.out.z 0).trans rfl
                      have z1W6 : W6.cell? ⟨gz, 1, none⟩ = some (.int .i64 0) := (blk_cell HG6.out.z 1).trans rfl
                      have y0W6 := blk_frozen HG6.out.z 0
                      have y1W6 := blk_frozen HG6.out.z 1
                      by_cases herd : erd = 0
                      · subst herd
                        rw [if_pos rfl] at hR
                        go_wp2_with (fail)
                        exact ⟨⟨i + 1, 2 * v + btd, s5, by omega, rfl, by first | rfl | (rw [hi0.out]; rfl), hR, by omega, by rw [Int.pow_succ]; omega, HG6⟩, by simp [intOf]; omega⟩
                      · rw [if_neg herd] at hR
                        subst hR
                        have e0erd : (erd == 0) = false := beq_eq_false_iff_ne.mpr herd
                        have e1erd : (erd != 0) = true := bne_iff_ne.mpr herd
                        go_wp2_with (fail)
                        exact bodyPost_ret (rnret (zset HG6.out.z (.bool false) (.int .i64 0)) rfl rfl) rfl ⟨rfl, (HG6.out.fin HS.out hz (.bool false) (.int .i64 0)).1, (HG6.out.fin HS.out hz (.bool false) (.int .i64 0)).2, HG6.out.ok⟩
                    · have hi0l : ((i : Int) == 0) = false := beq_eq_false_iff_ne.mpr (by omega)
                      rw [show ctxOf c i = min (43 + (i : Int)) 47 from (if_neg hi0)] at hR
                      have hi0 := Aside0.mk hi0
                      by_cases h47 : 47 < 43 + (i : Int)
                      · rw [show min (43 + (i : Int)) 47 = 47 by omega] at hR
                        go_wp2_with (fail)
                        refine (rgs_get HG7.out HS.out hz (base + 47)).mono ?_
                        rintro e W6 ⟨rfl, hg⟩
                        obtain ⟨⟨s5, btd, erd⟩, hg1⟩ : ∃ x, s4.getI (base + 47) = x := ⟨_, rfl⟩
                        have hbtbtd : 0 ≤ btd ∧ btd ≤ 1 := by have := bit_range s4 (base + 47); rw [hg1] at this; exact this
                        rw [hg1] at hR hg ⊢
                        simp only at hR hg ⊢
                        have HG6 := Aside0.mk hg
                        clear hg hg1
                        have z0W6 : W6.cell? ⟨gz, 0, none⟩ = some (.bool false) := (blk_cell HG6.out.z 0).trans rfl
                        have z1W6 : W6.cell? ⟨gz, 1, none⟩ = some (.int .i64 0) := (blk_cell HG6.out.z 1).trans rfl
                        have y0W6 := blk_frozen HG6.out.z 0
                        have y1W6 := blk_frozen HG6.out.z 1
                        by_cases herd : erd = 0
                        · subst herd
                          rw [if_pos rfl] at hR
                          go_wp2_with (fail)
                          exact ⟨⟨i + 1, 2 * v + btd, s5, by omega, rfl, rfl, hR, by omega, by rw [Int.pow_succ]; omega, HG6⟩, by simp [intOf]; omega⟩
                        · rw [if_neg herd] at hR
                          subst hR
                          have e0erd : (erd == 0) = false := beq_eq_false_iff_ne.mpr herd
                          have e1erd : (erd != 0) = true := bne_iff_ne.mpr herd
                          go_wp2_with (fail)
                          exact bodyPost_ret (rnret (zset HG6.out.z (.bool false) (.int .i64 0)) rfl rfl) rfl ⟨rfl, (HG6.out.fin HS.out hz (.bool false) (.int .i64 0)).1, (HG6.out.fin HS.out hz (.bool false) (.int .i64 0)).2, HG6.out.ok⟩
                      · rw [show min (43 + (i : Int)) 47 = 43 + (i : Int) by omega] at hR
                        go_wp2_with (fail)
                        refine (rgs_get HG7.out HS.out hz (base + (43 + i))).mono ?_
                        rintro e W6 ⟨rfl, hg⟩
                        obtain ⟨⟨s5, btd, erd⟩, hg1⟩ : ∃ x, s4.getI (base + (43 + i)) = x := ⟨_, rfl⟩
                        have hbtbtd : 0 ≤ btd ∧ btd ≤ 1 := by have := bit_range s4 (base + (43 + i)); rw [hg1] at this; exact this
                        rw [hg1] at hR hg ⊢
                        simp only at hR hg ⊢
                        have HG6 := Aside0.mk hg
                        clear hg hg1
                        have z0W6 : W6.cell? ⟨gz, 0, none⟩ = some (.bool false) := (blk_cell HG6.out.z 0).trans rfl
                        have z1W6 : W6.cell? ⟨gz, 1, none⟩ = some (.int .i64 0) := (blk_cell HG6.out.z 1).trans rfl
                        have y0W6 := blk_frozen HG6.out.z 0
                        have y1W6 := blk_frozen HG6.out.z 1
                        by_cases herd : erd = 0
                        · subst herd
                          rw [if_pos rfl] at hR
                          go_wp2_with (fail)
                          exact ⟨⟨i + 1, 2 * v + btd, s5, by omega, rfl, rfl, hR, by omega, by rw [Int.pow_succ]; omega, HG6⟩, by simp [intOf]; omega⟩
                        · rw [if_neg herd] at hR
                          subst hR
                          have e0erd : (erd == 0) = false := beq_eq_false_iff_ne.mpr herd
                          have e1erd : (erd != 0) = true := bne_iff_ne.mpr herd
                          go_wp2_with (fail)
                          exact bodyPost_ret (rnret (zset HG6.out.z (.bool false) (.int .i64 0)) rfl rfl) rfl ⟨rfl, (HG6.out.fin HS.out hz (.bool false) (.int .i64 0)).1, (HG6.out.fin HS.out hz (.bool false) (.int .i64 0)).2, HG6.out.ok⟩
                  · have hicl : ¬ (i : Int) < c := by omega
                    rw [show c - i = 0 by omega] at hR
                    unfold digD signD at hR
                    have z0wq : wr.cell? ⟨gz, 0, none⟩ = some (.bool false) := (blk_cell HG7.out.z 0).trans rfl
                    have z1wq : wr.cell? ⟨gz, 1, none⟩ = some (.int .i64 0) := (blk_cell HG7.out.z 1).trans rfl
                    have y0wq := blk_frozen HG7.out.z 0
                    have y1wq := blk_frozen HG7.out.z 1
                    by_cases hv2 : v > 1048577
                    · rw [if_pos hv2] at hR
                      subst hR
                      have hv3 : 1048577 < v := hv2
                      go_wp2_with (fail)
                      exact bodyPost_ret (rnret (zset HG7.out.z (.bool false) (.int .i64 0)) rfl rfl) rfl ⟨rfl, (HG7.out.fin HS.out hz (.bool false) (.int .i64 0)).1, (HG7.out.fin HS.out hz (.bool false) (.int .i64 0)).2, HG7.out.ok⟩
                    · rw [if_neg hv2] at hR
                      have hv3 : ¬ 1048577 < v := hv2
                      by_cases hv4 : v = 1
                      · rw [if_pos hv4] at hR
                        subst hR
                        have hv5 : (v == 1) = true := beq_iff_eq.mpr hv4
                        go_wp2_with (fail)
                        exact bodyPost_ret (rnret (zset HG7.out.z (.bool false) (.int .i64 0)) rfl rfl) rfl ⟨rfl, (HG7.out.fin HS.out hz (.bool false) (.int .i64 0)).1, (HG7.out.fin HS.out hz (.bool false) (.int .i64 0)).2, HG7.out.ok⟩
                      · rw [if_neg hv4] at hR
                        have hv5 : (v == 1) = false := beq_eq_false_iff_ne.mpr hv4
                        clear z0wq z1wq y0wq y1wq
                        go_wp2_with (fail)
                        refine (rgs_get HG7.out HS.out hz (base + 22)).mono ?_
                        rintro e W6 ⟨rfl, hg⟩
                        obtain ⟨⟨s5, btd, erd⟩, hg1⟩ : ∃ x, s4.getI (base + 22) = x := ⟨_, rfl⟩
                        have hbtbtd : 0 ≤ btd ∧ btd ≤ 1 := by have := bit_range s4 (base + 22); rw [hg1] at this; exact this
                        rw [hg1] at hR hg ⊢
                        simp only at hR hg ⊢
                        have HG6 := Aside0.mk hg
                        clear hg hg1
                        have z0W6 : W6.cell? ⟨gz, 0, none⟩ = some (.bool false) := (blk_cell HG6.out.z 0).trans rfl
                        have z1W6 : W6.cell? ⟨gz, 1, none⟩ = some (.int .i64 0) := (blk_cell HG6.out.z 1).trans rfl
                        have y0W6 := blk_frozen HG6.out.z 0
                        have y1W6 := blk_frozen HG6.out.z 1
                        by_cases herd : erd = 0
                        · subst herd
                          rw [if_pos rfl] at hR
                          rcases (show btd = 0 ∨ btd = 1 by omega) with rfl | rfl
                          · rw [show (v - 1) * (1 - 2 * 0) = v - 1 by omega] at hR
                            subst hR
                            go_wp2_with (fail)
                            exact bodyPost_ret (rnret (zset HG6.out.z (.bool false) (.int .i64 (v - 1))) rfl rfl) rfl ⟨rfl, (HG6.out.fin HS.out hz (.bool false) (.int .i64 (v - 1))).1, (HG6.out.fin HS.out hz (.bool false) (.int .i64 (v - 1))).2, HG6.out.ok⟩
                          · rw [show (v - 1) * (1 - 2 * 1) = -(v - 1) by omega] at hR
                            subst hR
                            go_wp2_with (fail)
                            exact bodyPost_ret (rnret (zset HG6.out.z (.bool false) (.int .i64 (-(v - 1)))) rfl rfl) rfl ⟨rfl, (HG6.out.fin HS.out hz (.bool false) (.int .i64 (-(v - 1)))).1, (HG6.out.fin HS.out hz (.bool false) (.int .i64 (-(v - 1)))).2, HG6.out.ok⟩
                        · rw [if_neg herd] at hR
                          subst hR
                          have e0erd : (erd == 0) = false := beq_eq_false_iff_ne.mpr herd
                          have e1erd : (erd != 0) = true := bne_iff_ne.mpr herd
                          go_wp2_with (fail)
                          exact bodyPost_ret (rnret (zset HG6.out.z (.bool false) (.int .i64 0)) rfl rfl) rfl ⟨rfl, (HG6.out.fin HS.out hz (.bool false) (.int .i64 0)).1, (HG6.out.fin HS.out hz (.bool false) (.int .i64 0)).2, HG6.out.ok⟩
              · rw [if_neg hbc] at hR
                have ebc : (btc == 0) = false := beq_eq_false_iff_ne.mpr hbc
                go_wp2_with (fail)
                exact ⟨⟨c + 1, s3, by omega, rfl, by exact hR, HG4⟩, by simp [intOf]; omega⟩
            · rw [if_neg herc] at hR
              subst hR
              have e0erc : (erc == 0) = false := beq_eq_false_iff_ne.mpr herc
              have e1erc : (erc != 0) = true := bne_iff_ne.mpr herc
              go_wp2_with (fail)
              exact bodyPost_ret (rnret (zset HG4.out.z (.bool false) (.int .i64 0)) rfl rfl) rfl ⟨rfl, (HG4.out.fin HS.out hz (.bool false) (.int .i64 0)).1, (HG4.out.fin HS.out hz (.bool false) (.int .i64 0)).2, HG4.out.ok⟩
          · have hcl : ¬ (c : Int) < 20 := by omega
            rw [show 20 - c = 0 by omega] at hR
            unfold lenD at hR
            go_wp2_with (fail)
            go_loopw [11, 12] (fun uv ui wr => ∃ i : Nat, ∃ v : Int, ∃ s : DS, i ≤ c ∧ uv = .int .i64 v ∧ ui = .int .i64 i ∧ digD base c (c - i) i s v = R ∧ 0 ≤ v ∧ v < 2 ^ (i + 1) ∧ Aside0 (GS RDecAt w S g gz s wr)) (fun _ ui _ => (c - intOf ui).toNat)
            case atStart => exact ⟨0, 1, s2, by omega, rfl, rfl, hR, by omega, by decide, HG3⟩
            case round =>
              obtain ⟨i, v, s4, hi, rfl, rfl, hR, hv0, hv1, HG7⟩ := hrel
              clear HG3
              have hp : (2 : Int) ^ (i + 1) ≤ 2097152 := by
                have h3 : (2 : Nat) ^ (i + 1) ≤ 2 ^ 21 := Nat.pow_le_pow_right (by omega) (by omega)
                have h4 : ((2 ^ (i + 1) : Nat) : Int) ≤ ((2 ^ 21 : Nat) : Int) := Int.ofNat_le.mpr h3
                rw [Int.natCast_pow] at h4
                exact h4
              by_cases hic : i < c
              · have hicl : (i : Int) < c := by omega
                rw [show c - i = (c - (i + 1)) + 1 by omega] at hR
                unfold digD at hR
                by_cases hi0 : i = 0
                · have hi0l : ((i : Int) == 0) = true := beq_iff_eq.mpr (by omega)
                  rw [show ctxOf c i = 23 + (c : Int) from if_pos hi0] at hR
                  have hi0 := Aside0.mk hi0
                  go_wp2_with (fail)
                  refine (rgs_get HG7.out HS.out hz (base + (23 + c))).mono ?_
                  rintro e W6 ⟨rfl, hg⟩
                  obtain ⟨⟨s5, btd, erd⟩, hg1⟩ : ∃ x, s4.getI (base + (23 + c)) = x := ⟨_, rfl⟩
                  have hbtbtd : 0 ≤ btd ∧ btd ≤ 1 := by have := bit_range s4 (base + (23 + c)); rw [hg1] at this; exact this
                  rw [hg1] at hR hg ⊢
                  simp only at hR hg ⊢
                  have HG6 := Aside0.mk hg
                  clear hg hg1
                  have z0W6 : W6.cell? ⟨gz, 0, none⟩ = some (.bool false) := (blk_cell HG6.out.z 0).trans rfl
                  have z1W6 : W6.cell? ⟨gz, 1, none⟩ = some (.int .i64 0) := (blk_cell HG6.out.z 1).trans rfl
                  have y0W6 := blk_frozen HG6.out.z 0
                  have y1W6 := blk_frozen HG6.out.z 1
                  by_cases herd : erd = 0
                  · subst herd
                    rw [if_pos rfl] at hR
                    go_wp2_with (fail)
                    exact ⟨⟨i + 1, 2 * v + btd, s5, by omega, rfl, by first | rfl | (rw [hi0.out]; rfl), hR, by omega, by rw [Int.pow_succ]; omega, HG6⟩, by simp [intOf]; omega⟩
                  · rw [if_neg herd] at hR
                    subst hR
                    have e0erd : (erd == 0) = false := beq_eq_false_iff_ne.mpr herd
                    have e1erd : (erd != 0) = true := bne_iff_ne.mpr herd
                    go_wp2_with (fail)
                    exact bodyPost_ret (rnret (zset HG6.out.z (.bool false) (.int .i64 0)) rfl rfl) rfl ⟨rfl, (HG6.out.fin HS.out hz (.bool false) (.int .i64 0)).1, (HG6.out.fin HS.out hz (.bool false) (.int .i64 0)).2, HG6.out.ok⟩
                · have hi0l : ((i : Int) == 0) = false := beq_eq_false_iff_ne.mpr (by omega)
                  rw [show ctxOf c i = min (43 + (i : Int)) 47 from (if_neg hi0)] at hR
                  have hi0 := Aside0.mk hi0
                  by_cases h47 : 47 < 43 + (i : Int)
                  · rw [show min (43 + (i : Int)) 47 = 47 by omega] at hR
                    go_wp2_with (fail)
                    refine (rgs_get HG7.out HS.out hz (base + 47)).mono ?_
                    rintro e W6 ⟨rfl, hg⟩
                    obtain ⟨⟨s5, btd, erd⟩, hg1⟩ : ∃ x, s4.getI (base + 47) = x := ⟨_, rfl⟩
                    have hbtbtd : 0 ≤ btd ∧ btd ≤ 1 := by have := bit_range s4 (base + 47); rw [hg1] at this; exact this
                    rw [hg1] at hR hg ⊢
                    simp only at hR hg ⊢
                    have HG6 := Aside0.mk hg
                    clear hg hg1
                    have z0W6 : W6.cell? ⟨gz, 0, none⟩ = some (.bool false) := (blk_cell HG6.out.z 0).trans rfl
                    have z1W6 : W6.cell? ⟨gz, 1, none⟩ = some (.int .i64 0) := (blk_cell HG6.out.z 1).trans rfl
                    have y0W6 := blk_frozen HG6.out.z 0
                    have y1W6 := blk_frozen HG6.out.z 1
                    by_cases herd : erd = 0
                    · subst herd
                      rw [if_pos rfl] at hR
                      go_wp2_with (fail)
                      exact ⟨⟨i + 1, 2 * v + btd, s5, by omega, rfl, rfl, hR, by omega, by rw [Int.pow_succ]; omega, HG6⟩, by simp [intOf]; omega⟩
                    · rw [if_neg herd] at hR
                      subst hR
                      have e0erd : (erd == 0) = false := beq_eq_false_iff_ne.mpr herd
                      have e1erd : (erd != 0) = true := bne_iff_ne.mpr herd
                      go_wp2_with (fail)
                      exact bodyPost_ret (rnret (zset HG6.out.z (.bool false) (.int .i64 0)) rfl rfl) rfl ⟨rfl, (HG6.out.fin HS.out hz (.bool false) (.int .i64 0)).1, (HG6.out.fin HS.out hz (.bool false) (.int .i64 0)).2, HG6.out.ok⟩
                  · rw [show min (43 + (i : Int)) 47 = 43 + (i : Int) by omega] at hR
                    go_wp2_with (fail)
                    refine (rgs_get HG7.out HS.out hz (base + (43 + i))).mono ?_
                    rintro e W6 ⟨rfl, hg⟩
                    obtain ⟨⟨s5, btd, erd⟩, hg1⟩ : ∃ x, s4.getI (base + (43 + i)) = x := ⟨_, rfl⟩
                    have hbtbtd : 0 ≤ btd ∧ btd ≤ 1 := by have := bit_range s4 (base + (43 + i)); rw [hg1] at this; exact this
                    rw [hg1] at hR hg ⊢
                    simp only at hR hg ⊢
                    have HG6 := Aside0.mk hg
                    clear hg hg1
                    have z0W6 : W6.cell? ⟨gz, 0, none⟩ = some (.bool false) := (blk_cell HG6.out.z 0).trans rfl
                    have z1W6 : W6.cell? ⟨gz, 1, none⟩ = some (.int .i64 0) := (blk_cell HG6.out.z 1).trans rfl
                    have y0W6 := blk_frozen HG6.out.z 0
                    have y1W6 := blk_frozen HG6.out.z 1
                    by_cases herd : erd = 0
                    · subst herd
                      rw [if_pos rfl] at hR
                      go_wp2_with (fail)
                      exact ⟨⟨i + 1, 2 * v + btd, s5, by omega, rfl, rfl, hR, by omega, by rw [Int.pow_succ]; omega, HG6⟩, by simp [intOf]; omega⟩
                    · rw [if_neg herd] at hR
                      subst hR
                      have e0erd : (erd == 0) = false := beq_eq_false_iff_ne.mpr herd
                      have e1erd : (erd != 0) = true := bne_iff_ne.mpr herd
                      go_wp2_with (fail)
                      exact bodyPost_ret (rnret (zset HG6.out.z (.bool false) (.int .i64 0)) rfl rfl) rfl ⟨rfl, (HG6.out.fin HS.out hz (.bool false) (.int .i64 0)).1, (HG6.out.fin HS.out hz (.bool false) (.int .i64 0)).2, HG6.out.ok⟩
              · have hicl : ¬ (i : Int) < c := by omega
                rw [show c - i = 0 by omega] at hR
                unfold digD signD at hR
                have z0wq : wr.cell? ⟨gz, 0, none⟩ = some (.bool false) := (blk_cell HG7.out.z 0).trans rfl
                have z1wq : wr.cell? ⟨gz, 1, none⟩ = some (.int .i64 0) := (blk_cell HG7.out.z 1).trans rfl
                have y0wq := blk_frozen HG7.out.z 0
                have y1wq := blk_frozen HG7.out.z 1
                by_cases hv2 : v > 1048577
                · rw [if_pos hv2] at hR
                  subst hR
                  have hv3 : 1048577 < v := hv2
                  go_wp2_with (fail)
                  exact bodyPost_ret (rnret (zset HG7.out.z (.bool false) (.int .i64 0)) rfl rfl) rfl ⟨rfl, (HG7.out.fin HS.out hz (.bool false) (.int .i64 0)).1, (HG7.out.fin HS.out hz (.bool false) (.int .i64 0)).2, HG7.out.ok⟩
                · rw [if_neg hv2] at hR
                  have hv3 : ¬ 1048577 < v := hv2
                  by_cases hv4 : v = 1
                  · rw [if_pos hv4] at hR
                    subst hR
                    have hv5 : (v == 1) = true := beq_iff_eq.mpr hv4
                    go_wp2_with (fail)
                    exact bodyPost_ret (rnret (zset HG7.out.z (.bool false) (.int .i64 0)) rfl rfl) rfl ⟨rfl, (HG7.out.fin HS.out hz (.bool false) (.int .i64 0)).1, (HG7.out.fin HS.out hz (.bool false) (.int .i64 0)).2, HG7.out.ok⟩
                  · rw [if_neg hv4] at hR
                    have hv5 : (v == 1) = false := beq_eq_false_iff_ne.mpr hv4
                    clear z0wq z1wq y0wq y1wq
                    go_wp2_with (fail)
                    refine (rgs_get HG7.out HS.out hz (base + 22)).mono ?_
                    rintro e W6 ⟨rfl, hg⟩
                    obtain ⟨⟨s5, btd, erd⟩, hg1⟩ : ∃ x, s4.getI (base + 22) = x := ⟨_, rfl⟩
                    have hbtbtd : 0 ≤ btd ∧ btd ≤ 1 := by have := bit_range s4 (base + 22); rw [hg1] at this; exact this
                    rw [hg1] at hR hg ⊢
                    simp only at hR hg ⊢
                    have HG6 := Aside0.mk hg
                    clear hg hg1
                    have z0W6 : W6.cell? ⟨gz, 0, none⟩ = some (.bool false) := (blk_cell HG6.out.z 0).trans rfl
                    have z1W6 : W6.cell? ⟨gz, 1, none⟩ = some (.int .i64 0) := (blk_cell HG6.out.z 1).trans rfl
                    have y0W6 := blk_frozen HG6.out.z 0
                    have y1W6 := blk_frozen HG6.out.z 1
                    by_cases herd : erd = 0
                    · subst herd
                      rw [if_pos rfl] at hR
                      rcases (show btd = 0 ∨ btd = 1 by omega) with rfl | rfl
                      · rw [show (v - 1) * (1 - 2 * 0) = v - 1 by omega] at hR
                        subst hR
                        go_wp2_with (fail)
                        exact bodyPost_ret (rnret (zset HG6.out.z (.bool false) (.int .i64 (v - 1))) rfl rfl) rfl ⟨rfl, (HG6.out.fin HS.out hz (.bool false) (.int .i64 (v - 1))).1, (HG6.out.fin HS.out hz (.bool false) (.int .i64 (v - 1))).2, HG6.out.ok⟩
                      · rw [show (v - 1) * (1 - 2 * 1) = -(v - 1) by omega] at hR
                        subst hR
                        go_wp2_with (fail)
                        exact bodyPost_ret (rnret (zset HG6.out.z (.bool false) (.int .i64 (-(v - 1)))) rfl rfl) rfl ⟨rfl, (HG6.out.fin HS.out hz (.bool false) (.int .i64 (-(v - 1)))).1, (HG6.out.fin HS.out hz (.bool false) (.int .i64 (-(v - 1)))).2, HG6.out.ok⟩
                    · rw [if_neg herd] at hR
                      subst hR
                      have e0erd : (erd == 0) = false := beq_eq_false_iff_ne.mpr herd
                      have e1erd : (erd != 0) = true := bne_iff_ne.mpr herd
                      go_wp2_with (fail)
                      exact bodyPost_ret (rnret (zset HG6.out.z (.bool false) (.int .i64 0)) rfl rfl) rfl ⟨rfl, (HG6.out.fin HS.out hz (.bool false) (.int .i64 0)).1, (HG6.out.fin HS.out hz (.bool false) (.int .i64 0)).2, HG6.out.ok⟩
    · rw [if_neg her] at hR
      subst hR
      have e0er : (er == 0) = false := beq_eq_false_iff_ne.mpr her
      have e1er : (er != 0) = true := bne_iff_ne.mpr her
      go_wp2_with (fail)
      exact bodyPost_ret (rnret (zset HG2.out.z (.bool false) (.int .i64 0)) rfl rfl) rfl ⟨rfl, (HG2.out.fin HS.out hz (.bool false) (.int .i64 0)).1, (HG2.out.fin HS.out hz (.bool false) (.int .i64 0)).2, HG2.out.ok⟩
  · rw [if_neg hrm] at hR
    subst hR
    have hd : decide (hasRoom s.st.length base 48) = false := decide_eq_false hrm
    rw [hd]
    clear hrm hd
    have z0W9 : W9.cell? ⟨gz, 0, none⟩ = some (.bool false) := (blk_cell HG.out.z 0).trans rfl
    have z1W9 : W9.cell? ⟨gz, 1, none⟩ = some (.int .i64 0) := (blk_cell HG.out.z 1).trans rfl
    have y0W9 := blk_frozen HG.out.z 0
    have y1W9 := blk_frozen HG.out.z 1
    go_wp2_with (fail)
    exact bodyPost_ret (rnret (zset HG.out.z (.bool false) (.int .i64 0)) rfl rfl) rfl ⟨rfl, (HG.out.fin HS.out hz (.bool false) (.int .i64 0)).1, (HG.out.fin HS.out hz (.bool false) (.int .i64 0)).2, HG.out.ok⟩
end Go.Proofs.Ytlnhahnnjbfjdaa.Nrw
namespace Go.Proofs.Ytlnhahnnjbfjdaa.Ndc
open Go Go.RowKit Go.Proofs.YtlnhahnnjbfjdaaW.PrintWords Go.Proofs.YtlnhahnnjbfjdaaW.PrintLast Go.Proofs.YtlnhahnnjbfjdaaW.PrintMore Go.Proofs.Ytlnhahnnjbfjdaa.U Go.Proofs.Ytlnhahnnjbfjdaa.Aid Go.Proofs.Ytlnhahnnjbfjdaa.HandAid Go.Proofs.Ytlnhahnnjbfjdaa.Cod1 Go.Proofs.Ytlnhahnnjbfjdaa.Cod2 Go.Proofs.Ytlnhahnnjbfjdaa.Cod3 Go.Proofs.Ytlnhahnnjbfjdaa.Mod Go.Proofs.Ytlnhahnnjbfjdaa.NewRef Go.Proofs.Ytlnhahnnjbfjdaa.Enc Go.Proofs.Ytlnhahnnjbfjdaa.Mods Go.Proofs.Ytlnhahnnjbfjdaa.EncAt Go.Proofs.Ytlnhahnnjbfjdaa.Put Go.Proofs.Ytlnhahnnjbfjdaa.End Go.Proofs.Ytlnhahnnjbfjdaa.Snc Go.Proofs.Ytlnhahnnjbfjdaa.Dec Go.Proofs.Ytlnhahnnjbfjdaa.Get Go.Proofs.Ytlnhahnnjbfjdaa.DecNew Go.Proofs.Ytlnhahnnjbfjdaa.RefAt Go.Proofs.Ytlnhahnnjbfjdaa.RDec Go.Proofs.Ytlnhahnnjbfjdaa.RDecNew Go.Proofs.Ytlnhahnnjbfjdaa.Ngt Go.Proofs.Ytlnhahnnjbfjdaa.Nwk Go.Proofs.Ytlnhahnnjbfjdaa.Nrw
/-- The numbers that a decoder tells. -/
def decN : Nat → DS → List S23 → List S23 × Int
  | 0, _, l => (l, 0)
  | k + 1, s, l => if (numD 0 s).2.2 = 0 then decN k (numD 0 s).1 (l ++ [⟨(numD 0 s).2.1.1, (numD 0 s).2.1.2⟩]) else ([], (numD 0 s).2.2)
def decNs (kind : Int) (b : List Int) (n : Int) : List S23 × Int := if (kind = 0 ∨ kind = 1) ∧ 0 ≤ n ∧ n ≤ 20000 then decN n.toNat (newDS kind (List.replicate 48 0) b) [] else ([], 2)
/-- What stands in Decode's loop. -/
structure NMem (At : World → (Nat → Prop) → Nat → DS → Prop) (w : World) (B E g : Nat) (s : DS) (v : Value) (acc : List S23) (W : World) : Prop where
  e : At W (fun j => B ≤ j ∧ j < E) g s
  ok : s.ok
  r : Kd.R k23 23 W w.heap.size (fun j => E ≤ j) v acc
  b : Below w.heap.size w W
  wB : w.heap.size ≤ B
  BE : B ≤ E
  EW : E ≤ W.heap.size
section
variable {At : World → (Nat → Prop) → Nat → DS → Prop} [AtL At] {w : World} {B E g : Nat} {s s' : DS} {v v' : Value} {acc acc' : List S23} {W W' : World}
omit [AtL At] in
theorem NMem.get (H : NMem At w B E g s v acc W) (hE : At W' (fun j => B ≤ j ∧ j < E) g s') (hok : s'.ok) (hM : Mods W W' (fun j => B ≤ j ∧ j < E)) : NMem At w B E g s' v acc W' :=
  ⟨hE, hok, Kd.R_kept H.r hM.kept (fun k hk hk2 => by omega), below_mods H.b hM (fun k hk => Nat.le_trans H.wB hk.1) H.b.size, H.wB, H.BE, Nat.le_trans H.EW hM.size⟩
theorem NMem.below (H : NMem At w B E g s v acc W) (hb : Below W.heap.size W W') : NMem At w B E g s v acc W' :=
  ⟨AtL.below H.e hb, H.ok, Kd.R_below H.r hb, below_then H.b H.b.size hb, H.wB, H.BE, Nat.le_trans H.EW hb.size⟩
theorem NMem.app (H : NMem At w B E g s v acc W) (hg : W.grownBy W' v.ownBlock) (hR : Kd.R k23 23 W' w.heap.size (fun j => E ≤ j) v' acc') (hB : Below w.heap.size w W') : NMem At w B E g s v' acc' W' := by
  have hM : Mods W W' (fun j => E ≤ j) := Mods.of_grown hg (Mods.refl _ _) (fun k hk => .inl (H.r.1 k hk))
  exact ⟨AtL.kept H.e hM (fun k hk hk2 => by omega), H.ok, hR, hB, H.wB, H.BE, Nat.le_trans H.EW hM.size⟩
end
/-- Decode's answer. -/
def NDec (w : World) (R : List S23 × Int) (e : Ending) (w' : World) : Prop := ∃ v0, e = .returned (.tuple #[v0, .int .i64 R.2]) ∧ Kd.R k23 23 w' w.heap.size (fun _ => True) v0 R.1 ∧ Below w.heap.size w w'
theorem newM_ok {kind : Int} (h : kind = 0 ∨ kind = 1) : newModel kind 48 = (kind, List.replicate 48 0, 0) := if_pos ⟨h, by decide, by decide⟩
theorem newM_bad {kind : Int} (h : ¬ (kind = 0 ∨ kind = 1)) : newModel kind 48 = (0, [], 2) := if_neg (fun h2 => h h2.1)
set_option maxHeartbeats 2000000 in
set_option maxRecDepth 100000 in
theorem ndecode_calls (kind : Int) (A2 : Option Addr) (c2 : Nat) (b : List Int) (n : Int) (w : World) (hC2 : Kd.C (Kd.int .u8) w A2 b.length b) (hc2 : b.length ≤ c2) (hb : Bytes b) (hl : b.length ≤ 1099511627776) :
    Calls Try.prog 18 #[.int .i64 kind, .slice A2 b.length c2, .int .i64 n] w (NDec w (decNs kind b n)) := by
  have HC2 := Aside0.mk hC2
  have HBY := Aside0.mk hb
  have hu := Try.underlying45
  have hu48 := Try.underlying23
  clear hC2 hb
  obtain ⟨R, hR⟩ : ∃ r, decNs kind b n = r := ⟨_, rfl⟩
  rw [hR]
  unfold decNs at hR
  go_enter Try.func18, Try.ntmps18
  go_wp2_with (fail)
  refine (new_calls kind 48 w).mono ?_
  rintro e w1 ⟨A, c, rfl, hRM, hb1⟩
  by_cases hk : kind = 0 ∨ kind = 1
  · by_cases hn : 0 ≤ n ∧ n ≤ 20000
    · rw [if_pos ⟨hk, hn.1, hn.2⟩] at hR
      rw [newM_ok hk] at hRM ⊢
      have hmok : okModel kind (List.replicate 48 0) := by have := new_ok kind 48 (by rw [newM_ok hk]); rw [newM_ok hk] at this; exact this
      generalize hst : List.replicate 48 (0 : Int) = st at hR hRM hmok ⊢
      have hst48 : st.length = 48 := by rw [← hst]; exact List.length_replicate
      clear hst
      simp only [hst48] at hRM ⊢
      have HCM := Aside0.mk hRM
      have HB1 := Aside0.mk hb1
      clear hRM hb1
      go_wp2_with (fail)
      obtain ⟨W2, hW2⟩ : ∃ x, w1.alloc (.cells #[.int .i64 kind, .slice A 48 c] 45) = x := ⟨_, rfl⟩
      have HB12 := Aside0.mk (show Below w1.heap.size w1 W2 from hW2 ▸ below_alloc (Below.refl _ _) _)
      have HB2 := Aside0.mk (below_then HB1.out HB1.out.size HB12.out)
      obtain ⟨hc48, hc48b, hCM⟩ := Kd.R_reads' HCM.out
      have HCM := Aside0.mk (Kd.C_below hCM HB12.out)
      rw [hW2]
      clear hW2 hCM HB1 HB12
      have hnd := new_dec A c kind st A2 c2 b W2 HCM.out (by rw [hst48]; exact hc48b) hmok (Kd.C_below HC2.out HB2.out) hc2 HBY.out hl
      rw [hst48] at hnd
      refine hnd.mono ?_
      rintro e w3 ⟨g, rfl, hE1, hB3⟩
      obtain ⟨E, hE⟩ : ∃ E, w3.heap.size = E := ⟨_, rfl⟩
      have HM := Aside0.mk (show NMem DecAt w W2.heap.size E g (newDS kind st b) (.slice none 0 0) [] w3 from ⟨AtL.mono hE1 (fun j hj => ⟨hj.1, hE ▸ hj.2⟩), newDS_ok hmok HBY.out hl, Kd.R_nil _ _ _ _ _, below_then HB2.out HB2.out.size hB3, HB2.out.size, hE ▸ hB3.size, Nat.le_of_eq hE.symm⟩)
      have hn0 := hn.1
      have hn1 := hn.2
      clear hE1 hB3 hnd hE hn HB2 HCM HC2 HBY hk hmok hst48 hc48 hc48b
      go_wp2_with (fail)
      go_loopw [12, 37] (fun x i wr => ∃ k : Nat, ∃ s : DS, ∃ acc : List S23, (k : Int) ≤ n ∧ i = .int .i64 k ∧ decN (n.toNat - k) s acc = R ∧ acc.length = k ∧ Aside0 (NMem DecAt w W2.heap.size E g s x acc wr)) (fun _ i _ => (n - intOf i).toNat)
      case atStart => exact ⟨0, _, [], by omega, rfl, hR, rfl, HM⟩
      case round =>
        obtain ⟨k, s, acc, hk, rfl, hdec, hlen, HS⟩ := hrel
        clear HM
        by_cases hlt : (k : Int) < n
        · obtain ⟨⟨s', ⟨nn, N⟩, er⟩, hR1⟩ : ∃ R1, numD 0 s = R1 := ⟨_, rfl⟩
          rw [show n.toNat - k = (n.toNat - (k + 1)) + 1 by omega] at hdec
          unfold decN at hdec
          rw [hR1] at hdec
          simp only at hdec
          have hacc : acc.length ≤ 20000 := by omega
          go_wp2_with (fail)
          have hg := number_get wr (fun j => W2.heap.size ≤ j ∧ j < E) g s 0 HS.out.e (fun j hj => Nat.lt_of_lt_of_le hj.2 HS.out.EW) HS.out.ok (by omega) (by omega) _ hR1
          refine hg.mono ?_
          rintro e W4 ⟨rfl, hE4, hM4, hok4⟩
          have HS4 := Aside0.mk (HS.out.get hE4 hok4 hM4)
          clear hg hE4 hM4 hok4 HS
          by_cases he : er = 0
          · subst he
            rw [if_pos rfl] at hdec
            go_wp2_with ((with_reducible refine gate_builtin (b := .append) (xs := #[.tmp 47, .tmp 49]) rfl ?_); at_builtin; refine Kd.R_append k23 (w0 := w) w.heap.size rfl (.tmp 47) (.tmp 49) 35 23 (.agg #[(.bool false), (.int .i64 0)]) 16 rfl Try.underlying35 info23 rfl (by decide) (by omega) u12 acc (⟨nn, N⟩ : S23) [.bool nn, .int .i64 N] (fun j => E ≤ j) (fun _ => False) rfl ?aX (k23_mkM _ _ _ (⟨nn, N⟩ : S23)) (fun _ hk => hk.elim) (fun _ h => Nat.le_trans (HS4.out.below (below_alloc (Below.refl _ _) _)).EW h) (HS4.out.below (below_alloc (Below.refl _ _) _)).r (HS4.out.below (below_alloc (Below.refl _ _) _)).b ?aS (by omega) ?_; (case aX => first | (go_simp; done) | rfl); (case aS => exact (HS4.out.below (below_alloc (Below.refl _ _) _)).b.size); intro v2 w3 ho hb2 hgr hat; have HS5 := Aside0.mk ((HS4.out.below (below_alloc (Below.refl _ _) _)).app hgr ho hb2); clear ho hb2 hgr hat)
            exact ⟨⟨k + 1, s', acc ++ [⟨nn, N⟩], by omega, rfl, hdec, by rw [List.length_append, hlen]; rfl, HS5⟩, by simp [intOf]; omega⟩
          · rw [if_neg he] at hdec
            subst hdec
            have e0 : (er == 0) = false := beq_eq_false_iff_ne.mpr he
            have e1 : (er != 0) = true := bne_iff_ne.mpr he
            go_wp2_with (fail)
            go_ret2
            exact ⟨_, rfl, Kd.R_nil _ _ _ _ _, below_alloc HS4.out.b _⟩
        · have hkn : n.toNat - k = 0 := by omega
          rw [hkn] at hdec
          unfold decN at hdec
          subst hdec
          go_wp2_with (fail)
          go_ret2
          exact ⟨_, rfl, Kd.R_mono HS.out.r (fun _ _ => trivial), HS.out.b⟩
    · rw [if_neg (fun h => hn h.2)] at hR
      subst hR
      rw [newM_ok hk] at hRM ⊢
      simp only [List.length_replicate] at hRM ⊢
      have HB1 := Aside0.mk hb1
      clear hRM hb1
      rcases (show n < 0 ∨ (¬ n < 0 ∧ 20000 < n) by omega) with h | ⟨h, h2⟩
      · clear hn
        go_wp2_with (fail)
        go_ret2
        exact ⟨_, rfl, Kd.R_nil _ _ _ _ _, below_alloc HB1.out _⟩
      · clear hn
        go_wp2_with (fail)
        go_ret2
        exact ⟨_, rfl, Kd.R_nil _ _ _ _ _, below_alloc HB1.out _⟩
  · rw [if_neg (fun h => hk h.1)] at hR
    subst hR
    rw [newM_bad hk] at hRM ⊢
    have HB1 := Aside0.mk hb1
    clear hRM hb1 hk
    go_wp2_with (fail)
    go_ret2
    exact ⟨_, rfl, Kd.R_nil _ _ _ _ _, below_alloc HB1.out _⟩
set_option maxHeartbeats 2000000 in
set_option maxRecDepth 100000 in
theorem rdecode_calls (kind : Int) (A2 : Option Addr) (c2 : Nat) (b : List Int) (n : Int) (w : World) (hC2 : Kd.C (Kd.int .u8) w A2 b.length b) (hc2 : b.length ≤ c2) (hb : Bytes b) (hl : b.length ≤ 1099511627776) :
    Calls Try.prog 19 #[.int .i64 kind, .slice A2 b.length c2, .int .i64 n] w (NDec w (decNs kind b n)) := by
  have HC2 := Aside0.mk hC2
  have HBY := Aside0.mk hb
  have hu := Try.underlying45
  have hu48 := Try.underlying23
  clear hC2 hb
  obtain ⟨R, hR⟩ : ∃ r, decNs kind b n = r := ⟨_, rfl⟩
  rw [hR]
  unfold decNs at hR
  go_enter Try.func19, Try.ntmps19
  go_wp2_with (fail)
  refine (ref_new_calls kind 48 w).mono ?_
  rintro e w1 ⟨A, c, rfl, hRM, hb1⟩
  by_cases hk : kind = 0 ∨ kind = 1
  · by_cases hn : 0 ≤ n ∧ n ≤ 20000
    · rw [if_pos ⟨hk, hn.1, hn.2⟩] at hR
      rw [newM_ok hk] at hRM ⊢
      have hmok : okModel kind (List.replicate 48 0) := by have := new_ok kind 48 (by rw [newM_ok hk]); rw [newM_ok hk] at this; exact this
      generalize hst : List.replicate 48 (0 : Int) = st at hR hRM hmok ⊢
      have hst48 : st.length = 48 := by rw [← hst]; exact List.length_replicate
      clear hst
      simp only [hst48] at hRM ⊢
      have HCM := Aside0.mk hRM
      have HB1 := Aside0.mk hb1
      clear hRM hb1
      go_wp2_with (fail)
      obtain ⟨W2, hW2⟩ : ∃ x, w1.alloc (.cells #[.int .i64 kind, .slice A 48 c] 45) = x := ⟨_, rfl⟩
      have HB12 := Aside0.mk (show Below w1.heap.size w1 W2 from hW2 ▸ below_alloc (Below.refl _ _) _)
      have HB2 := Aside0.mk (below_then HB1.out HB1.out.size HB12.out)
      obtain ⟨hc48, hc48b, hCM⟩ := Kd.R_reads' HCM.out
      have HCM := Aside0.mk (Kd.C_below hCM HB12.out)
      rw [hW2]
      clear hW2 hCM HB1 HB12
      have hnd := rnew_dec A c kind st A2 c2 b W2 HCM.out (by rw [hst48]; exact hc48b) hmok (Kd.C_below HC2.out HB2.out) hc2 HBY.out hl
      rw [hst48] at hnd
      refine hnd.mono ?_
      rintro e w3 ⟨g, rfl, hE1, hB3⟩
      obtain ⟨E, hE⟩ : ∃ E, w3.heap.size = E := ⟨_, rfl⟩
      have HM := Aside0.mk (show NMem RDecAt w W2.heap.size E g (newDS kind st b) (.slice none 0 0) [] w3 from ⟨AtL.mono hE1 (fun j hj => ⟨hj.1, hE ▸ hj.2⟩), newDS_ok hmok HBY.out hl, Kd.R_nil _ _ _ _ _, below_then HB2.out HB2.out.size hB3, HB2.out.size, hE ▸ hB3.size, Nat.le_of_eq hE.symm⟩)
      have hn0 := hn.1
      have hn1 := hn.2
      clear hE1 hB3 hnd hE hn HB2 HCM HC2 HBY hk hmok hc48 hc48b
      go_wp2_with (fail)
      go_loopw [12, 13] (fun x i wr => ∃ k : Nat, ∃ s : DS, ∃ acc : List S23, (k : Int) ≤ n ∧ i = .int .i64 k ∧ decN (n.toNat - k) s acc = R ∧ acc.length = k ∧ s.st.length = 48 ∧ Aside0 (NMem RDecAt w W2.heap.size E g s x acc wr)) (fun _ i _ => (n - intOf i).toNat)
      case atStart => exact ⟨0, _, [], by omega, rfl, hR, rfl, hst48, HM⟩
      case round =>
        obtain ⟨k, s, acc, hk, rfl, hdec, hlen, hs48, HS⟩ := hrel
        clear HM
        by_cases hlt : (k : Int) < n
        · obtain ⟨⟨s', ⟨nn, N⟩, er⟩, hR1⟩ : ∃ R1, numD 0 s = R1 := ⟨_, rfl⟩
          rw [show n.toNat - k = (n.toNat - (k + 1)) + 1 by omega] at hdec
          unfold decN at hdec
          have hl2 := numD_len 0 s
          rw [hR1] at hdec hl2
          simp only at hdec
          have hacc : acc.length ≤ 20000 := by omega
          go_wp2_with (fail)
          have hg := rnum_get wr (fun j => W2.heap.size ≤ j ∧ j < E) g s 0 HS.out.e (fun j hj => Nat.lt_of_lt_of_le hj.2 HS.out.EW) HS.out.ok  _ (show numR 0 s = _ from (if_pos (by unfold hasRoom; omega)).trans hR1)
          refine hg.mono ?_
          rintro e W4 ⟨rfl, hE4, hM4, hok4⟩
          have HS4 := Aside0.mk (HS.out.get hE4 hok4 hM4)
          clear hg hE4 hM4 hok4 HS
          by_cases he : er = 0
          · subst he
            rw [if_pos rfl] at hdec
            go_wp2_with ((with_reducible refine gate_builtin (b := .append) (xs := #[.tmp 50, .tmp 52]) rfl ?_); at_builtin; refine Kd.R_append k23 (w0 := w) w.heap.size rfl (.tmp 50) (.tmp 52) 35 23 (.agg #[(.bool false), (.int .i64 0)]) 16 rfl Try.underlying35 info23 rfl (by decide) (by omega) u12 acc (⟨nn, N⟩ : S23) [.bool nn, .int .i64 N] (fun j => E ≤ j) (fun _ => False) rfl ?aX (k23_mkM _ _ _ (⟨nn, N⟩ : S23)) (fun _ hk => hk.elim) (fun _ h => Nat.le_trans (HS4.out.below (below_alloc (Below.refl _ _) _)).EW h) (HS4.out.below (below_alloc (Below.refl _ _) _)).r (HS4.out.below (below_alloc (Below.refl _ _) _)).b ?aS (by omega) ?_; (case aX => first | (go_simp; done) | rfl); (case aS => exact (HS4.out.below (below_alloc (Below.refl _ _) _)).b.size); intro v2 w3 ho hb2 hgr hat; have HS5 := Aside0.mk ((HS4.out.below (below_alloc (Below.refl _ _) _)).app hgr ho hb2); clear ho hb2 hgr hat)
            exact ⟨⟨k + 1, s', acc ++ [⟨nn, N⟩], by omega, rfl, hdec, by rw [List.length_append, hlen]; rfl, hl2.trans hs48, HS5⟩, by simp [intOf]; omega⟩
          · rw [if_neg he] at hdec
            subst hdec
            have e0 : (er == 0) = false := beq_eq_false_iff_ne.mpr he
            have e1 : (er != 0) = true := bne_iff_ne.mpr he
            go_wp2_with (fail)
            go_ret2
            exact ⟨_, rfl, Kd.R_nil _ _ _ _ _, below_alloc HS4.out.b _⟩
        · have hkn : n.toNat - k = 0 := by omega
          rw [hkn] at hdec
          unfold decN at hdec
          subst hdec
          go_wp2_with (fail)
          go_ret2
          exact ⟨_, rfl, Kd.R_mono HS.out.r (fun _ _ => trivial), HS.out.b⟩
    · rw [if_neg (fun h => hn h.2)] at hR
      subst hR
      rw [newM_ok hk] at hRM ⊢
      simp only [List.length_replicate] at hRM ⊢
      have HB1 := Aside0.mk hb1
      clear hRM hb1
      rcases (show n < 0 ∨ (¬ n < 0 ∧ 20000 < n) by omega) with h | ⟨h, h2⟩
      · clear hn
        go_wp2_with (fail)
        go_ret2
        exact ⟨_, rfl, Kd.R_nil _ _ _ _ _, below_alloc HB1.out _⟩
      · clear hn
        go_wp2_with (fail)
        go_ret2
        exact ⟨_, rfl, Kd.R_nil _ _ _ _ _, below_alloc HB1.out _⟩
  · rw [if_neg (fun h => hk h.1)] at hR
    subst hR
    rw [newM_bad hk] at hRM ⊢
    have HB1 := Aside0.mk hb1
    clear hRM hb1 hk
    go_wp2_with (fail)
    go_ret2
    exact ⟨_, rfl, Kd.R_nil _ _ _ _ _, below_alloc HB1.out _⟩
end Go.Proofs.Ytlnhahnnjbfjdaa.Ndc
