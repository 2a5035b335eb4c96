import Derived.Test.YtpnmedmghncpiaaPCoderShortx2
import Derived.Test.YtpnmedmghncpiaaPCoderShortx3
import Derived.Test.YtpnmedmghncpiaaAid
import Derived.Test.YtpnmedmghncpiaaHandAid
import Derived.Test.YtpnmedmghncpiaaCod1
import Derived.Test.YtpnmedmghncpiaaCod2
import Derived.Test.YtpnmedmghncpiaaCod3
import Derived.Test.YtpnmedmghncpiaaMod
import Derived.Test.YtpnmedmghncpiaaEnc
import Derived.Test.YtpnmedmghncpiaaMods
import Derived.Test.YtpnmedmghncpiaaEncAt
import Derived.Test.YtpnmedmghncpiaaPut
import Derived.Test.YtpnmedmghncpiaaEnd
import Derived.Test.YtpnmedmghncpiaaEncode
import Derived.Test.YtpnmedmghncpiaaRefAt
import Derived.Test.YtpnmedmghncpiaaDec
import Derived.Test.YtpnmedmghncpiaaGet
-- needs: Aid HandAid Cod1 Cod2 Cod3 Mod Enc Mods EncAt Put End Encode RefAt Dec Get
-- print: incunableref02_Interval_Part incunableref02_Interval_Fixed incunableref02_Interval_Shifted incunableref02_Interval_Mid incunableref02_Whole incunableref02_Copy
namespace Go.Proofs.Ytpnmedmghncpiaa.RDec
open Go Go.RowKit Go.Proofs.YtpnmedmghncpiaaW.PrintWords Go.Proofs.YtpnmedmghncpiaaW.PrintLast Go.Proofs.YtpnmedmghncpiaaW.PrintMore Go.Proofs.Ytpnmedmghncpiaa.Aid Go.Proofs.Ytpnmedmghncpiaa.HandAid Go.Proofs.Ytpnmedmghncpiaa.Cod1 Go.Proofs.Ytpnmedmghncpiaa.Cod2 Go.Proofs.Ytpnmedmghncpiaa.Cod3 Go.Proofs.Ytpnmedmghncpiaa.Mod Go.Proofs.Ytpnmedmghncpiaa.Enc Go.Proofs.Ytpnmedmghncpiaa.Mods Go.Proofs.Ytpnmedmghncpiaa.EncAt Go.Proofs.Ytpnmedmghncpiaa.Put Go.Proofs.Ytpnmedmghncpiaa.End Go.Proofs.Ytpnmedmghncpiaa.Encode Go.Proofs.Ytpnmedmghncpiaa.RefAt Go.Proofs.Ytpnmedmghncpiaa.Dec Go.Proofs.Ytpnmedmghncpiaa.Get Go.Proofs.Ytpnmedmghncpiaa.PCoderShort
set_option linter.unusedVariables false
set_option linter.unusedSimpArgs false
attribute [local go_sem low] max2_int
attribute [local go_sem] min2_int max_two min_two
theorem max_sub (k n : Nat) : Builtin.max2 (.int .i64 0) (.int .i64 ((k : Int) - (n : Int))) = pure (.int .i64 ((k - n : Nat) : Int)) := by
  rw [max2_int]
  congr 2
  split <;> omega
attribute [local go_sem high] max_sub
/-- The reference's decoder: its cells. -/
def dec9 (kind : Int) (v : Value) (low high : Int) (vc : Value) (a value be : Int) (ended : Bool) : Array Value := #[.int .i64 kind, v, .int .u64 low, .int .u64 high, vc, .int .i64 a, .int .u64 value, .int .i64 be, .bool ended]
structure RDecRow (W : World) (S : Nat → Prop) (g : Nat) (kind : Int) (A : Option Addr) (c : Nat) (st : List Int) (low high : Int) (vc : Value) (code : List Int) (a value be : Int) (ended : Bool) : Prop where
  b : W.heap[g]? = some (.cells (dec9 kind (.slice A st.length c) low high vc a value be ended) 98 (0, 0))
  s : Kd.R (Kd.int .i64) 3 W 0 S (.slice A st.length c) st
  o : Kd.R (Kd.int .u8) 5 W 0 S vc code
  g : S g
section
variable {W W' : World} {S S' : Nat → Prop} {g : Nat} {kind : Int} {A : Option Addr} {c : Nat} {st : List Int} {low high : Int} {vc : Value} {code : List Int} {a value be : Int} {ended : Bool}
theorem RDecRow.kept (h : RDecRow W S g kind A c st low high vc code a value be ended) (hk : Mods W W' S') (hne : ∀ k, S k → ¬ S' k) : RDecRow W' S g kind A c st low high vc code a value be ended :=
  ⟨blk_kept h.b hk.kept (hne g h.g), Kd.R_kept h.s hk.kept hne, Kd.R_kept h.o hk.kept hne, h.g⟩
theorem RDecRow.below (h : RDecRow W S g kind A c st low high vc code a value be ended) (hb : Below W.heap.size W W') : RDecRow W' S g kind A c st low high vc code a value be ended :=
  ⟨blk_below h.b hb, Kd.R_below h.s hb, Kd.R_below h.o hb, h.g⟩
theorem RDecRow.drewN (h : RDecRow W S g kind A c st low high vc code a value be ended) (m : Nat) : RDecRow (W.drewN m) S g kind A c st low high vc code a value be ended := h.below (pw_below_drewN (Below.refl _ _) m)
theorem RDecRow.drew (h : RDecRow W S g kind A c st low high vc code a value be ended) : RDecRow W.drew S g kind A c st low high vc code a value be ended := h.below (below_drew (Below.refl _ _))
theorem RDecRow.mono (h : RDecRow W S g kind A c st low high vc code a value be ended) (hs : ∀ k, S k → S' k) : RDecRow W S' g kind A c st low high vc code a value be ended :=
  ⟨h.b, Kd.R_mono h.s hs, Kd.R_mono h.o hs, hs g h.g⟩
theorem RDecRow.c0 (h : RDecRow W S g kind A c st low high vc code a value be ended) : W.cell? ⟨g, 0, none⟩ = some (.int .i64 kind) := (blk_cell h.b 0).trans rfl
theorem RDecRow.c1 (h : RDecRow W S g kind A c st low high vc code a value be ended) : W.cell? ⟨g, 1, none⟩ = some (.slice A st.length c) := (blk_cell h.b 1).trans rfl
theorem RDecRow.c2 (h : RDecRow W S g kind A c st low high vc code a value be ended) : W.cell? ⟨g, 2, none⟩ = some (.int .u64 low) := (blk_cell h.b 2).trans rfl
theorem RDecRow.c3 (h : RDecRow W S g kind A c st low high vc code a value be ended) : W.cell? ⟨g, 3, none⟩ = some (.int .u64 high) := (blk_cell h.b 3).trans rfl
theorem RDecRow.c4 (h : RDecRow W S g kind A c st low high vc code a value be ended) : W.cell? ⟨g, 4, none⟩ = some vc := (blk_cell h.b 4).trans rfl
theorem RDecRow.c5 (h : RDecRow W S g kind A c st low high vc code a value be ended) : W.cell? ⟨g, 5, none⟩ = some (.int .i64 a) := (blk_cell h.b 5).trans rfl
theorem RDecRow.c6 (h : RDecRow W S g kind A c st low high vc code a value be ended) : W.cell? ⟨g, 6, none⟩ = some (.int .u64 value) := (blk_cell h.b 6).trans rfl
theorem RDecRow.c7 (h : RDecRow W S g kind A c st low high vc code a value be ended) : W.cell? ⟨g, 7, none⟩ = some (.int .i64 be) := (blk_cell h.b 7).trans rfl
theorem RDecRow.c8 (h : RDecRow W S g kind A c st low high vc code a value be ended) : W.cell? ⟨g, 8, none⟩ = some (.bool ended) := (blk_cell h.b 8).trans rfl
theorem RDecRow.fz (h : RDecRow W S g kind A c st low high vc code a value be ended) (i : Nat) : W.frozen? ⟨g, i, none⟩ = false := blk_frozen h.b i
theorem RDecRow.cell (h : RDecRow W S g kind A c st low high vc code a value be ended) {i : Nat} (hi : i < st.length) : ∃ b, A = some ⟨b, 0, none⟩ ∧ W.cell? ⟨b, i, none⟩ = some (.int .i64 (rd st i)) ∧ W.frozen? ⟨b, i, none⟩ = false ∧ b ≠ g := by
  obtain ⟨b, cap, hv, _, _, cells, hc⟩ := Kd.R_form h.s (by omega)
  injection hv with hA _ hcap
  subst hA hcap
  have h1 := Kd.R_cell (0 : Int) h.s (i : Int) (by omega) (by omega)
  have hne : b ≠ g := blk_ne hc h.b (by decide)
  exact ⟨b, rfl, h1.1, h1.2, hne⟩
theorem RDecRow.put (h : RDecRow W S g kind A c st low high vc code a value be ended) (j : Nat) (u : Value) {kind' low' high' a' value' be' : Int} {ended' : Bool} (e : (dec9 kind (.slice A st.length c) low high vc a value be ended).setIfInBounds j u = dec9 kind' (.slice A st.length c) low' high' vc a' value' be' ended') : RDecRow (W.setCell ⟨g, j, none⟩ u) S g kind' A c st low' high' vc code a' value' be' ended' :=
  ⟨blk_put h.b j u e, Kd.R_set h.s h.b (by decide) _ _, Kd.R_set h.o h.b (by decide) _ _, h.g⟩
theorem RDecRow.setst {b : Nat} (h : RDecRow W S g kind (some ⟨b, 0, none⟩) c st low high vc code a value be ended) {i : Nat} (hi : i < st.length) (x : Int) : RDecRow (W.setCell ⟨b, i, none⟩ (.int .i64 x)) S g kind (some ⟨b, 0, none⟩) c (st.set i x) low high vc code a value be ended := by
  obtain ⟨b', hA, _, _, hne⟩ := h.cell hi
  injection hA with hA
  injection hA with hA _ _
  subst hA
  obtain ⟨cells, hty⟩ := Kd.R_typed h.s b (by simp [Value.ownBlock])
  have hp := (Kd.R_put (enc := Value.int .i64) h.s (i : Int) x).1
  rw [Int.toNat_natCast] at hp
  have hl : (st.set i x).length = st.length := List.length_set
  refine ⟨?_, ?_, Kd.R_set h.o hty (by decide) _ _, h.g⟩
  · rw [hl]
    exact blk_far h.b (Ne.symm hne) _
  · rw [hl]
    exact hp
/-- A write in another block. -/
theorem RDecRow.far (h : RDecRow W S g kind A c st low high vc code a value be ended) {p : Addr} (hp : ¬ S p.block) (u : Value) : RDecRow (W.setCell p u) S g kind A c st low high vc code a value be ended :=
  h.kept ((Mods.refl W (fun k => k = p.block)).setCell (.inl rfl) u) (fun k hk he => hp (he ▸ hk))
end
theorem byte_calls (Ac : Option Addr) (cc : Nat) (code : List Int) (i : Nat) (w : World) (hC : Kd.C (Kd.int .u8) w Ac code.length code) (hby : Bytes code) :
    Calls Try.prog 64 #[.slice Ac code.length cc, .int .i64 i] w fun e w' => e = .returned (.int .u64 (Dec.byteOf code i)) ∧ w = w' := by
  have HBY := Aside0.mk hby
  clear hby
  by_cases hlt : i < code.length
  · have hb : Dec.byteOf code i = rd code i := if_pos hlt
    obtain ⟨ad, hA, hx⟩ := Kd.at_int hC (i : Int) (by omega) (by omega)
    subst hA
    rw [Int.toNat_natCast] at hx
    have hr := byteOf_range HBY.out i
    rw [hb] at hr
    have hi : (i : Int) < (code.length : Int) := by omega
    have HBB := Aside0.mk hb
    clear hlt hb hC
    go_enter Try.func64, Try.ntmps64
    go_wp2
    go_ret
    exact ⟨by rw [HBB.out]; rfl, rfl⟩
  · have hb : Dec.byteOf code i = 0 := if_neg hlt
    have hi : ¬ (i : Int) < (code.length : Int) := by omega
    have HBB := Aside0.mk hb
    clear hlt hb hC
    go_enter Try.func64, Try.ntmps64
    go_wp2
    go_ret
    exact ⟨by rw [HBB.out]; rfl, rfl⟩
theorem rmid_calls (low high p : Int) (w : World) (h0 : 0 ≤ low) (h1 : low ≤ high) (h2 : high ≤ 4294967295) (h3 : 1 ≤ p) (h4 : p ≤ 4095) : Calls Try.prog 65 #[.agg #[.int .u64 low, .int .u64 high], .int .i64 p] w fun e w' => e = .returned (.int .u64 (midOf low high p)) ∧ Below w.heap.size w w' :=
  incunableref02_Interval_Mid.calls low high p _ w (mid_eq low high p h0 h1 h2 h3 h4)
/-- What a Get that takes a bit leaves. -/
def RGetPost (w : World) (S : Nat → Prop) (g : Nat) (kind : Int) (b c : Nat) (st : List Int) (low high mid : Int) (vc : Value) (code : List Int) (a : Nat) (value : Int) (i : Nat) (bit : Int) (e : Ending) (w' : World) : Prop :=
  (∃ l h n, normE 4 (cutL low mid bit) (cutH high mid bit) = (n, l, h) ∧ ((a + n.length - code.length > 4 ∧ e = .returned (.tuple #[.int .i64 0, .int .i64 6]) ∧ RDecRow w' S g kind (some ⟨b, 0, none⟩) c st low high vc code a value ((a - code.length : Nat) : Int) true) ∨ (¬ a + n.length - code.length > 4 ∧ e = .returned (.tuple #[.int .i64 bit, .int .i64 0]) ∧ RDecRow w' S g kind (some ⟨b, 0, none⟩) c (st.set i (after kind (rd st i) bit)) l h vc code ((a + n.length : Nat) : Int) (shV code n.length value a) ((a + n.length - code.length : Nat) : Int) false))) ∧ Mods w w' S
set_option maxHeartbeats 4000000 in
set_option maxRecDepth 100000 in
theorem rget_row0 (w : World) (S : Nat → Prop) (g : Nat) (kind : Int) (b c : Nat) (st : List Int) (low high mid : Int) (vc : Value) (code : List Int) (a : Nat) (value : Int) (i : Nat) (hE : RDecRow w S g kind (some ⟨b, 0, none⟩) c st low high vc code a value ((a - code.length : Nat) : Int) false) (hSb : ∀ k, S k → k < w.heap.size) (hi : i < st.length) (hn : st.length ≤ 8192) (hs : okState kind (rd st i)) (hl0 : 0 ≤ low) (hlh : low ≤ high) (hh : high ≤ 4294967295) (hmid : midOf low high (likely kind (rd st i)) = mid) (hm0 : 0 ≤ mid) (hm1 : mid ≤ 4294967295) (hI0 : PutInv [] (cutL low mid 0) (cutH high mid 0) 4 (cutL low mid 0) (cutH high mid 0) []) (hv0 : 0 ≤ value) (hv1 : value ≤ 4294967295) (hby : Bytes code) (hlen : code.length ≤ 1099511627776) (ha : a - code.length ≤ 4) (hvb : ¬ value ≤ mid) :
    Calls Try.prog 39 #[.pointer (some ⟨g, 0, none⟩), .int .i64 i] w (RGetPost w S g kind b c st low high mid vc code a value i 0) := by
  have HE := Aside0.mk hE
  have hSg : S g := hE.g
  have hSb2 : S b := hE.s.1 b (by simp [Value.ownBlock])
  obtain ⟨Ac, cc, hvc⟩ := Kd.R_slice hE.o
  subst hvc
  have k0 := hE.c0
  have k1 := hE.c1
  have k8 := hE.c8
  have ks : w.cell? ⟨b, i, none⟩ = some (.int .i64 (rd st i)) := by obtain ⟨b', hA, hc, _⟩ := hE.cell hi; cases hA; exact hc
  have hlk := likely_range kind (rd st i) hs
  have HMID := fun W => Aside0.mk (hmid ▸ rmid_calls low high (likely kind (rd st i)) W hl0 hlh hh hlk.1 hlk.2)
  have HP := fun W => Aside0.mk (hmid ▸ part_calls low high (likely kind (rd st i)) 0 W hl0 hlh hh hlk.1 hlk.2)
  have HI := Aside0.mk hI0
  have HBY := Aside0.mk hby
  have HSB := Aside0.mk hSb
  have hu := Try.underlying83
  clear hE hmid hI0 hby hSb
  have hi1 : (0 : Int) ≤ (i : Int) := by omega
  have hi2 : (i : Int) < (st.length : Int) := by omega
  go_enter Try.func39, Try.ntmps39
  go_wp2
  refine start_ (n := 15) (S := fun w' => w'.cell? ⟨g, 0, none⟩ = some (.int .i64 kind) ∧ w'.cell? ⟨g, 1, none⟩ = some (.slice (some ⟨b, 0, none⟩) st.length c) ∧ w'.cell? ⟨b, i, none⟩ = some (.int .i64 (rd st i))) (ds := []) #[false, false, false, false, false, false, false, false, false, false, false, false, false, false, false] (by kernel_rfl) rfl rfl ⟨k0, k1, ks⟩ (fun hHeld => ?_)
  refine pure_ (i := 0) (N := some 30) (v := ?_) (a' := ?_) #[true, false, false, false, false, false, false, false, false, false, false, false, false, false, false] rfl rfl (by kernel_rfl) (fun _ _ _ h => h) (Or.inl ⟨by rfl, ?_⟩) ?_ ?_
  rotate_left
  · intro w'
    go_simp
    with_reducible rfl
  rotate_left
  · simp only [Act.put, List.setIfInBounds_toArray, List.set_cons_zero, List.set_cons_succ, i64_w, i32_w]
    rfl
  refine pure_ (i := 1) (N := some 31) (v := ?_) (a' := ?_) #[true, true, false, false, false, false, false, false, false, false, false, false, false, false, false] rfl rfl (by kernel_rfl) (fun _ _ _ h => h) (Or.inl ⟨by rfl, ?_⟩) ?_ ?_
  rotate_left
  · intro w'
    go_simp
    with_reducible rfl
  rotate_left
  · simp only [Act.put, List.setIfInBounds_toArray, List.set_cons_zero, List.set_cons_succ, i64_w, i32_w]
    rfl
  refine pure_ (i := 2) (N := some 32) (v := ?_) (a' := ?_) #[true, true, true, false, false, false, false, false, false, false, false, false, false, false, false] rfl rfl (by kernel_rfl) (fun _ _ _ h => h) (Or.inl ⟨by rfl, ?_⟩) ?_ ?_
  rotate_left
  · intro w'
    go_simp
    with_reducible rfl
  rotate_left
  · simp only [Act.put, List.setIfInBounds_toArray, List.set_cons_zero, List.set_cons_succ, i64_w, i32_w]
    rfl
  refine pure_ (i := 3) (N := some 33) (v := ?_) (a' := ?_) #[true, true, true, true, false, false, false, false, false, false, false, false, false, false, false] rfl rfl (by kernel_rfl) (fun _ _ _ h => h) (Or.inl ⟨by rfl, ?_⟩) ?_ ?_
  rotate_left
  · intro w'
    go_simp
    with_reducible rfl
  rotate_left
  · simp only [Act.put, List.setIfInBounds_toArray, List.set_cons_zero, List.set_cons_succ, i64_w, i32_w]
    rfl
  refine pure_ (i := 5) (N := some 35) (v := ?_) (a' := ?_) #[true, true, true, true, false, true, false, false, false, false, false, false, false, false, false] rfl rfl (by kernel_rfl) (fun _ _ _ h => h) (Or.inl ⟨by rfl, ?_⟩) ?_ ?_
  rotate_left
  · intro w'
    go_simp
    with_reducible rfl
  rotate_left
  · simp only [Act.put, List.setIfInBounds_toArray, List.set_cons_zero, List.set_cons_succ, i64_w, i32_w]
    rfl
  refine pure_ (i := 6) (N := some 36) (v := ?_) (a' := ?_) #[true, true, true, true, false, true, true, false, false, false, false, false, false, false, false] rfl rfl (by kernel_rfl) (fun _ _ _ h => h) (Or.inl ⟨by rfl, ?_⟩) ?_ ?_
  rotate_left
  · intro w'
    go_simp
    with_reducible rfl
  rotate_left
  · simp only [Act.put, List.setIfInBounds_toArray, List.set_cons_zero, List.set_cons_succ, i64_w, i32_w]
    rfl
  refine pure_ (i := 7) (N := some 37) (v := ?_) (a' := ?_) #[true, true, true, true, false, true, true, true, false, false, false, false, false, false, false] rfl rfl (by kernel_rfl) (fun _ _ _ h => h) (Or.inl ⟨by rfl, ?_⟩) ?_ ?_
  rotate_left
  · intro w'
    go_simp
    with_reducible rfl
  rotate_left
  · simp only [Act.put, List.setIfInBounds_toArray, List.set_cons_zero, List.set_cons_succ, i64_w, i32_w]
    rfl
  refine pure_ (i := 8) (N := some 38) (v := ?_) (a' := ?_) #[true, true, true, true, false, true, true, true, true, false, false, false, false, false, false] rfl rfl (by kernel_rfl) (fun _ _ _ h => h) (Or.inl ⟨by rfl, ?_⟩) ?_ ?_
  rotate_left
  · intro w'
    go_simp
    with_reducible rfl
  rotate_left
  · simp only [Act.put, List.setIfInBounds_toArray, List.set_cons_zero, List.set_cons_succ, i64_w, i32_w]
    rfl
  refine pure_ (i := 10) (N := some 40) (v := ?_) (a' := ?_) #[true, true, true, true, false, true, true, true, true, false, true, false, false, false, false] rfl rfl (by kernel_rfl) (fun _ _ _ h => h) (Or.inl ⟨by rfl, ?_⟩) ?_ ?_
  rotate_left
  · intro w'
    go_simp
    with_reducible rfl
  rotate_left
  · simp only [Act.put, List.setIfInBounds_toArray, List.set_cons_zero, List.set_cons_succ, i64_w, i32_w]
    rfl
  refine take_ (i := 4) (N := some 34) (v := ?_) (a' := ?_) #[true, true, true, true, true, true, true, true, true, false, true, false, false, false, false] rfl rfl (by kernel_rfl) (fun _ _ _ h => h) (Or.inl ⟨by rfl, ?_⟩) hHeld ?_ ?_
  rotate_left
  · rintro w' ⟨s0, s1, s2⟩
    go_simp
    with_reducible rfl
  rotate_left
  · simp only [Act.put, List.setIfInBounds_toArray, List.set_cons_zero, List.set_cons_succ, i64_w, i32_w]
    rfl
  refine take_ (i := 9) (N := some 39) (v := ?_) (a' := ?_) #[true, true, true, true, true, true, true, true, true, true, true, false, false, false, false] rfl rfl (by kernel_rfl) (fun _ _ _ h => h) (Or.inl ⟨by rfl, ?_⟩) hHeld ?_ ?_
  rotate_left
  · rintro w' ⟨s0, s1, s2⟩
    go_simp
    with_reducible rfl
  rotate_left
  · simp only [Act.put, List.setIfInBounds_toArray, List.set_cons_zero, List.set_cons_succ, i64_w, i32_w]
    rfl
  refine pure_ (i := 11) (N := some 41) (v := ?_) (a' := ?_) #[true, true, true, true, true, true, true, true, true, true, true, true, false, false, false] rfl rfl (by kernel_rfl) (fun _ _ _ h => h) (Or.inl ⟨by rfl, ?_⟩) ?_ ?_
  rotate_left
  · intro w'
    go_simp
    with_reducible rfl
  rotate_left
  · simp only [Act.put, List.setIfInBounds_toArray, List.set_cons_zero, List.set_cons_succ, i64_w, i32_w]
    rfl
  refine take_ (i := 12) (N := some 42) (v := ?_) (a' := ?_) #[true, true, true, true, true, true, true, true, true, true, true, true, true, false, false] rfl rfl (by kernel_rfl) (fun _ _ _ h => h) (Or.inl ⟨by rfl, ?_⟩) hHeld ?_ ?_
  rotate_left
  · rintro w' ⟨s0, s1, s2⟩
    go_simp
    with_reducible rfl
  rotate_left
  · simp only [Act.put, List.setIfInBounds_toArray, List.set_cons_zero, List.set_cons_succ, i64_w, i32_w]
    rfl
  refine one_ (i := 13) (N := some 43) #[true, true, true, true, true, true, true, true, true, true, true, true, true, true, false] rfl rfl (by kernel_rfl) (by decide) (fun K hK => ?_)
  refine goes_ Try.func32 (by kernel_rfl) rfl #[.int .i64 kind, .int .i64 (rd st i)] (by rfl) rfl rfl (by simp only [List.map_toArray, List.map_cons, List.map_nil]; rfl) ?_
  with_reducible refine (likelyB kind (rd st i) _ hs).mono ?_
  rintro e w3 ⟨rfl, hb3⟩
  refine ⟨_, rfl, ?_⟩
  have hb3' := below_undrew1 hb3
  have HE3 := Aside0.mk (HE.out.below hb3')
  have HM3 := Aside0.mk ((Mods.refl w S).below hb3')
  clear hb3 hb3'
  refine hK.out _ _ ⟨HE3.out.c0, HE3.out.c1, by obtain ⟨b', hA, hc, _⟩ := HE3.out.cell hi; cases hA; exact hc⟩ (fun hHeld => ?_)
  clear hK K
  refine norm_ (a' := ?_) ?_ ?_
  rotate_left
  · show Act.put _ (some 43) _ = _
    simp only [Act.put, List.setIfInBounds_toArray, List.set_cons_zero, List.set_cons_succ, i64_w, i32_w]
    rfl
  refine pure_ (i := 14) (N := some 6) (v := ?_) (a' := ?_) #[true, true, true, true, true, true, true, true, true, true, true, true, true, true, true] rfl rfl (by kernel_rfl) (fun _ _ _ h => h) (Or.inl ⟨by rfl, ?_⟩) ?_ ?_
  rotate_left
  · intro w'
    go_simp
    with_reducible rfl
  rotate_left
  · simp only [Act.put, List.setIfInBounds_toArray, List.set_cons_zero, List.set_cons_succ, i64_w, i32_w]
    rfl
  refine done_ (by kernel_rfl) ?_

  clear k0 k1 ks k8 HE
  go_wp2
  have HE3 := Aside0.mk HE3.out.drew
  have HM3 := Aside0.mk HM3.out.drew
  have k2 := HE3.out.c2
  have k3 := HE3.out.c3
  have k6 := HE3.out.c6
  refine start_ (n := 11) (S := fun w' => w'.cell? ⟨g, 2, none⟩ = some (.int .u64 low) ∧ w'.cell? ⟨g, 3, none⟩ = some (.int .u64 high) ∧ w'.cell? ⟨g, 6, none⟩ = some (.int .u64 value)) (ds := []) #[false, false, false, false, false, false, false, false, false, false, false] (by kernel_rfl) rfl rfl ⟨k2, k3, k6⟩ (fun hHeld => ?_)
  refine pure_ (i := 0) (N := some 44) (v := ?_) (a' := ?_) #[true, false, false, false, false, false, false, false, false, false, false] rfl rfl (by kernel_rfl) (fun _ _ _ h => h) (Or.inl ⟨by rfl, ?_⟩) ?_ ?_
  rotate_left
  · intro w'
    go_simp
    with_reducible rfl
  rotate_left
  · simp only [Act.put, List.setIfInBounds_toArray, List.set_cons_zero, List.set_cons_succ, i64_w, i32_w]
    rfl
  refine pure_ (i := 1) (N := some 45) (v := ?_) (a' := ?_) #[true, true, false, false, false, false, false, false, false, false, false] rfl rfl (by kernel_rfl) (fun _ _ _ h => h) (Or.inl ⟨by rfl, ?_⟩) ?_ ?_
  rotate_left
  · intro w'
    go_simp
    with_reducible rfl
  rotate_left
  · simp only [Act.put, List.setIfInBounds_toArray, List.set_cons_zero, List.set_cons_succ, i64_w, i32_w]
    rfl
  refine pure_ (i := 2) (N := some 46) (v := ?_) (a' := ?_) #[true, true, true, false, false, false, false, false, false, false, false] rfl rfl (by kernel_rfl) (fun _ _ _ h => h) (Or.inl ⟨by rfl, ?_⟩) ?_ ?_
  rotate_left
  · intro w'
    go_simp
    with_reducible rfl
  rotate_left
  · simp only [Act.put, List.setIfInBounds_toArray, List.set_cons_zero, List.set_cons_succ, i64_w, i32_w]
    rfl
  refine pure_ (i := 4) (N := some 48) (v := ?_) (a' := ?_) #[true, true, true, false, true, false, false, false, false, false, false] rfl rfl (by kernel_rfl) (fun _ _ _ h => h) (Or.inl ⟨by rfl, ?_⟩) ?_ ?_
  rotate_left
  · intro w'
    go_simp
    with_reducible rfl
  rotate_left
  · simp only [Act.put, List.setIfInBounds_toArray, List.set_cons_zero, List.set_cons_succ, i64_w, i32_w]
    rfl
  refine pure_ (i := 5) (N := some 49) (v := ?_) (a' := ?_) #[true, true, true, false, true, true, false, false, false, false, false] rfl rfl (by kernel_rfl) (fun _ _ _ h => h) (Or.inl ⟨by rfl, ?_⟩) ?_ ?_
  rotate_left
  · intro w'
    go_simp
    with_reducible rfl
  rotate_left
  · simp only [Act.put, List.setIfInBounds_toArray, List.set_cons_zero, List.set_cons_succ, i64_w, i32_w]
    rfl
  refine pure_ (i := 6) (N := some 50) (v := ?_) (a' := ?_) #[true, true, true, false, true, true, true, false, false, false, false] rfl rfl (by kernel_rfl) (fun _ _ _ h => h) (Or.inl ⟨by rfl, ?_⟩) ?_ ?_
  rotate_left
  · intro w'
    go_simp
    with_reducible rfl
  rotate_left
  · simp only [Act.put, List.setIfInBounds_toArray, List.set_cons_zero, List.set_cons_succ, i64_w, i32_w]
    rfl
  refine pure_ (i := 8) (N := some 52) (v := ?_) (a' := ?_) #[true, true, true, false, true, true, true, false, true, false, false] rfl rfl (by kernel_rfl) (fun _ _ _ h => h) (Or.inl ⟨by rfl, ?_⟩) ?_ ?_
  rotate_left
  · intro w'
    go_simp
    with_reducible rfl
  rotate_left
  · simp only [Act.put, List.setIfInBounds_toArray, List.set_cons_zero, List.set_cons_succ, i64_w, i32_w]
    rfl
  refine take_ (i := 3) (N := some 47) (v := ?_) (a' := ?_) #[true, true, true, true, true, true, true, false, true, false, false] rfl rfl (by kernel_rfl) (fun _ _ _ h => h) (Or.inl ⟨by rfl, ?_⟩) hHeld ?_ ?_
  rotate_left
  · rintro w' ⟨s0, s1, s2⟩
    go_simp
    with_reducible rfl
  rotate_left
  · simp only [Act.put, List.setIfInBounds_toArray, List.set_cons_zero, List.set_cons_succ, i64_w, i32_w]
    rfl
  refine take_ (i := 7) (N := some 51) (v := ?_) (a' := ?_) #[true, true, true, true, true, true, true, true, true, false, false] rfl rfl (by kernel_rfl) (fun _ _ _ h => h) (Or.inl ⟨by rfl, ?_⟩) hHeld ?_ ?_
  rotate_left
  · rintro w' ⟨s0, s1, s2⟩
    go_simp
    with_reducible rfl
  rotate_left
  · simp only [Act.put, List.setIfInBounds_toArray, List.set_cons_zero, List.set_cons_succ, i64_w, i32_w]
    rfl
  refine one_ (i := 9) (N := some 53) #[true, true, true, true, true, true, true, true, true, true, false] rfl rfl (by kernel_rfl) (by decide) (fun K hK => ?_)
  refine goes_ Try.func65 (by kernel_rfl) rfl #[.agg #[.int .u64 low, .int .u64 high], .int .i64 (likely kind (rd st i))] (by rfl) rfl rfl (by simp only [List.map_toArray, List.map_cons, List.map_nil]; rfl) ?_
  with_reducible refine ((HMID _).out).mono ?_
  rintro e w4 ⟨rfl, hb4⟩
  refine ⟨_, rfl, ?_⟩
  have HE4 := Aside0.mk (HE3.out.below hb4)
  have HM4 := Aside0.mk (HM3.out.below hb4)
  clear hb4
  refine hK.out _ _ ⟨HE4.out.c2, HE4.out.c3, HE4.out.c6⟩ (fun hHeld => ?_)
  clear hK K
  refine norm_ (a' := ?_) ?_ ?_
  rotate_left
  · show Act.put _ (some 53) _ = _
    simp only [Act.put, List.setIfInBounds_toArray, List.set_cons_zero, List.set_cons_succ, i64_w, i32_w]
    rfl
  refine pure_ (i := 10) (N := some 54) (v := ?_) (a' := ?_) #[true, true, true, true, true, true, true, true, true, true, true] rfl rfl (by kernel_rfl) (fun _ _ _ h => h) (Or.inl ⟨by rfl, ?_⟩) ?_ ?_
  rotate_left
  · intro w'
    go_simp
    with_reducible rfl
  rotate_left
  · simp only [Act.put, List.setIfInBounds_toArray, List.set_cons_zero, List.set_cons_succ, i64_w, i32_w]
    rfl
  refine done_ (by kernel_rfl) ?_

  clear k2 k3 k6 HE3 HM3
  go_wp2
  have HE4 := Aside0.mk HE4.out.drew
  have HM4 := Aside0.mk HM4.out.drew
  have p2 := HE4.out.c2
  have p3 := HE4.out.c3
  have p5 := HE4.out.c5
  have p6 := HE4.out.c6
  refine start_ (n := 19) (S := fun w' => w'.cell? ⟨g, 2, none⟩ = some (.int .u64 low) ∧ w'.cell? ⟨g, 3, none⟩ = some (.int .u64 high) ∧ w'.cell? ⟨g, 5, none⟩ = some (.int .i64 a) ∧ w'.cell? ⟨g, 6, none⟩ = some (.int .u64 value)) (ds := []) #[false, false, false, false, false, false, false, false, false, false, false, false, false, false, false, false, false, false, false] (by kernel_rfl) rfl rfl ⟨p2, p3, p5, p6⟩ (fun hHeld => ?_)
  generalize w4.drew = wd at p2 p3 p5 p6 HE4 HM4 hHeld ⊢
  refine pure_ (i := 0) (N := some 55) (v := ?_) (a' := ?_) #[true, false, false, false, false, false, false, false, false, false, false, false, false, false, false, false, false, false, false] rfl rfl (by kernel_rfl) (fun _ _ _ h => h) (Or.inl ⟨by rfl, ?_⟩) ?_ ?_
  rotate_left
  · intro w'
    go_simp
    with_reducible rfl
  rotate_left
  · simp only [Act.put, List.setIfInBounds_toArray, List.set_cons_zero, List.set_cons_succ, i64_w, i32_w]
    rfl
  refine pure_ (i := 1) (N := some 56) (v := ?_) (a' := ?_) #[true, true, false, false, false, false, false, false, false, false, false, false, false, false, false, false, false, false, false] rfl rfl (by kernel_rfl) (fun _ _ _ h => h) (Or.inl ⟨by rfl, ?_⟩) ?_ ?_
  rotate_left
  · intro w'
    go_simp
    with_reducible rfl
  rotate_left
  · simp only [Act.put, List.setIfInBounds_toArray, List.set_cons_zero, List.set_cons_succ, i64_w, i32_w]
    rfl
  refine pure_ (i := 2) (N := some 57) (v := ?_) (a' := ?_) #[true, true, true, false, false, false, false, false, false, false, false, false, false, false, false, false, false, false, false] rfl rfl (by kernel_rfl) (fun _ _ _ h => h) (Or.inl ⟨by rfl, ?_⟩) ?_ ?_
  rotate_left
  · intro w'
    go_simp
    with_reducible rfl
  rotate_left
  · simp only [Act.put, List.setIfInBounds_toArray, List.set_cons_zero, List.set_cons_succ, i64_w, i32_w]
    rfl
  refine pure_ (i := 4) (N := some 59) (v := ?_) (a' := ?_) #[true, true, true, false, true, false, false, false, false, false, false, false, false, false, false, false, false, false, false] rfl rfl (by kernel_rfl) (fun _ _ _ h => h) (Or.inl ⟨by rfl, ?_⟩) ?_ ?_
  rotate_left
  · intro w'
    go_simp
    with_reducible rfl
  rotate_left
  · simp only [Act.put, List.setIfInBounds_toArray, List.set_cons_zero, List.set_cons_succ, i64_w, i32_w]
    rfl
  refine pure_ (i := 5) (N := some 60) (v := ?_) (a' := ?_) #[true, true, true, false, true, true, false, false, false, false, false, false, false, false, false, false, false, false, false] rfl rfl (by kernel_rfl) (fun _ _ _ h => h) (Or.inl ⟨by rfl, ?_⟩) ?_ ?_
  rotate_left
  · intro w'
    go_simp
    with_reducible rfl
  rotate_left
  · simp only [Act.put, List.setIfInBounds_toArray, List.set_cons_zero, List.set_cons_succ, i64_w, i32_w]
    rfl
  refine pure_ (i := 7) (N := some 62) (v := ?_) (a' := ?_) #[true, true, true, false, true, true, false, true, false, false, false, false, false, false, false, false, false, false, false] rfl rfl (by kernel_rfl) (fun _ _ _ h => h) (Or.inl ⟨by rfl, ?_⟩) ?_ ?_
  rotate_left
  · intro w'
    go_simp
    with_reducible rfl
  rotate_left
  · simp only [Act.put, List.setIfInBounds_toArray, List.set_cons_zero, List.set_cons_succ, i64_w, i32_w]
    rfl
  refine pure_ (i := 8) (N := some 63) (v := ?_) (a' := ?_) #[true, true, true, false, true, true, false, true, true, false, false, false, false, false, false, false, false, false, false] rfl rfl (by kernel_rfl) (fun _ _ _ h => h) (Or.inl ⟨by rfl, ?_⟩) ?_ ?_
  rotate_left
  · intro w'
    go_simp
    with_reducible rfl
  rotate_left
  · simp only [Act.put, List.setIfInBounds_toArray, List.set_cons_zero, List.set_cons_succ, i64_w, i32_w]
    rfl
  refine pure_ (i := 9) (N := some 64) (v := ?_) (a' := ?_) #[true, true, true, false, true, true, false, true, true, true, false, false, false, false, false, false, false, false, false] rfl rfl (by kernel_rfl) (fun _ _ _ h => h) (Or.inl ⟨by rfl, ?_⟩) ?_ ?_
  rotate_left
  · intro w'
    go_simp
    with_reducible rfl
  rotate_left
  · simp only [Act.put, List.setIfInBounds_toArray, List.set_cons_zero, List.set_cons_succ, i64_w, i32_w]
    rfl
  refine pure_ (i := 11) (N := some 66) (v := ?_) (a' := ?_) #[true, true, true, false, true, true, false, true, true, true, false, true, false, false, false, false, false, false, false] rfl rfl (by kernel_rfl) (fun _ _ _ h => h) (Or.inl ⟨by rfl, ?_⟩) ?_ ?_
  rotate_left
  · intro w'
    go_simp
    with_reducible rfl
  rotate_left
  · simp only [Act.put, List.setIfInBounds_toArray, List.set_cons_zero, List.set_cons_succ, i64_w, i32_w]
    rfl
  refine pure_ (i := 12) (N := some 67) (v := ?_) (a' := ?_) #[true, true, true, false, true, true, false, true, true, true, false, true, true, false, false, false, false, false, false] rfl rfl (by kernel_rfl) (fun _ _ _ h => h) (Or.inl ⟨by rfl, ?_⟩) ?_ ?_
  rotate_left
  · intro w'
    go_simp
    with_reducible rfl
  rotate_left
  · simp only [Act.put, List.setIfInBounds_toArray, List.set_cons_zero, List.set_cons_succ, i64_w, i32_w]
    rfl
  refine pure_ (i := 13) (N := some 68) (v := ?_) (a' := ?_) #[true, true, true, false, true, true, false, true, true, true, false, true, true, true, false, false, false, false, false] rfl rfl (by kernel_rfl) (fun _ _ _ h => h) (Or.inl ⟨by rfl, ?_⟩) ?_ ?_
  rotate_left
  · intro w'
    go_simp
    with_reducible rfl
  rotate_left
  · simp only [Act.put, List.setIfInBounds_toArray, List.set_cons_zero, List.set_cons_succ, i64_w, i32_w]
    rfl
  refine take_ (i := 3) (N := some 58) (v := ?_) (a' := ?_) #[true, true, true, true, true, true, false, true, true, true, false, true, true, true, false, false, false, false, false] rfl rfl (by kernel_rfl) (fun _ _ _ h => h) (Or.inl ⟨by rfl, ?_⟩) hHeld ?_ ?_
  rotate_left
  · rintro w' ⟨s0, s1, s2, s3⟩
    go_simp
    with_reducible rfl
  rotate_left
  · simp only [Act.put, List.setIfInBounds_toArray, List.set_cons_zero, List.set_cons_succ, i64_w, i32_w]
    rfl
  refine take_ (i := 10) (N := some 65) (v := ?_) (a' := ?_) #[true, true, true, true, true, true, false, true, true, true, true, true, true, true, false, false, false, false, false] rfl rfl (by kernel_rfl) (fun _ _ _ h => h) (Or.inl ⟨by rfl, ?_⟩) hHeld ?_ ?_
  rotate_left
  · rintro w' ⟨s0, s1, s2, s3⟩
    go_simp
    with_reducible rfl
  rotate_left
  · simp only [Act.put, List.setIfInBounds_toArray, List.set_cons_zero, List.set_cons_succ, i64_w, i32_w]
    rfl
  refine take_ (i := 14) (N := some 69) (v := ?_) (a' := ?_) #[true, true, true, true, true, true, false, true, true, true, true, true, true, true, true, false, false, false, false] rfl rfl (by kernel_rfl) (fun _ _ _ h => h) (Or.inl ⟨by rfl, ?_⟩) hHeld ?_ ?_
  rotate_left
  · rintro w' ⟨s0, s1, s2, s3⟩
    go_simp
    with_reducible rfl
  rotate_left
  · simp only [Act.put, List.setIfInBounds_toArray, List.set_cons_zero, List.set_cons_succ, i64_w, i32_w]
    rfl
  refine join_ (σ := Nat) 3 #[true, true, true, true, true, true, true, true, true, true, true, true, true, true, true, true, false, false, false] (fun s => [(61, .agg #[.int .u64 (cutL low mid 0), .int .u64 (cutH high mid 0)]), (8, .pointer (some ⟨s, 0, none⟩))]) (fun s w' => w'.heap[s]? = some (.cells #[.int .u64 0, .int .u64 0] 83 (0, 0)) ∧ wd.heap.size ≤ s ∧ Below wd.heap.size wd w') ?_ ?_
  rotate_left
  · intro hCont
    refine two_ (i := 6) (j := 15) (Ni := some 61) (Nj := some 8) #[true, true, true, true, true, true, true, true, true, true, true, true, true, true, true, false, false, false, false] #[true, true, true, true, true, true, false, true, true, true, true, true, true, true, true, true, false, false, false] rfl rfl rfl rfl (by kernel_rfl) (by decide) (by decide) (fun K hK => ?_) (fun K hK => ?_)
    · skip
      refine goes_ Try.func54 (by kernel_rfl) rfl #[.agg #[.int .u64 low, .int .u64 high], .int .i64 (likely kind (rd st i)), .int .i64 0] (by rfl) rfl rfl (by simp only [List.map_toArray, List.map_cons, List.map_nil]; rfl) ?_
      with_reducible refine ((HP _).out).mono ?_
      rintro e wk ⟨rfl, hk⟩
      refine ⟨_, rfl, ?_⟩
      have t2 := pw_cell_below hk p2
      have t3 := pw_cell_below hk p3
      have t5 := pw_cell_below hk p5
      have t6 := pw_cell_below hk p6
      refine hK.out _ _ ⟨t2, t3, t5, t6⟩ (fun hHeld => ?_)
      clear hK K
      refine norm_ (a' := ?_) ?_ ?_
      rotate_left
      · show Act.put _ (some 61) _ = _
        simp only [Act.put, List.setIfInBounds_toArray, List.set_cons_zero, List.set_cons_succ, i64_w, i32_w]
        rfl
      refine one_ (i := 15) (N := some 8) #[true, true, true, true, true, true, true, true, true, true, true, true, true, true, true, true, false, false, false] rfl rfl (by kernel_rfl) (by decide) (fun K hK => ?_)
      refine value_ (w1 := ?_) (v := ?_) (by rfl) rfl ?_ ?_
      rotate_left 2
      · go_simp
        constructor
        · rfl
        · rfl
      refine hK.out _ _ ⟨pw_cell_below (below_alloc (Below.refl _ _) _) t2, pw_cell_below (below_alloc (Below.refl _ _) _) t3, pw_cell_below (below_alloc (Below.refl _ _) _) t5, pw_cell_below (below_alloc (Below.refl _ _) _) t6⟩ (fun hHeld => ?_)
      clear hK K
      refine norm_ (a' := ?_) ?_ ?_
      rotate_left
      · show Act.put _ (some 8) _ = _
        simp only [Act.put, List.setIfInBounds_toArray, List.set_cons_zero, List.set_cons_succ, i64_w, i32_w]
        rfl
      exact norm_ (by simp only [putAll, Act.put, List.setIfInBounds_toArray, List.set_cons_zero, List.set_cons_succ]) (hCont wk.heap.size _ ⟨blk_new _ _, hk.size, below_alloc hk _⟩)
    · skip
      refine value_ (w1 := ?_) (v := ?_) (by rfl) rfl ?_ ?_
      rotate_left 2
      · go_simp
        constructor
        · rfl
        · rfl
      refine hK.out _ _ ⟨pw_cell_below (below_alloc (Below.refl _ _) _) p2, pw_cell_below (below_alloc (Below.refl _ _) _) p3, pw_cell_below (below_alloc (Below.refl _ _) _) p5, pw_cell_below (below_alloc (Below.refl _ _) _) p6⟩ (fun hHeld => ?_)
      clear hK K
      refine norm_ (a' := ?_) ?_ ?_
      rotate_left
      · show Act.put _ (some 8) _ = _
        simp only [Act.put, List.setIfInBounds_toArray, List.set_cons_zero, List.set_cons_succ, i64_w, i32_w]
        rfl
      refine one_ (i := 6) (N := some 61) #[true, true, true, true, true, true, true, true, true, true, true, true, true, true, true, true, false, false, false] rfl rfl (by kernel_rfl) (by decide) (fun K hK => ?_)
      refine goes_ Try.func54 (by kernel_rfl) rfl #[.agg #[.int .u64 low, .int .u64 high], .int .i64 (likely kind (rd st i)), .int .i64 0] (by rfl) rfl rfl (by simp only [List.map_toArray, List.map_cons, List.map_nil]; rfl) ?_
      with_reducible refine ((HP _).out).mono ?_
      rintro e wk ⟨rfl, hk⟩
      refine ⟨_, rfl, ?_⟩
      have t2 := pw_cell_below hk (pw_cell_below (below_alloc (Below.refl _ _) _) p2)
      have t3 := pw_cell_below hk (pw_cell_below (below_alloc (Below.refl _ _) _) p3)
      have t5 := pw_cell_below hk (pw_cell_below (below_alloc (Below.refl _ _) _) p5)
      have t6 := pw_cell_below hk (pw_cell_below (below_alloc (Below.refl _ _) _) p6)
      refine hK.out _ _ ⟨t2, t3, t5, t6⟩ (fun hHeld => ?_)
      clear hK K
      refine norm_ (a' := ?_) ?_ ?_
      rotate_left
      · show Act.put _ (some 61) _ = _
        simp only [Act.put, List.setIfInBounds_toArray, List.set_cons_zero, List.set_cons_succ, i64_w, i32_w]
        rfl
      exact norm_ (by simp only [putAll, Act.put, List.setIfInBounds_toArray, List.set_cons_zero, List.set_cons_succ]) (hCont wd.heap.size _ ⟨blk_below (blk_new _ _) hk, Nat.le_refl _, below_then (below_alloc (Below.refl _ _) _) (by simp) hk⟩)
  rintro q w5 ⟨hq, hqs, hqb⟩
  have t2 := pw_cell_below hqb p2
  have t3 := pw_cell_below hqb p3
  have t5 := pw_cell_below hqb p5
  have t6 := pw_cell_below hqb p6
  have hHeld : w5.cell? ⟨g, 2, none⟩ = some (.int .u64 low) ∧ w5.cell? ⟨g, 3, none⟩ = some (.int .u64 high) ∧ w5.cell? ⟨g, 5, none⟩ = some (.int .i64 a) ∧ w5.cell? ⟨g, 6, none⟩ = some (.int .u64 value) := ⟨t2, t3, t5, t6⟩
  have z0 : w5.cell? ⟨q, 0, none⟩ = some (.int .u64 0) := (blk_cell hq 0).trans rfl
  have z1 : w5.cell? ⟨q, 1, none⟩ = some (.int .u64 0) := (blk_cell hq 1).trans rfl
  have zf0 := blk_frozen hq 0
  have zf1 := blk_frozen hq 1
  have HQ := Aside0.mk hq
  have HQS := Aside0.mk hqs
  have HQB := Aside0.mk hqb
  clear hq hqs hqb
  refine norm_ (a' := ?_) ?_ ?_
  rotate_left
  · simp only [putAll, Act.put, List.setIfInBounds_toArray, List.set_cons_zero, List.set_cons_succ]
    rfl
  refine one_ (i := 16) (N := none) #[true, true, true, true, true, true, true, true, true, true, true, true, true, true, true, true, true, false, false] rfl rfl (by kernel_rfl) (by decide) (fun K hK => ?_)
  refine skip_ (w1 := ?_) (by rfl) rfl ?_ ?_
  rotate_left
  · go_simp
    rfl
  refine hK.out _ _ ⟨pw_cell_below ((HQB.out.setCell (p := ⟨q, 0, none⟩) HQS.out _).setCell (p := ⟨q, 1, none⟩) HQS.out _) p2, pw_cell_below ((HQB.out.setCell (p := ⟨q, 0, none⟩) HQS.out _).setCell (p := ⟨q, 1, none⟩) HQS.out _) p3, pw_cell_below ((HQB.out.setCell (p := ⟨q, 0, none⟩) HQS.out _).setCell (p := ⟨q, 1, none⟩) HQS.out _) p5, pw_cell_below ((HQB.out.setCell (p := ⟨q, 0, none⟩) HQS.out _).setCell (p := ⟨q, 1, none⟩) HQS.out _) p6⟩ (fun hHeld => ?_)
  clear hK K
  refine pure_ (i := 17) (N := some 9) (v := ?_) (a' := ?_) #[true, true, true, true, true, true, true, true, true, true, true, true, true, true, true, true, true, true, false] rfl rfl (by kernel_rfl) (fun _ _ _ h => h) (Or.inl ⟨by rfl, ?_⟩) ?_ ?_
  rotate_left
  · intro w'
    go_simp
    with_reducible rfl
  rotate_left
  · simp only [Act.put, List.setIfInBounds_toArray, List.set_cons_zero, List.set_cons_succ, i64_w, i32_w]
    rfl
  refine pure_ (i := 18) (N := some 10) (v := ?_) (a' := ?_) #[true, true, true, true, true, true, true, true, true, true, true, true, true, true, true, true, true, true, true] rfl rfl (by kernel_rfl) (fun _ _ _ h => h) (Or.inl ⟨by rfl, ?_⟩) ?_ ?_
  rotate_left
  · intro w'
    go_simp
    with_reducible rfl
  rotate_left
  · simp only [Act.put, List.setIfInBounds_toArray, List.set_cons_zero, List.set_cons_succ, i64_w, i32_w]
    rfl
  refine done_ (by kernel_rfl) ?_

  obtain ⟨w6, hw6⟩ : ∃ w6, w6 = (w5.setCell ⟨q, 0, none⟩ (.int .u64 (cutL low mid 0))).setCell ⟨q, 1, none⟩ (.int .u64 (cutH high mid 0)) := ⟨_, rfl⟩
  rw [← hw6]
  have hB6 : Below wd.heap.size wd w6 := hw6 ▸ (HQB.out.setCell (p := ⟨q, 0, none⟩) HQS.out _).setCell (p := ⟨q, 1, none⟩) HQS.out _
  have hq1 : (w5.setCell ⟨q, 0, none⟩ (.int .u64 (cutL low mid 0))).heap[q]? = some (.cells #[.int .u64 (cutL low mid 0), .int .u64 0] 83 (0, 0)) := blk_put (cs := #[.int .u64 0, .int .u64 0]) HQ.out 0 _ rfl
  have HQ6 := Aside0.mk (show w6.heap[q]? = some (.cells #[.int .u64 (cutL low mid 0), .int .u64 (cutH high mid 0)] 83 (0, 0)) from hw6 ▸ blk_put (cs := #[.int .u64 (cutL low mid 0), .int .u64 0]) hq1 1 _ rfl)
  have HE6 := Aside0.mk (HE4.out.below hB6)
  have HM6 := Aside0.mk (HM4.out.below hB6)
  have hqn : ¬ S q := fun hk => by have h1 := HSB.out q hk; have h2 := HM4.out.size; have h3 := HQS.out; omega
  have hgq : g ≠ q := fun he => hqn (he ▸ hSg)
  have HQN := Aside0.mk hqn
  have HQS2 := Aside0.mk (show w.heap.size ≤ q from Nat.le_trans HM4.out.size HQS.out)
  clear hw6 hB6 hq1 hqn HE4 HM4 HQ HQS HQB z0 z1 zf0 zf1 t2 t3 t5 t6 p2 p3 p5 p6
  go_wp2
  skip
  go_loopg [9, 10] 4 (fun d s9 s10 wr => ∃ (l h : Int) (n : List Int) (k : Nat) (v : Int), s9 = .int .i64 k ∧ s10 = .int .u64 v ∧ (0 ≤ v ∧ v ≤ 4294967295) ∧ Aside0 (k = a + n.length ∧ v = shV code n.length value a) ∧ Aside0 (RDecRow wr S g kind (some ⟨b, 0, none⟩) c st low high (.slice Ac code.length cc) code a value ((a - code.length : Nat) : Int) false) ∧ Aside0 (Mods w wr S) ∧ Aside0 (wr.heap[q]? = some (.cells #[.int .u64 l, .int .u64 h] 83 (0, 0))) ∧ Aside0 (PutInv [] (cutL low mid 0) (cutH high mid 0) d l h n))
  case atStart => exact ⟨_, _, [], a, value, rfl, rfl, ⟨hv0, hv1⟩, ⟨rfl, rfl⟩, HE6, HM6, HQ6, HI⟩
  clear HE6 HM6 HQ6 HI
  case round =>
    obtain ⟨l, h, n, k, v, rfl, rfl, hv, HKV, HE7, HM7, HQ7, HPI⟩ := hrel
    have hp0 := HPI.out.l0
    have hp1 := HPI.out.lh
    have hp2 := HPI.out.h0
    have hp3 := HPI.out.len
    rw [List.length_nil] at hp3
    have hka : k ≤ 2199023255552 := by have := HKV.out.1; omega
    have hs7 := fixed_calls l h
    have z0 : wr.cell? ⟨q, 0, none⟩ = some (.int .u64 l) := (blk_cell HQ7.out 0).trans rfl
    have z1 : wr.cell? ⟨q, 1, none⟩ = some (.int .u64 h) := (blk_cell HQ7.out 1).trans rfl
    by_cases cx : l / 16777216 = h / 16777216
    · rw [decide_eq_true cx] at hs7
      have HSA := Aside0.mk hs7
      clear hs7
      obtain ⟨d', hd', hP'⟩ := HPI.out.step cx
      have HP' := Aside0.mk hP'
      have HD := Aside0.mk hd'
      have hbr := byteOf_range HBY.out k
      clear hd' hP' cx
      go_wp2_with (first
        | (go_at_call 55; refine (HSA.out _).mono ?_; rintro e w8 ⟨rfl, hb8⟩; have HE8 := Aside0.mk (HE7.out.below hb8); have HM8 := Aside0.mk (HM7.out.below hb8); have HQ8 := Aside0.mk (blk_below HQ7.out hb8); have z0 : w8.cell? ⟨q, 0, none⟩ = some (.int .u64 l) := (blk_cell HQ8.out 0).trans rfl; have z1 : w8.cell? ⟨q, 1, none⟩ = some (.int .u64 h) := (blk_cell HQ8.out 1).trans rfl; clear hb8)
        | (go_at_call 56; refine (shift_calls l h _ hp0 (by omega) (by omega) hp2).mono ?_; rintro e w9 ⟨rfl, hb9⟩; have HE9 := Aside0.mk (HE8.out.below hb9); have HM9 := Aside0.mk (HM8.out.below hb9); have HQ9 := Aside0.mk (blk_below HQ8.out hb9); have z0 : w9.cell? ⟨q, 0, none⟩ = some (.int .u64 l) := (blk_cell HQ9.out 0).trans rfl; have z1 : w9.cell? ⟨q, 1, none⟩ = some (.int .u64 h) := (blk_cell HQ9.out 1).trans rfl; have zf0 := blk_frozen HQ9.out 0; have zf1 := blk_frozen HQ9.out 1; have k4 := HE9.out.c4; clear hb9))
      obtain ⟨w10, hw10⟩ : ∃ w10, w10 = (w9.setCell ⟨q, 0, none⟩ (.int .u64 (l % 16777216 * 256))).setCell ⟨q, 1, none⟩ (.int .u64 (h % 16777216 * 256 + 255)) := ⟨_, rfl⟩
      rw [← hw10]
      have hq10 : (w9.setCell ⟨q, 0, none⟩ (.int .u64 (l % 16777216 * 256))).heap[q]? = some (.cells #[.int .u64 (l % 16777216 * 256), .int .u64 h] 83 (0, 0)) := blk_put (cs := #[.int .u64 l, .int .u64 h]) HQ9.out 0 _ rfl
      have HQ10 := Aside0.mk (show w10.heap[q]? = some (.cells #[.int .u64 (l % 16777216 * 256), .int .u64 (h % 16777216 * 256 + 255)] 83 (0, 0)) from hw10 ▸ blk_put (cs := #[.int .u64 (l % 16777216 * 256), .int .u64 h]) hq10 1 _ rfl)
      have HE10 := Aside0.mk (show RDecRow w10 S g kind (some ⟨b, 0, none⟩) c st low high (.slice Ac code.length cc) code a value ((a - code.length : Nat) : Int) false from hw10 ▸ (HE9.out.far (p := ⟨q, 0, none⟩) HQN.out _).far (p := ⟨q, 1, none⟩) HQN.out _)
      have hqs : w.heap.size ≤ q := by have h1 := HQS2.out; omega
      have HM10 := Aside0.mk (show Mods w w10 S from hw10 ▸ (HM9.out.setCell (p := ⟨q, 0, none⟩) (.inr hqs) _).setCell (p := ⟨q, 1, none⟩) (.inr hqs) _)
      clear hw10 hq10 hqs z0 z1 zf0 zf1 k4 HE9 HM9 HQ9 HE8 HM8 HQ8
      refine (byte_calls Ac cc code k _ (Kd.R_reads' HE10.out.o).2.2 HBY.out).mono ?_
      rintro e w11 ⟨rfl, rfl⟩
      go_wp2
      go_roundg d'
      case measure => have := HD.out; omega
      case rel =>
        have h1 := HKV.out
        refine ⟨_, _, _, k + 1, _, rfl, rfl, by omega, ⟨?_, ?_⟩, HE10, HM10, HQ10, HP'⟩
        · rw [List.length_append, List.length_cons, List.length_nil, h1.1]
          omega
        · rw [List.length_append, List.length_cons, List.length_nil, Nat.zero_add, shV_succ, ← h1.2, ← h1.1]
    · rw [decide_eq_false cx] at hs7
      have HSA := Aside0.mk hs7
      clear hs7
      have HCC := Aside0.mk (HPI.out.done cx)
      clear cx
      have HN := Aside0.mk (show normE 4 (cutL low mid 0) (cutH high mid 0) = (n, l, h) from by
        have h1 := HCC.out
        rw [List.nil_append] at h1
        exact Prod.ext h1.1.symm h1.2)
      obtain ⟨be, hbe⟩ : ∃ be : Nat, k - code.length = be := ⟨_, rfl⟩
      have HBE := Aside0.mk hbe
      have hbk : be ≤ 2199023255552 := by omega
      by_cases hb4 : (be : Int) > 4
      · have HB4 := Aside0.mk hb4
        go_wp2_with (go_at_call 55; refine (HSA.out _).mono ?_; rintro e w8 ⟨rfl, hb8⟩; have HE8 := Aside0.mk (HE7.out.below hb8); have HM8 := Aside0.mk (HM7.out.below hb8); have k4 := HE8.out.c4; have k8 := HE8.out.c8; have f8 := HE8.out.fz 8; clear hb8)
        go_ret2
        have h1 := HKV.out
        refine ⟨⟨l, h, n, HN.out, .inl ⟨by have := HB4.out; have := HBE.out; omega, rfl, HE8.out.put 8 _ rfl⟩⟩, HM8.out.setCell (.inl hSg) _⟩
      · have HB4 := Aside0.mk hb4
        go_wp2_with (go_at_call 55; refine (HSA.out _).mono ?_; rintro e w8 ⟨rfl, hb8⟩; have HE8 := Aside0.mk (HE7.out.below hb8); have HM8 := Aside0.mk (HM7.out.below hb8); have HQ8 := Aside0.mk (blk_below HQ7.out hb8); have k4 := HE8.out.c4; clear hb8)
        have HE8 := Aside0.mk HE8.out.drew
        have HM8 := Aside0.mk HM8.out.drew
        have HQ8 := Aside0.mk (blk_drew HQ8.out)
        have k0 := HE8.out.c0
        have k1 := HE8.out.c1
        have ks : w8.drew.cell? ⟨b, i, none⟩ = some (.int .i64 (rd st i)) := by obtain ⟨b', hA, hc, _⟩ := HE8.out.cell hi; cases hA; exact hc
        clear k4
        refine start_ (n := 23) (S := fun w' => w'.cell? ⟨g, 0, none⟩ = some (.int .i64 kind) ∧ w'.cell? ⟨g, 1, none⟩ = some (.slice (some ⟨b, 0, none⟩) st.length c) ∧ w'.cell? ⟨b, i, none⟩ = some (.int .i64 (rd st i))) (ds := [22]) #[false, false, false, false, false, false, false, false, false, false, false, false, false, false, false, false, false, false, false, false, false, false, false] (by kernel_rfl) rfl rfl ⟨k0, k1, ks⟩ (fun hHeld => ?_)
        refine pure_ (i := 0) (N := some 99) (v := ?_) (a' := ?_) #[true, false, false, false, false, false, false, false, false, false, false, false, false, false, false, false, false, false, false, false, false, false, false] rfl rfl (by kernel_rfl) (fun _ _ _ h => h) (Or.inl ⟨by rfl, ?_⟩) ?_ ?_
        rotate_left
        · intro w'
          go_simp
          with_reducible rfl
        rotate_left
        · simp only [Act.put, List.setIfInBounds_toArray, List.set_cons_zero, List.set_cons_succ, i64_w, i32_w]
          rfl
        refine pure_ (i := 1) (N := some 100) (v := ?_) (a' := ?_) #[true, true, false, false, false, false, false, false, false, false, false, false, false, false, false, false, false, false, false, false, false, false, false] rfl rfl (by kernel_rfl) (fun _ _ _ h => h) (Or.inl ⟨by rfl, ?_⟩) ?_ ?_
        rotate_left
        · intro w'
          go_simp
          with_reducible rfl
        rotate_left
        · simp only [Act.put, List.setIfInBounds_toArray, List.set_cons_zero, List.set_cons_succ, i64_w, i32_w]
          rfl
        refine pure_ (i := 2) (N := some 101) (v := ?_) (a' := ?_) #[true, true, true, false, false, false, false, false, false, false, false, false, false, false, false, false, false, false, false, false, false, false, false] rfl rfl (by kernel_rfl) (fun _ _ _ h => h) (Or.inl ⟨by rfl, ?_⟩) ?_ ?_
        rotate_left
        · intro w'
          go_simp
          with_reducible rfl
        rotate_left
        · simp only [Act.put, List.setIfInBounds_toArray, List.set_cons_zero, List.set_cons_succ, i64_w, i32_w]
          rfl
        refine pure_ (i := 3) (N := some 102) (v := ?_) (a' := ?_) #[true, true, true, true, false, false, false, false, false, false, false, false, false, false, false, false, false, false, false, false, false, false, false] rfl rfl (by kernel_rfl) (fun _ _ _ h => h) (Or.inl ⟨by rfl, ?_⟩) ?_ ?_
        rotate_left
        · intro w'
          go_simp
          with_reducible rfl
        rotate_left
        · simp only [Act.put, List.setIfInBounds_toArray, List.set_cons_zero, List.set_cons_succ, i64_w, i32_w]
          rfl
        refine pure_ (i := 5) (N := some 104) (v := ?_) (a' := ?_) #[true, true, true, true, false, true, false, false, false, false, false, false, false, false, false, false, false, false, false, false, false, false, false] rfl rfl (by kernel_rfl) (fun _ _ _ h => h) (Or.inl ⟨by rfl, ?_⟩) ?_ ?_
        rotate_left
        · intro w'
          go_simp
          with_reducible rfl
        rotate_left
        · simp only [Act.put, List.setIfInBounds_toArray, List.set_cons_zero, List.set_cons_succ, i64_w, i32_w]
          rfl
        refine pure_ (i := 6) (N := some 105) (v := ?_) (a' := ?_) #[true, true, true, true, false, true, true, false, false, false, false, false, false, false, false, false, false, false, false, false, false, false, false] rfl rfl (by kernel_rfl) (fun _ _ _ h => h) (Or.inl ⟨by rfl, ?_⟩) ?_ ?_
        rotate_left
        · intro w'
          go_simp
          with_reducible rfl
        rotate_left
        · simp only [Act.put, List.setIfInBounds_toArray, List.set_cons_zero, List.set_cons_succ, i64_w, i32_w]
          rfl
        refine pure_ (i := 7) (N := some 106) (v := ?_) (a' := ?_) #[true, true, true, true, false, true, true, true, false, false, false, false, false, false, false, false, false, false, false, false, false, false, false] rfl rfl (by kernel_rfl) (fun _ _ _ h => h) (Or.inl ⟨by rfl, ?_⟩) ?_ ?_
        rotate_left
        · intro w'
          go_simp
          with_reducible rfl
        rotate_left
        · simp only [Act.put, List.setIfInBounds_toArray, List.set_cons_zero, List.set_cons_succ, i64_w, i32_w]
          rfl
        refine pure_ (i := 8) (N := some 107) (v := ?_) (a' := ?_) #[true, true, true, true, false, true, true, true, true, false, false, false, false, false, false, false, false, false, false, false, false, false, false] rfl rfl (by kernel_rfl) (fun _ _ _ h => h) (Or.inl ⟨by rfl, ?_⟩) ?_ ?_
        rotate_left
        · intro w'
          go_simp
          with_reducible rfl
        rotate_left
        · simp only [Act.put, List.setIfInBounds_toArray, List.set_cons_zero, List.set_cons_succ, i64_w, i32_w]
          rfl
        refine pure_ (i := 9) (N := some 108) (v := ?_) (a' := ?_) #[true, true, true, true, false, true, true, true, true, true, false, false, false, false, false, false, false, false, false, false, false, false, false] rfl rfl (by kernel_rfl) (fun _ _ _ h => h) (Or.inl ⟨by rfl, ?_⟩) ?_ ?_
        rotate_left
        · intro w'
          go_simp
          with_reducible rfl
        rotate_left
        · simp only [Act.put, List.setIfInBounds_toArray, List.set_cons_zero, List.set_cons_succ, i64_w, i32_w]
          rfl
        refine pure_ (i := 11) (N := some 110) (v := ?_) (a' := ?_) #[true, true, true, true, false, true, true, true, true, true, false, true, false, false, false, false, false, false, false, false, false, false, false] rfl rfl (by kernel_rfl) (fun _ _ _ h => h) (Or.inl ⟨by rfl, ?_⟩) ?_ ?_
        rotate_left
        · intro w'
          go_simp
          with_reducible rfl
        rotate_left
        · simp only [Act.put, List.setIfInBounds_toArray, List.set_cons_zero, List.set_cons_succ, i64_w, i32_w]
          rfl
        refine pure_ (i := 12) (N := some 111) (v := ?_) (a' := ?_) #[true, true, true, true, false, true, true, true, true, true, false, true, true, false, false, false, false, false, false, false, false, false, false] rfl rfl (by kernel_rfl) (fun _ _ _ h => h) (Or.inl ⟨by rfl, ?_⟩) ?_ ?_
        rotate_left
        · intro w'
          go_simp
          with_reducible rfl
        rotate_left
        · simp only [Act.put, List.setIfInBounds_toArray, List.set_cons_zero, List.set_cons_succ, i64_w, i32_w]
          rfl
        refine pure_ (i := 13) (N := some 112) (v := ?_) (a' := ?_) #[true, true, true, true, false, true, true, true, true, true, false, true, true, true, false, false, false, false, false, false, false, false, false] rfl rfl (by kernel_rfl) (fun _ _ _ h => h) (Or.inl ⟨by rfl, ?_⟩) ?_ ?_
        rotate_left
        · intro w'
          go_simp
          with_reducible rfl
        rotate_left
        · simp only [Act.put, List.setIfInBounds_toArray, List.set_cons_zero, List.set_cons_succ, i64_w, i32_w]
          rfl
        refine pure_ (i := 14) (N := some 113) (v := ?_) (a' := ?_) #[true, true, true, true, false, true, true, true, true, true, false, true, true, true, true, false, false, false, false, false, false, false, false] rfl rfl (by kernel_rfl) (fun _ _ _ h => h) (Or.inl ⟨by rfl, ?_⟩) ?_ ?_
        rotate_left
        · intro w'
          go_simp
          with_reducible rfl
        rotate_left
        · simp only [Act.put, List.setIfInBounds_toArray, List.set_cons_zero, List.set_cons_succ, i64_w, i32_w]
          rfl
        refine pure_ (i := 16) (N := some 115) (v := ?_) (a' := ?_) #[true, true, true, true, false, true, true, true, true, true, false, true, true, true, true, false, true, false, false, false, false, false, false] rfl rfl (by kernel_rfl) (fun _ _ _ h => h) (Or.inl ⟨by rfl, ?_⟩) ?_ ?_
        rotate_left
        · intro w'
          go_simp
          with_reducible rfl
        rotate_left
        · simp only [Act.put, List.setIfInBounds_toArray, List.set_cons_zero, List.set_cons_succ, i64_w, i32_w]
          rfl
        refine pure_ (i := 19) (N := some 118) (v := ?_) (a' := ?_) #[true, true, true, true, false, true, true, true, true, true, false, true, true, true, true, false, true, false, false, true, false, false, false] rfl rfl (by kernel_rfl) (fun _ _ _ h => h) (Or.inl ⟨by rfl, ?_⟩) ?_ ?_
        rotate_left
        · intro w'
          go_simp
          with_reducible rfl
        rotate_left
        · simp only [Act.put, List.setIfInBounds_toArray, List.set_cons_zero, List.set_cons_succ, i64_w, i32_w]
          rfl
        refine take_ (i := 4) (N := some 103) (v := ?_) (a' := ?_) #[true, true, true, true, true, true, true, true, true, true, false, true, true, true, true, false, true, false, false, true, false, false, false] rfl rfl (by kernel_rfl) (fun _ _ _ h => h) (Or.inl ⟨by rfl, ?_⟩) hHeld ?_ ?_
        rotate_left
        · rintro w' ⟨s0, s1, s2⟩
          go_simp
          with_reducible rfl
        rotate_left
        · simp only [Act.put, List.setIfInBounds_toArray, List.set_cons_zero, List.set_cons_succ, i64_w, i32_w]
          rfl
        refine take_ (i := 10) (N := some 109) (v := ?_) (a' := ?_) #[true, true, true, true, true, true, true, true, true, true, true, true, true, true, true, false, true, false, false, true, false, false, false] rfl rfl (by kernel_rfl) (fun _ _ _ h => h) (Or.inl ⟨by rfl, ?_⟩) hHeld ?_ ?_
        rotate_left
        · rintro w' ⟨s0, s1, s2⟩
          go_simp
          with_reducible rfl
        rotate_left
        · simp only [Act.put, List.setIfInBounds_toArray, List.set_cons_zero, List.set_cons_succ, i64_w, i32_w]
          rfl
        refine take_ (i := 15) (N := some 114) (v := ?_) (a' := ?_) #[true, true, true, true, true, true, true, true, true, true, true, true, true, true, true, true, true, false, false, true, false, false, false] rfl rfl (by kernel_rfl) (fun _ _ _ h => h) (Or.inl ⟨by rfl, ?_⟩) hHeld ?_ ?_
        rotate_left
        · rintro w' ⟨s0, s1, s2⟩
          go_simp
          with_reducible rfl
        rotate_left
        · simp only [Act.put, List.setIfInBounds_toArray, List.set_cons_zero, List.set_cons_succ, i64_w, i32_w]
          rfl
        refine pure_ (i := 17) (N := some 116) (v := ?_) (a' := ?_) #[true, true, true, true, true, true, true, true, true, true, true, true, true, true, true, true, true, true, false, true, false, false, false] rfl rfl (by kernel_rfl) (fun _ _ _ h => h) (Or.inl ⟨by rfl, ?_⟩) ?_ ?_
        rotate_left
        · intro w'
          go_simp
          with_reducible rfl
        rotate_left
        · simp only [Act.put, List.setIfInBounds_toArray, List.set_cons_zero, List.set_cons_succ, i64_w, i32_w]
          rfl
        refine take_ (i := 18) (N := some 117) (v := ?_) (a' := ?_) #[true, true, true, true, true, true, true, true, true, true, true, true, true, true, true, true, true, true, true, true, false, false, false] rfl rfl (by kernel_rfl) (fun _ _ _ h => h) (Or.inl ⟨by rfl, ?_⟩) hHeld ?_ ?_
        rotate_left
        · rintro w' ⟨s0, s1, s2⟩
          go_simp
          with_reducible rfl
        rotate_left
        · simp only [Act.put, List.setIfInBounds_toArray, List.set_cons_zero, List.set_cons_succ, i64_w, i32_w]
          rfl
        refine one_ (i := 20) (N := some 119) #[true, true, true, true, true, true, true, true, true, true, true, true, true, true, true, true, true, true, true, true, true, false, false] rfl rfl (by kernel_rfl) (by decide) (fun K hK => ?_)
        refine goes_ Try.func33 (by kernel_rfl) rfl #[.int .i64 kind, .int .i64 (rd st i), .int .i64 0] (by rfl) rfl rfl (by simp only [List.map_toArray, List.map_cons, List.map_nil]; rfl) ?_
        with_reducible refine (ref_after kind (rd st i) 0 _ hs (by decide)).mono ?_
        rintro e w9 ⟨rfl, hb9⟩
        refine ⟨_, rfl, ?_⟩
        have HE9 := Aside0.mk (HE8.out.below hb9)
        have HM9 := Aside0.mk (HM8.out.below hb9)
        have HQ9 := Aside0.mk (blk_below HQ8.out hb9)
        have c9 : w9.cell? ⟨b, i, none⟩ = some (.int .i64 (rd st i)) := by obtain ⟨b', hA, hc, _⟩ := HE9.out.cell hi; cases hA; exact hc
        have f9 : w9.frozen? ⟨b, i, none⟩ = false := by obtain ⟨b', hA, _, hf, _⟩ := HE9.out.cell hi; cases hA; exact hf
        clear hb9
        refine hK.out _ _ ⟨HE9.out.c0, HE9.out.c1, c9⟩ (fun hHeld => ?_)
        clear hK K
        refine norm_ (a' := ?_) ?_ ?_
        rotate_left
        · show Act.put _ (some 119) _ = _
          simp only [Act.put, List.setIfInBounds_toArray, List.set_cons_zero, List.set_cons_succ, i64_w, i32_w]
          rfl
        refine pure_ (i := 21) (N := some 120) (v := ?_) (a' := ?_) #[true, true, true, true, true, true, true, true, true, true, true, true, true, true, true, true, true, true, true, true, true, true, false] rfl rfl (by kernel_rfl) (fun _ _ _ h => h) (Or.inl ⟨by rfl, ?_⟩) ?_ ?_
        rotate_left
        · intro w'
          go_simp
          with_reducible rfl
        rotate_left
        · simp only [Act.put, List.setIfInBounds_toArray, List.set_cons_zero, List.set_cons_succ, i64_w, i32_w]
          rfl
        refine last_ (i := 22) (N := none) #[true, true, true, true, true, true, true, true, true, true, true, true, true, true, true, true, true, true, true, true, true, true, true] rfl rfl (by kernel_rfl) (by decide) (fun K hK => ?_)
        refine skip_ (w1 := ?_) (by rfl) rfl ?_ ?_
        rotate_left
        · go_simp
          rfl
        refine hK.out _ _ ?_
        clear hK K
        refine done_ (by kernel_rfl) ?_

        obtain ⟨w10, hw10⟩ : ∃ w10, w10 = w9.setCell ⟨b, i, none⟩ (.int .i64 (after kind (rd st i) 0)) := ⟨_, rfl⟩
        rw [← hw10]
        have HE10 := Aside0.mk (show RDecRow w10 S g kind (some ⟨b, 0, none⟩) c (st.set i (after kind (rd st i) 0)) low high (.slice Ac code.length cc) code a value ((a - code.length : Nat) : Int) false from hw10 ▸ HE9.out.setst hi _)
        have HM10 := Aside0.mk (show Mods w w10 S from hw10 ▸ HM9.out.setCell (.inl hSb2) _)
        have hqb : q ≠ b := fun he => HQN.out (he ▸ hSb2)
        have HQ10 := Aside0.mk (show w10.heap[q]? = some (.cells #[.int .u64 l, .int .u64 h] 83 (0, 0)) from hw10 ▸ blk_far HQ9.out hqb _)
        have z0 : w10.cell? ⟨q, 0, none⟩ = some (.int .u64 l) := (blk_cell HQ10.out 0).trans rfl
        have z1 : w10.cell? ⟨q, 1, none⟩ = some (.int .u64 h) := (blk_cell HQ10.out 1).trans rfl
        have c2 := HE10.out.c2
        have c3 := HE10.out.c3
        have c5 := HE10.out.c5
        have c6 := HE10.out.c6
        have c7 := HE10.out.c7
        have f2 := HE10.out.fz 2
        have f3 := HE10.out.fz 3
        have f5 := HE10.out.fz 5
        have f6 := HE10.out.fz 6
        have f7 := HE10.out.fz 7
        clear hw10 k0 k1 ks c9 f9
        go_wp2
        go_ret2
        have h1 := HKV.out
        refine ⟨⟨l, h, n, HN.out, .inr ⟨by have := HB4.out; have := HBE.out; omega, rfl, ?_⟩⟩, ((((HM10.out.setCell (p := ⟨g, 2, none⟩) (.inl hSg) _).setCell (p := ⟨g, 3, none⟩) (.inl hSg) _).setCell (p := ⟨g, 5, none⟩) (.inl hSg) _).setCell (p := ⟨g, 6, none⟩) (.inl hSg) _).setCell (p := ⟨g, 7, none⟩) (.inl hSg) _⟩
        rw [← h1.2, ← h1.1, HBE.out]
        exact ((((HE10.out.put (low' := l) 2 _ rfl).put (high' := h) 3 _ rfl).put (a' := (k : Int)) 5 _ rfl).put (value' := v) 6 _ rfl).put (be' := (be : Int)) 7 _ rfl
set_option maxHeartbeats 4000000 in
set_option maxRecDepth 100000 in
theorem rget_row1 (w : World) (S : Nat → Prop) (g : Nat) (kind : Int) (b c : Nat) (st : List Int) (low high mid : Int) (vc : Value) (code : List Int) (a : Nat) (value : Int) (i : Nat) (hE : RDecRow w S g kind (some ⟨b, 0, none⟩) c st low high vc code a value ((a - code.length : Nat) : Int) false) (hSb : ∀ k, S k → k < w.heap.size) (hi : i < st.length) (hn : st.length ≤ 8192) (hs : okState kind (rd st i)) (hl0 : 0 ≤ low) (hlh : low ≤ high) (hh : high ≤ 4294967295) (hmid : midOf low high (likely kind (rd st i)) = mid) (hm0 : 0 ≤ mid) (hm1 : mid ≤ 4294967295) (hI0 : PutInv [] (cutL low mid 1) (cutH high mid 1) 4 (cutL low mid 1) (cutH high mid 1) []) (hv0 : 0 ≤ value) (hv1 : value ≤ 4294967295) (hby : Bytes code) (hlen : code.length ≤ 1099511627776) (ha : a - code.length ≤ 4) (hvb : value ≤ mid) :
    Calls Try.prog 39 #[.pointer (some ⟨g, 0, none⟩), .int .i64 i] w (RGetPost w S g kind b c st low high mid vc code a value i 1) := by
  have HE := Aside0.mk hE
  have hSg : S g := hE.g
  have hSb2 : S b := hE.s.1 b (by simp [Value.ownBlock])
  obtain ⟨Ac, cc, hvc⟩ := Kd.R_slice hE.o
  subst hvc
  have k0 := hE.c0
  have k1 := hE.c1
  have k8 := hE.c8
  have ks : w.cell? ⟨b, i, none⟩ = some (.int .i64 (rd st i)) := by obtain ⟨b', hA, hc, _⟩ := hE.cell hi; cases hA; exact hc
  have hlk := likely_range kind (rd st i) hs
  have HMID := fun W => Aside0.mk (hmid ▸ rmid_calls low high (likely kind (rd st i)) W hl0 hlh hh hlk.1 hlk.2)
  have HP := fun W => Aside0.mk (hmid ▸ part_calls low high (likely kind (rd st i)) 1 W hl0 hlh hh hlk.1 hlk.2)
  have HI := Aside0.mk hI0
  have HBY := Aside0.mk hby
  have HSB := Aside0.mk hSb
  have hu := Try.underlying83
  clear hE hmid hI0 hby hSb
  have hi1 : (0 : Int) ≤ (i : Int) := by omega
  have hi2 : (i : Int) < (st.length : Int) := by omega
  go_enter Try.func39, Try.ntmps39
  go_wp2
  refine start_ (n := 15) (S := fun w' => w'.cell? ⟨g, 0, none⟩ = some (.int .i64 kind) ∧ w'.cell? ⟨g, 1, none⟩ = some (.slice (some ⟨b, 0, none⟩) st.length c) ∧ w'.cell? ⟨b, i, none⟩ = some (.int .i64 (rd st i))) (ds := []) #[false, false, false, false, false, false, false, false, false, false, false, false, false, false, false] (by kernel_rfl) rfl rfl ⟨k0, k1, ks⟩ (fun hHeld => ?_)
  refine pure_ (i := 0) (N := some 30) (v := ?_) (a' := ?_) #[true, false, false, false, false, false, false, false, false, false, false, false, false, false, false] rfl rfl (by kernel_rfl) (fun _ _ _ h => h) (Or.inl ⟨by rfl, ?_⟩) ?_ ?_
  rotate_left
  · intro w'
    go_simp
    with_reducible rfl
  rotate_left
  · simp only [Act.put, List.setIfInBounds_toArray, List.set_cons_zero, List.set_cons_succ, i64_w, i32_w]
    rfl
  refine pure_ (i := 1) (N := some 31) (v := ?_) (a' := ?_) #[true, true, false, false, false, false, false, false, false, false, false, false, false, false, false] rfl rfl (by kernel_rfl) (fun _ _ _ h => h) (Or.inl ⟨by rfl, ?_⟩) ?_ ?_
  rotate_left
  · intro w'
    go_simp
    with_reducible rfl
  rotate_left
  · simp only [Act.put, List.setIfInBounds_toArray, List.set_cons_zero, List.set_cons_succ, i64_w, i32_w]
    rfl
  refine pure_ (i := 2) (N := some 32) (v := ?_) (a' := ?_) #[true, true, true, false, false, false, false, false, false, false, false, false, false, false, false] rfl rfl (by kernel_rfl) (fun _ _ _ h => h) (Or.inl ⟨by rfl, ?_⟩) ?_ ?_
  rotate_left
  · intro w'
    go_simp
    with_reducible rfl
  rotate_left
  · simp only [Act.put, List.setIfInBounds_toArray, List.set_cons_zero, List.set_cons_succ, i64_w, i32_w]
    rfl
  refine pure_ (i := 3) (N := some 33) (v := ?_) (a' := ?_) #[true, true, true, true, false, false, false, false, false, false, false, false, false, false, false] rfl rfl (by kernel_rfl) (fun _ _ _ h => h) (Or.inl ⟨by rfl, ?_⟩) ?_ ?_
  rotate_left
  · intro w'
    go_simp
    with_reducible rfl
  rotate_left
  · simp only [Act.put, List.setIfInBounds_toArray, List.set_cons_zero, List.set_cons_succ, i64_w, i32_w]
    rfl
  refine pure_ (i := 5) (N := some 35) (v := ?_) (a' := ?_) #[true, true, true, true, false, true, false, false, false, false, false, false, false, false, false] rfl rfl (by kernel_rfl) (fun _ _ _ h => h) (Or.inl ⟨by rfl, ?_⟩) ?_ ?_
  rotate_left
  · intro w'
    go_simp
    with_reducible rfl
  rotate_left
  · simp only [Act.put, List.setIfInBounds_toArray, List.set_cons_zero, List.set_cons_succ, i64_w, i32_w]
    rfl
  refine pure_ (i := 6) (N := some 36) (v := ?_) (a' := ?_) #[true, true, true, true, false, true, true, false, false, false, false, false, false, false, false] rfl rfl (by kernel_rfl) (fun _ _ _ h => h) (Or.inl ⟨by rfl, ?_⟩) ?_ ?_
  rotate_left
  · intro w'
    go_simp
    with_reducible rfl
  rotate_left
  · simp only [Act.put, List.setIfInBounds_toArray, List.set_cons_zero, List.set_cons_succ, i64_w, i32_w]
    rfl
  refine pure_ (i := 7) (N := some 37) (v := ?_) (a' := ?_) #[true, true, true, true, false, true, true, true, false, false, false, false, false, false, false] rfl rfl (by kernel_rfl) (fun _ _ _ h => h) (Or.inl ⟨by rfl, ?_⟩) ?_ ?_
  rotate_left
  · intro w'
    go_simp
    with_reducible rfl
  rotate_left
  · simp only [Act.put, List.setIfInBounds_toArray, List.set_cons_zero, List.set_cons_succ, i64_w, i32_w]
    rfl
  refine pure_ (i := 8) (N := some 38) (v := ?_) (a' := ?_) #[true, true, true, true, false, true, true, true, true, false, false, false, false, false, false] rfl rfl (by kernel_rfl) (fun _ _ _ h => h) (Or.inl ⟨by rfl, ?_⟩) ?_ ?_
  rotate_left
  · intro w'
    go_simp
    with_reducible rfl
  rotate_left
  · simp only [Act.put, List.setIfInBounds_toArray, List.set_cons_zero, List.set_cons_succ, i64_w, i32_w]
    rfl
  refine pure_ (i := 10) (N := some 40) (v := ?_) (a' := ?_) #[true, true, true, true, false, true, true, true, true, false, true, false, false, false, false] rfl rfl (by kernel_rfl) (fun _ _ _ h => h) (Or.inl ⟨by rfl, ?_⟩) ?_ ?_
  rotate_left
  · intro w'
    go_simp
    with_reducible rfl
  rotate_left
  · simp only [Act.put, List.setIfInBounds_toArray, List.set_cons_zero, List.set_cons_succ, i64_w, i32_w]
    rfl
  refine take_ (i := 4) (N := some 34) (v := ?_) (a' := ?_) #[true, true, true, true, true, true, true, true, true, false, true, false, false, false, false] rfl rfl (by kernel_rfl) (fun _ _ _ h => h) (Or.inl ⟨by rfl, ?_⟩) hHeld ?_ ?_
  rotate_left
  · rintro w' ⟨s0, s1, s2⟩
    go_simp
    with_reducible rfl
  rotate_left
  · simp only [Act.put, List.setIfInBounds_toArray, List.set_cons_zero, List.set_cons_succ, i64_w, i32_w]
    rfl
  refine take_ (i := 9) (N := some 39) (v := ?_) (a' := ?_) #[true, true, true, true, true, true, true, true, true, true, true, false, false, false, false] rfl rfl (by kernel_rfl) (fun _ _ _ h => h) (Or.inl ⟨by rfl, ?_⟩) hHeld ?_ ?_
  rotate_left
  · rintro w' ⟨s0, s1, s2⟩
    go_simp
    with_reducible rfl
  rotate_left
  · simp only [Act.put, List.setIfInBounds_toArray, List.set_cons_zero, List.set_cons_succ, i64_w, i32_w]
    rfl
  refine pure_ (i := 11) (N := some 41) (v := ?_) (a' := ?_) #[true, true, true, true, true, true, true, true, true, true, true, true, false, false, false] rfl rfl (by kernel_rfl) (fun _ _ _ h => h) (Or.inl ⟨by rfl, ?_⟩) ?_ ?_
  rotate_left
  · intro w'
    go_simp
    with_reducible rfl
  rotate_left
  · simp only [Act.put, List.setIfInBounds_toArray, List.set_cons_zero, List.set_cons_succ, i64_w, i32_w]
    rfl
  refine take_ (i := 12) (N := some 42) (v := ?_) (a' := ?_) #[true, true, true, true, true, true, true, true, true, true, true, true, true, false, false] rfl rfl (by kernel_rfl) (fun _ _ _ h => h) (Or.inl ⟨by rfl, ?_⟩) hHeld ?_ ?_
  rotate_left
  · rintro w' ⟨s0, s1, s2⟩
    go_simp
    with_reducible rfl
  rotate_left
  · simp only [Act.put, List.setIfInBounds_toArray, List.set_cons_zero, List.set_cons_succ, i64_w, i32_w]
    rfl
  refine one_ (i := 13) (N := some 43) #[true, true, true, true, true, true, true, true, true, true, true, true, true, true, false] rfl rfl (by kernel_rfl) (by decide) (fun K hK => ?_)
  refine goes_ Try.func32 (by kernel_rfl) rfl #[.int .i64 kind, .int .i64 (rd st i)] (by rfl) rfl rfl (by simp only [List.map_toArray, List.map_cons, List.map_nil]; rfl) ?_
  with_reducible refine (likelyB kind (rd st i) _ hs).mono ?_
  rintro e w3 ⟨rfl, hb3⟩
  refine ⟨_, rfl, ?_⟩
  have hb3' := below_undrew1 hb3
  have HE3 := Aside0.mk (HE.out.below hb3')
  have HM3 := Aside0.mk ((Mods.refl w S).below hb3')
  clear hb3 hb3'
  refine hK.out _ _ ⟨HE3.out.c0, HE3.out.c1, by obtain ⟨b', hA, hc, _⟩ := HE3.out.cell hi; cases hA; exact hc⟩ (fun hHeld => ?_)
  clear hK K
  refine norm_ (a' := ?_) ?_ ?_
  rotate_left
  · show Act.put _ (some 43) _ = _
    simp only [Act.put, List.setIfInBounds_toArray, List.set_cons_zero, List.set_cons_succ, i64_w, i32_w]
    rfl
  refine pure_ (i := 14) (N := some 6) (v := ?_) (a' := ?_) #[true, true, true, true, true, true, true, true, true, true, true, true, true, true, true] rfl rfl (by kernel_rfl) (fun _ _ _ h => h) (Or.inl ⟨by rfl, ?_⟩) ?_ ?_
  rotate_left
  · intro w'
    go_simp
    with_reducible rfl
  rotate_left
  · simp only [Act.put, List.setIfInBounds_toArray, List.set_cons_zero, List.set_cons_succ, i64_w, i32_w]
    rfl
  refine done_ (by kernel_rfl) ?_

  clear k0 k1 ks k8 HE
  go_wp2
  have HE3 := Aside0.mk HE3.out.drew
  have HM3 := Aside0.mk HM3.out.drew
  have k2 := HE3.out.c2
  have k3 := HE3.out.c3
  have k6 := HE3.out.c6
  refine start_ (n := 11) (S := fun w' => w'.cell? ⟨g, 2, none⟩ = some (.int .u64 low) ∧ w'.cell? ⟨g, 3, none⟩ = some (.int .u64 high) ∧ w'.cell? ⟨g, 6, none⟩ = some (.int .u64 value)) (ds := []) #[false, false, false, false, false, false, false, false, false, false, false] (by kernel_rfl) rfl rfl ⟨k2, k3, k6⟩ (fun hHeld => ?_)
  refine pure_ (i := 0) (N := some 44) (v := ?_) (a' := ?_) #[true, false, false, false, false, false, false, false, false, false, false] rfl rfl (by kernel_rfl) (fun _ _ _ h => h) (Or.inl ⟨by rfl, ?_⟩) ?_ ?_
  rotate_left
  · intro w'
    go_simp
    with_reducible rfl
  rotate_left
  · simp only [Act.put, List.setIfInBounds_toArray, List.set_cons_zero, List.set_cons_succ, i64_w, i32_w]
    rfl
  refine pure_ (i := 1) (N := some 45) (v := ?_) (a' := ?_) #[true, true, false, false, false, false, false, false, false, false, false] rfl rfl (by kernel_rfl) (fun _ _ _ h => h) (Or.inl ⟨by rfl, ?_⟩) ?_ ?_
  rotate_left
  · intro w'
    go_simp
    with_reducible rfl
  rotate_left
  · simp only [Act.put, List.setIfInBounds_toArray, List.set_cons_zero, List.set_cons_succ, i64_w, i32_w]
    rfl
  refine pure_ (i := 2) (N := some 46) (v := ?_) (a' := ?_) #[true, true, true, false, false, false, false, false, false, false, false] rfl rfl (by kernel_rfl) (fun _ _ _ h => h) (Or.inl ⟨by rfl, ?_⟩) ?_ ?_
  rotate_left
  · intro w'
    go_simp
    with_reducible rfl
  rotate_left
  · simp only [Act.put, List.setIfInBounds_toArray, List.set_cons_zero, List.set_cons_succ, i64_w, i32_w]
    rfl
  refine pure_ (i := 4) (N := some 48) (v := ?_) (a' := ?_) #[true, true, true, false, true, false, false, false, false, false, false] rfl rfl (by kernel_rfl) (fun _ _ _ h => h) (Or.inl ⟨by rfl, ?_⟩) ?_ ?_
  rotate_left
  · intro w'
    go_simp
    with_reducible rfl
  rotate_left
  · simp only [Act.put, List.setIfInBounds_toArray, List.set_cons_zero, List.set_cons_succ, i64_w, i32_w]
    rfl
  refine pure_ (i := 5) (N := some 49) (v := ?_) (a' := ?_) #[true, true, true, false, true, true, false, false, false, false, false] rfl rfl (by kernel_rfl) (fun _ _ _ h => h) (Or.inl ⟨by rfl, ?_⟩) ?_ ?_
  rotate_left
  · intro w'
    go_simp
    with_reducible rfl
  rotate_left
  · simp only [Act.put, List.setIfInBounds_toArray, List.set_cons_zero, List.set_cons_succ, i64_w, i32_w]
    rfl
  refine pure_ (i := 6) (N := some 50) (v := ?_) (a' := ?_) #[true, true, true, false, true, true, true, false, false, false, false] rfl rfl (by kernel_rfl) (fun _ _ _ h => h) (Or.inl ⟨by rfl, ?_⟩) ?_ ?_
  rotate_left
  · intro w'
    go_simp
    with_reducible rfl
  rotate_left
  · simp only [Act.put, List.setIfInBounds_toArray, List.set_cons_zero, List.set_cons_succ, i64_w, i32_w]
    rfl
  refine pure_ (i := 8) (N := some 52) (v := ?_) (a' := ?_) #[true, true, true, false, true, true, true, false, true, false, false] rfl rfl (by kernel_rfl) (fun _ _ _ h => h) (Or.inl ⟨by rfl, ?_⟩) ?_ ?_
  rotate_left
  · intro w'
    go_simp
    with_reducible rfl
  rotate_left
  · simp only [Act.put, List.setIfInBounds_toArray, List.set_cons_zero, List.set_cons_succ, i64_w, i32_w]
    rfl
  refine take_ (i := 3) (N := some 47) (v := ?_) (a' := ?_) #[true, true, true, true, true, true, true, false, true, false, false] rfl rfl (by kernel_rfl) (fun _ _ _ h => h) (Or.inl ⟨by rfl, ?_⟩) hHeld ?_ ?_
  rotate_left
  · rintro w' ⟨s0, s1, s2⟩
    go_simp
    with_reducible rfl
  rotate_left
  · simp only [Act.put, List.setIfInBounds_toArray, List.set_cons_zero, List.set_cons_succ, i64_w, i32_w]
    rfl
  refine take_ (i := 7) (N := some 51) (v := ?_) (a' := ?_) #[true, true, true, true, true, true, true, true, true, false, false] rfl rfl (by kernel_rfl) (fun _ _ _ h => h) (Or.inl ⟨by rfl, ?_⟩) hHeld ?_ ?_
  rotate_left
  · rintro w' ⟨s0, s1, s2⟩
    go_simp
    with_reducible rfl
  rotate_left
  · simp only [Act.put, List.setIfInBounds_toArray, List.set_cons_zero, List.set_cons_succ, i64_w, i32_w]
    rfl
  refine one_ (i := 9) (N := some 53) #[true, true, true, true, true, true, true, true, true, true, false] rfl rfl (by kernel_rfl) (by decide) (fun K hK => ?_)
  refine goes_ Try.func65 (by kernel_rfl) rfl #[.agg #[.int .u64 low, .int .u64 high], .int .i64 (likely kind (rd st i))] (by rfl) rfl rfl (by simp only [List.map_toArray, List.map_cons, List.map_nil]; rfl) ?_
  with_reducible refine ((HMID _).out).mono ?_
  rintro e w4 ⟨rfl, hb4⟩
  refine ⟨_, rfl, ?_⟩
  have HE4 := Aside0.mk (HE3.out.below hb4)
  have HM4 := Aside0.mk (HM3.out.below hb4)
  clear hb4
  refine hK.out _ _ ⟨HE4.out.c2, HE4.out.c3, HE4.out.c6⟩ (fun hHeld => ?_)
  clear hK K
  refine norm_ (a' := ?_) ?_ ?_
  rotate_left
  · show Act.put _ (some 53) _ = _
    simp only [Act.put, List.setIfInBounds_toArray, List.set_cons_zero, List.set_cons_succ, i64_w, i32_w]
    rfl
  refine pure_ (i := 10) (N := some 54) (v := ?_) (a' := ?_) #[true, true, true, true, true, true, true, true, true, true, true] rfl rfl (by kernel_rfl) (fun _ _ _ h => h) (Or.inl ⟨by rfl, ?_⟩) ?_ ?_
  rotate_left
  · intro w'
    go_simp
    with_reducible rfl
  rotate_left
  · simp only [Act.put, List.setIfInBounds_toArray, List.set_cons_zero, List.set_cons_succ, i64_w, i32_w]
    rfl
  refine done_ (by kernel_rfl) ?_

  clear k2 k3 k6 HE3 HM3
  go_wp2
  have HE4 := Aside0.mk HE4.out.drew
  have HM4 := Aside0.mk HM4.out.drew
  have p2 := HE4.out.c2
  have p3 := HE4.out.c3
  have p5 := HE4.out.c5
  have p6 := HE4.out.c6
  refine start_ (n := 19) (S := fun w' => w'.cell? ⟨g, 2, none⟩ = some (.int .u64 low) ∧ w'.cell? ⟨g, 3, none⟩ = some (.int .u64 high) ∧ w'.cell? ⟨g, 5, none⟩ = some (.int .i64 a) ∧ w'.cell? ⟨g, 6, none⟩ = some (.int .u64 value)) (ds := []) #[false, false, false, false, false, false, false, false, false, false, false, false, false, false, false, false, false, false, false] (by kernel_rfl) rfl rfl ⟨p2, p3, p5, p6⟩ (fun hHeld => ?_)
  generalize w4.drew = wd at p2 p3 p5 p6 HE4 HM4 hHeld ⊢
  refine pure_ (i := 0) (N := some 55) (v := ?_) (a' := ?_) #[true, false, false, false, false, false, false, false, false, false, false, false, false, false, false, false, false, false, false] rfl rfl (by kernel_rfl) (fun _ _ _ h => h) (Or.inl ⟨by rfl, ?_⟩) ?_ ?_
  rotate_left
  · intro w'
    go_simp
    with_reducible rfl
  rotate_left
  · simp only [Act.put, List.setIfInBounds_toArray, List.set_cons_zero, List.set_cons_succ, i64_w, i32_w]
    rfl
  refine pure_ (i := 1) (N := some 56) (v := ?_) (a' := ?_) #[true, true, false, false, false, false, false, false, false, false, false, false, false, false, false, false, false, false, false] rfl rfl (by kernel_rfl) (fun _ _ _ h => h) (Or.inl ⟨by rfl, ?_⟩) ?_ ?_
  rotate_left
  · intro w'
    go_simp
    with_reducible rfl
  rotate_left
  · simp only [Act.put, List.setIfInBounds_toArray, List.set_cons_zero, List.set_cons_succ, i64_w, i32_w]
    rfl
  refine pure_ (i := 2) (N := some 57) (v := ?_) (a' := ?_) #[true, true, true, false, false, false, false, false, false, false, false, false, false, false, false, false, false, false, false] rfl rfl (by kernel_rfl) (fun _ _ _ h => h) (Or.inl ⟨by rfl, ?_⟩) ?_ ?_
  rotate_left
  · intro w'
    go_simp
    with_reducible rfl
  rotate_left
  · simp only [Act.put, List.setIfInBounds_toArray, List.set_cons_zero, List.set_cons_succ, i64_w, i32_w]
    rfl
  refine pure_ (i := 4) (N := some 59) (v := ?_) (a' := ?_) #[true, true, true, false, true, false, false, false, false, false, false, false, false, false, false, false, false, false, false] rfl rfl (by kernel_rfl) (fun _ _ _ h => h) (Or.inl ⟨by rfl, ?_⟩) ?_ ?_
  rotate_left
  · intro w'
    go_simp
    with_reducible rfl
  rotate_left
  · simp only [Act.put, List.setIfInBounds_toArray, List.set_cons_zero, List.set_cons_succ, i64_w, i32_w]
    rfl
  refine pure_ (i := 5) (N := some 60) (v := ?_) (a' := ?_) #[true, true, true, false, true, true, false, false, false, false, false, false, false, false, false, false, false, false, false] rfl rfl (by kernel_rfl) (fun _ _ _ h => h) (Or.inl ⟨by rfl, ?_⟩) ?_ ?_
  rotate_left
  · intro w'
    go_simp
    with_reducible rfl
  rotate_left
  · simp only [Act.put, List.setIfInBounds_toArray, List.set_cons_zero, List.set_cons_succ, i64_w, i32_w]
    rfl
  refine pure_ (i := 7) (N := some 62) (v := ?_) (a' := ?_) #[true, true, true, false, true, true, false, true, false, false, false, false, false, false, false, false, false, false, false] rfl rfl (by kernel_rfl) (fun _ _ _ h => h) (Or.inl ⟨by rfl, ?_⟩) ?_ ?_
  rotate_left
  · intro w'
    go_simp
    with_reducible rfl
  rotate_left
  · simp only [Act.put, List.setIfInBounds_toArray, List.set_cons_zero, List.set_cons_succ, i64_w, i32_w]
    rfl
  refine pure_ (i := 8) (N := some 63) (v := ?_) (a' := ?_) #[true, true, true, false, true, true, false, true, true, false, false, false, false, false, false, false, false, false, false] rfl rfl (by kernel_rfl) (fun _ _ _ h => h) (Or.inl ⟨by rfl, ?_⟩) ?_ ?_
  rotate_left
  · intro w'
    go_simp
    with_reducible rfl
  rotate_left
  · simp only [Act.put, List.setIfInBounds_toArray, List.set_cons_zero, List.set_cons_succ, i64_w, i32_w]
    rfl
  refine pure_ (i := 9) (N := some 64) (v := ?_) (a' := ?_) #[true, true, true, false, true, true, false, true, true, true, false, false, false, false, false, false, false, false, false] rfl rfl (by kernel_rfl) (fun _ _ _ h => h) (Or.inl ⟨by rfl, ?_⟩) ?_ ?_
  rotate_left
  · intro w'
    go_simp
    with_reducible rfl
  rotate_left
  · simp only [Act.put, List.setIfInBounds_toArray, List.set_cons_zero, List.set_cons_succ, i64_w, i32_w]
    rfl
  refine pure_ (i := 11) (N := some 66) (v := ?_) (a' := ?_) #[true, true, true, false, true, true, false, true, true, true, false, true, false, false, false, false, false, false, false] rfl rfl (by kernel_rfl) (fun _ _ _ h => h) (Or.inl ⟨by rfl, ?_⟩) ?_ ?_
  rotate_left
  · intro w'
    go_simp
    with_reducible rfl
  rotate_left
  · simp only [Act.put, List.setIfInBounds_toArray, List.set_cons_zero, List.set_cons_succ, i64_w, i32_w]
    rfl
  refine pure_ (i := 12) (N := some 67) (v := ?_) (a' := ?_) #[true, true, true, false, true, true, false, true, true, true, false, true, true, false, false, false, false, false, false] rfl rfl (by kernel_rfl) (fun _ _ _ h => h) (Or.inl ⟨by rfl, ?_⟩) ?_ ?_
  rotate_left
  · intro w'
    go_simp
    with_reducible rfl
  rotate_left
  · simp only [Act.put, List.setIfInBounds_toArray, List.set_cons_zero, List.set_cons_succ, i64_w, i32_w]
    rfl
  refine pure_ (i := 13) (N := some 68) (v := ?_) (a' := ?_) #[true, true, true, false, true, true, false, true, true, true, false, true, true, true, false, false, false, false, false] rfl rfl (by kernel_rfl) (fun _ _ _ h => h) (Or.inl ⟨by rfl, ?_⟩) ?_ ?_
  rotate_left
  · intro w'
    go_simp
    with_reducible rfl
  rotate_left
  · simp only [Act.put, List.setIfInBounds_toArray, List.set_cons_zero, List.set_cons_succ, i64_w, i32_w]
    rfl
  refine take_ (i := 3) (N := some 58) (v := ?_) (a' := ?_) #[true, true, true, true, true, true, false, true, true, true, false, true, true, true, false, false, false, false, false] rfl rfl (by kernel_rfl) (fun _ _ _ h => h) (Or.inl ⟨by rfl, ?_⟩) hHeld ?_ ?_
  rotate_left
  · rintro w' ⟨s0, s1, s2, s3⟩
    go_simp
    with_reducible rfl
  rotate_left
  · simp only [Act.put, List.setIfInBounds_toArray, List.set_cons_zero, List.set_cons_succ, i64_w, i32_w]
    rfl
  refine take_ (i := 10) (N := some 65) (v := ?_) (a' := ?_) #[true, true, true, true, true, true, false, true, true, true, true, true, true, true, false, false, false, false, false] rfl rfl (by kernel_rfl) (fun _ _ _ h => h) (Or.inl ⟨by rfl, ?_⟩) hHeld ?_ ?_
  rotate_left
  · rintro w' ⟨s0, s1, s2, s3⟩
    go_simp
    with_reducible rfl
  rotate_left
  · simp only [Act.put, List.setIfInBounds_toArray, List.set_cons_zero, List.set_cons_succ, i64_w, i32_w]
    rfl
  refine take_ (i := 14) (N := some 69) (v := ?_) (a' := ?_) #[true, true, true, true, true, true, false, true, true, true, true, true, true, true, true, false, false, false, false] rfl rfl (by kernel_rfl) (fun _ _ _ h => h) (Or.inl ⟨by rfl, ?_⟩) hHeld ?_ ?_
  rotate_left
  · rintro w' ⟨s0, s1, s2, s3⟩
    go_simp
    with_reducible rfl
  rotate_left
  · simp only [Act.put, List.setIfInBounds_toArray, List.set_cons_zero, List.set_cons_succ, i64_w, i32_w]
    rfl
  refine join_ (σ := Nat) 3 #[true, true, true, true, true, true, true, true, true, true, true, true, true, true, true, true, false, false, false] (fun s => [(61, .agg #[.int .u64 (cutL low mid 1), .int .u64 (cutH high mid 1)]), (8, .pointer (some ⟨s, 0, none⟩))]) (fun s w' => w'.heap[s]? = some (.cells #[.int .u64 0, .int .u64 0] 83 (0, 0)) ∧ wd.heap.size ≤ s ∧ Below wd.heap.size wd w') ?_ ?_
  rotate_left
  · intro hCont
    refine two_ (i := 6) (j := 15) (Ni := some 61) (Nj := some 8) #[true, true, true, true, true, true, true, true, true, true, true, true, true, true, true, false, false, false, false] #[true, true, true, true, true, true, false, true, true, true, true, true, true, true, true, true, false, false, false] rfl rfl rfl rfl (by kernel_rfl) (by decide) (by decide) (fun K hK => ?_) (fun K hK => ?_)
    · skip
      refine goes_ Try.func54 (by kernel_rfl) rfl #[.agg #[.int .u64 low, .int .u64 high], .int .i64 (likely kind (rd st i)), .int .i64 1] (by rfl) rfl rfl (by simp only [List.map_toArray, List.map_cons, List.map_nil]; rfl) ?_
      with_reducible refine ((HP _).out).mono ?_
      rintro e wk ⟨rfl, hk⟩
      refine ⟨_, rfl, ?_⟩
      have t2 := pw_cell_below hk p2
      have t3 := pw_cell_below hk p3
      have t5 := pw_cell_below hk p5
      have t6 := pw_cell_below hk p6
      refine hK.out _ _ ⟨t2, t3, t5, t6⟩ (fun hHeld => ?_)
      clear hK K
      refine norm_ (a' := ?_) ?_ ?_
      rotate_left
      · show Act.put _ (some 61) _ = _
        simp only [Act.put, List.setIfInBounds_toArray, List.set_cons_zero, List.set_cons_succ, i64_w, i32_w]
        rfl
      refine one_ (i := 15) (N := some 8) #[true, true, true, true, true, true, true, true, true, true, true, true, true, true, true, true, false, false, false] rfl rfl (by kernel_rfl) (by decide) (fun K hK => ?_)
      refine value_ (w1 := ?_) (v := ?_) (by rfl) rfl ?_ ?_
      rotate_left 2
      · go_simp
        constructor
        · rfl
        · rfl
      refine hK.out _ _ ⟨pw_cell_below (below_alloc (Below.refl _ _) _) t2, pw_cell_below (below_alloc (Below.refl _ _) _) t3, pw_cell_below (below_alloc (Below.refl _ _) _) t5, pw_cell_below (below_alloc (Below.refl _ _) _) t6⟩ (fun hHeld => ?_)
      clear hK K
      refine norm_ (a' := ?_) ?_ ?_
      rotate_left
      · show Act.put _ (some 8) _ = _
        simp only [Act.put, List.setIfInBounds_toArray, List.set_cons_zero, List.set_cons_succ, i64_w, i32_w]
        rfl
      exact norm_ (by simp only [putAll, Act.put, List.setIfInBounds_toArray, List.set_cons_zero, List.set_cons_succ]) (hCont wk.heap.size _ ⟨blk_new _ _, hk.size, below_alloc hk _⟩)
    · skip
      refine value_ (w1 := ?_) (v := ?_) (by rfl) rfl ?_ ?_
      rotate_left 2
      · go_simp
        constructor
        · rfl
        · rfl
      refine hK.out _ _ ⟨pw_cell_below (below_alloc (Below.refl _ _) _) p2, pw_cell_below (below_alloc (Below.refl _ _) _) p3, pw_cell_below (below_alloc (Below.refl _ _) _) p5, pw_cell_below (below_alloc (Below.refl _ _) _) p6⟩ (fun hHeld => ?_)
      clear hK K
      refine norm_ (a' := ?_) ?_ ?_
      rotate_left
      · show Act.put _ (some 8) _ = _
        simp only [Act.put, List.setIfInBounds_toArray, List.set_cons_zero, List.set_cons_succ, i64_w, i32_w]
        rfl
      refine one_ (i := 6) (N := some 61) #[true, true, true, true, true, true, true, true, true, true, true, true, true, true, true, true, false, false, false] rfl rfl (by kernel_rfl) (by decide) (fun K hK => ?_)
      refine goes_ Try.func54 (by kernel_rfl) rfl #[.agg #[.int .u64 low, .int .u64 high], .int .i64 (likely kind (rd st i)), .int .i64 1] (by rfl) rfl rfl (by simp only [List.map_toArray, List.map_cons, List.map_nil]; rfl) ?_
      with_reducible refine ((HP _).out).mono ?_
      rintro e wk ⟨rfl, hk⟩
      refine ⟨_, rfl, ?_⟩
      have t2 := pw_cell_below hk (pw_cell_below (below_alloc (Below.refl _ _) _) p2)
      have t3 := pw_cell_below hk (pw_cell_below (below_alloc (Below.refl _ _) _) p3)
      have t5 := pw_cell_below hk (pw_cell_below (below_alloc (Below.refl _ _) _) p5)
      have t6 := pw_cell_below hk (pw_cell_below (below_alloc (Below.refl _ _) _) p6)
      refine hK.out _ _ ⟨t2, t3, t5, t6⟩ (fun hHeld => ?_)
      clear hK K
      refine norm_ (a' := ?_) ?_ ?_
      rotate_left
      · show Act.put _ (some 61) _ = _
        simp only [Act.put, List.setIfInBounds_toArray, List.set_cons_zero, List.set_cons_succ, i64_w, i32_w]
        rfl
      exact norm_ (by simp only [putAll, Act.put, List.setIfInBounds_toArray, List.set_cons_zero, List.set_cons_succ]) (hCont wd.heap.size _ ⟨blk_below (blk_new _ _) hk, Nat.le_refl _, below_then (below_alloc (Below.refl _ _) _) (by simp) hk⟩)
  rintro q w5 ⟨hq, hqs, hqb⟩
  have t2 := pw_cell_below hqb p2
  have t3 := pw_cell_below hqb p3
  have t5 := pw_cell_below hqb p5
  have t6 := pw_cell_below hqb p6
  have hHeld : w5.cell? ⟨g, 2, none⟩ = some (.int .u64 low) ∧ w5.cell? ⟨g, 3, none⟩ = some (.int .u64 high) ∧ w5.cell? ⟨g, 5, none⟩ = some (.int .i64 a) ∧ w5.cell? ⟨g, 6, none⟩ = some (.int .u64 value) := ⟨t2, t3, t5, t6⟩
  have z0 : w5.cell? ⟨q, 0, none⟩ = some (.int .u64 0) := (blk_cell hq 0).trans rfl
  have z1 : w5.cell? ⟨q, 1, none⟩ = some (.int .u64 0) := (blk_cell hq 1).trans rfl
  have zf0 := blk_frozen hq 0
  have zf1 := blk_frozen hq 1
  have HQ := Aside0.mk hq
  have HQS := Aside0.mk hqs
  have HQB := Aside0.mk hqb
  clear hq hqs hqb
  refine norm_ (a' := ?_) ?_ ?_
  rotate_left
  · simp only [putAll, Act.put, List.setIfInBounds_toArray, List.set_cons_zero, List.set_cons_succ]
    rfl
  refine one_ (i := 16) (N := none) #[true, true, true, true, true, true, true, true, true, true, true, true, true, true, true, true, true, false, false] rfl rfl (by kernel_rfl) (by decide) (fun K hK => ?_)
  refine skip_ (w1 := ?_) (by rfl) rfl ?_ ?_
  rotate_left
  · go_simp
    rfl
  refine hK.out _ _ ⟨pw_cell_below ((HQB.out.setCell (p := ⟨q, 0, none⟩) HQS.out _).setCell (p := ⟨q, 1, none⟩) HQS.out _) p2, pw_cell_below ((HQB.out.setCell (p := ⟨q, 0, none⟩) HQS.out _).setCell (p := ⟨q, 1, none⟩) HQS.out _) p3, pw_cell_below ((HQB.out.setCell (p := ⟨q, 0, none⟩) HQS.out _).setCell (p := ⟨q, 1, none⟩) HQS.out _) p5, pw_cell_below ((HQB.out.setCell (p := ⟨q, 0, none⟩) HQS.out _).setCell (p := ⟨q, 1, none⟩) HQS.out _) p6⟩ (fun hHeld => ?_)
  clear hK K
  refine pure_ (i := 17) (N := some 9) (v := ?_) (a' := ?_) #[true, true, true, true, true, true, true, true, true, true, true, true, true, true, true, true, true, true, false] rfl rfl (by kernel_rfl) (fun _ _ _ h => h) (Or.inl ⟨by rfl, ?_⟩) ?_ ?_
  rotate_left
  · intro w'
    go_simp
    with_reducible rfl
  rotate_left
  · simp only [Act.put, List.setIfInBounds_toArray, List.set_cons_zero, List.set_cons_succ, i64_w, i32_w]
    rfl
  refine pure_ (i := 18) (N := some 10) (v := ?_) (a' := ?_) #[true, true, true, true, true, true, true, true, true, true, true, true, true, true, true, true, true, true, true] rfl rfl (by kernel_rfl) (fun _ _ _ h => h) (Or.inl ⟨by rfl, ?_⟩) ?_ ?_
  rotate_left
  · intro w'
    go_simp
    with_reducible rfl
  rotate_left
  · simp only [Act.put, List.setIfInBounds_toArray, List.set_cons_zero, List.set_cons_succ, i64_w, i32_w]
    rfl
  refine done_ (by kernel_rfl) ?_

  obtain ⟨w6, hw6⟩ : ∃ w6, w6 = (w5.setCell ⟨q, 0, none⟩ (.int .u64 (cutL low mid 1))).setCell ⟨q, 1, none⟩ (.int .u64 (cutH high mid 1)) := ⟨_, rfl⟩
  rw [← hw6]
  have hB6 : Below wd.heap.size wd w6 := hw6 ▸ (HQB.out.setCell (p := ⟨q, 0, none⟩) HQS.out _).setCell (p := ⟨q, 1, none⟩) HQS.out _
  have hq1 : (w5.setCell ⟨q, 0, none⟩ (.int .u64 (cutL low mid 1))).heap[q]? = some (.cells #[.int .u64 (cutL low mid 1), .int .u64 0] 83 (0, 0)) := blk_put (cs := #[.int .u64 0, .int .u64 0]) HQ.out 0 _ rfl
  have HQ6 := Aside0.mk (show w6.heap[q]? = some (.cells #[.int .u64 (cutL low mid 1), .int .u64 (cutH high mid 1)] 83 (0, 0)) from hw6 ▸ blk_put (cs := #[.int .u64 (cutL low mid 1), .int .u64 0]) hq1 1 _ rfl)
  have HE6 := Aside0.mk (HE4.out.below hB6)
  have HM6 := Aside0.mk (HM4.out.below hB6)
  have hqn : ¬ S q := fun hk => by have h1 := HSB.out q hk; have h2 := HM4.out.size; have h3 := HQS.out; omega
  have hgq : g ≠ q := fun he => hqn (he ▸ hSg)
  have HQN := Aside0.mk hqn
  have HQS2 := Aside0.mk (show w.heap.size ≤ q from Nat.le_trans HM4.out.size HQS.out)
  clear hw6 hB6 hq1 hqn HE4 HM4 HQ HQS HQB z0 z1 zf0 zf1 t2 t3 t5 t6 p2 p3 p5 p6
  go_wp2
  try rw [decide_eq_true hvb]
  try simp only [decide_eq_false (show ¬ st.length ≤ i by omega), Bool.or_false]
  go_loopg [9, 10] 4 (fun d s9 s10 wr => ∃ (l h : Int) (n : List Int) (k : Nat) (v : Int), s9 = .int .i64 k ∧ s10 = .int .u64 v ∧ (0 ≤ v ∧ v ≤ 4294967295) ∧ Aside0 (k = a + n.length ∧ v = shV code n.length value a) ∧ Aside0 (RDecRow wr S g kind (some ⟨b, 0, none⟩) c st low high (.slice Ac code.length cc) code a value ((a - code.length : Nat) : Int) false) ∧ Aside0 (Mods w wr S) ∧ Aside0 (wr.heap[q]? = some (.cells #[.int .u64 l, .int .u64 h] 83 (0, 0))) ∧ Aside0 (PutInv [] (cutL low mid 1) (cutH high mid 1) d l h n))
  case atStart => exact ⟨_, _, [], a, value, rfl, rfl, ⟨hv0, hv1⟩, ⟨rfl, rfl⟩, HE6, HM6, HQ6, HI⟩
  clear HE6 HM6 HQ6 HI
  case round =>
    obtain ⟨l, h, n, k, v, rfl, rfl, hv, HKV, HE7, HM7, HQ7, HPI⟩ := hrel
    have hp0 := HPI.out.l0
    have hp1 := HPI.out.lh
    have hp2 := HPI.out.h0
    have hp3 := HPI.out.len
    rw [List.length_nil] at hp3
    have hka : k ≤ 2199023255552 := by have := HKV.out.1; omega
    have hs7 := fixed_calls l h
    have z0 : wr.cell? ⟨q, 0, none⟩ = some (.int .u64 l) := (blk_cell HQ7.out 0).trans rfl
    have z1 : wr.cell? ⟨q, 1, none⟩ = some (.int .u64 h) := (blk_cell HQ7.out 1).trans rfl
    by_cases cx : l / 16777216 = h / 16777216
    · rw [decide_eq_true cx] at hs7
      have HSA := Aside0.mk hs7
      clear hs7
      obtain ⟨d', hd', hP'⟩ := HPI.out.step cx
      have HP' := Aside0.mk hP'
      have HD := Aside0.mk hd'
      have hbr := byteOf_range HBY.out k
      clear hd' hP' cx
      go_wp2_with (first
        | (go_at_call 55; refine (HSA.out _).mono ?_; rintro e w8 ⟨rfl, hb8⟩; have HE8 := Aside0.mk (HE7.out.below hb8); have HM8 := Aside0.mk (HM7.out.below hb8); have HQ8 := Aside0.mk (blk_below HQ7.out hb8); have z0 : w8.cell? ⟨q, 0, none⟩ = some (.int .u64 l) := (blk_cell HQ8.out 0).trans rfl; have z1 : w8.cell? ⟨q, 1, none⟩ = some (.int .u64 h) := (blk_cell HQ8.out 1).trans rfl; clear hb8)
        | (go_at_call 56; refine (shift_calls l h _ hp0 (by omega) (by omega) hp2).mono ?_; rintro e w9 ⟨rfl, hb9⟩; have HE9 := Aside0.mk (HE8.out.below hb9); have HM9 := Aside0.mk (HM8.out.below hb9); have HQ9 := Aside0.mk (blk_below HQ8.out hb9); have z0 : w9.cell? ⟨q, 0, none⟩ = some (.int .u64 l) := (blk_cell HQ9.out 0).trans rfl; have z1 : w9.cell? ⟨q, 1, none⟩ = some (.int .u64 h) := (blk_cell HQ9.out 1).trans rfl; have zf0 := blk_frozen HQ9.out 0; have zf1 := blk_frozen HQ9.out 1; have k4 := HE9.out.c4; clear hb9))
      obtain ⟨w10, hw10⟩ : ∃ w10, w10 = (w9.setCell ⟨q, 0, none⟩ (.int .u64 (l % 16777216 * 256))).setCell ⟨q, 1, none⟩ (.int .u64 (h % 16777216 * 256 + 255)) := ⟨_, rfl⟩
      rw [← hw10]
      have hq10 : (w9.setCell ⟨q, 0, none⟩ (.int .u64 (l % 16777216 * 256))).heap[q]? = some (.cells #[.int .u64 (l % 16777216 * 256), .int .u64 h] 83 (0, 0)) := blk_put (cs := #[.int .u64 l, .int .u64 h]) HQ9.out 0 _ rfl
      have HQ10 := Aside0.mk (show w10.heap[q]? = some (.cells #[.int .u64 (l % 16777216 * 256), .int .u64 (h % 16777216 * 256 + 255)] 83 (0, 0)) from hw10 ▸ blk_put (cs := #[.int .u64 (l % 16777216 * 256), .int .u64 h]) hq10 1 _ rfl)
      have HE10 := Aside0.mk (show RDecRow w10 S g kind (some ⟨b, 0, none⟩) c st low high (.slice Ac code.length cc) code a value ((a - code.length : Nat) : Int) false from hw10 ▸ (HE9.out.far (p := ⟨q, 0, none⟩) HQN.out _).far (p := ⟨q, 1, none⟩) HQN.out _)
      have hqs : w.heap.size ≤ q := by have h1 := HQS2.out; omega
      have HM10 := Aside0.mk (show Mods w w10 S from hw10 ▸ (HM9.out.setCell (p := ⟨q, 0, none⟩) (.inr hqs) _).setCell (p := ⟨q, 1, none⟩) (.inr hqs) _)
      clear hw10 hq10 hqs z0 z1 zf0 zf1 k4 HE9 HM9 HQ9 HE8 HM8 HQ8
      refine (byte_calls Ac cc code k _ (Kd.R_reads' HE10.out.o).2.2 HBY.out).mono ?_
      rintro e w11 ⟨rfl, rfl⟩
      go_wp2
      go_roundg d'
      case measure => have := HD.out; omega
      case rel =>
        have h1 := HKV.out
        refine ⟨_, _, _, k + 1, _, rfl, rfl, by omega, ⟨?_, ?_⟩, HE10, HM10, HQ10, HP'⟩
        · rw [List.length_append, List.length_cons, List.length_nil, h1.1]
          omega
        · rw [List.length_append, List.length_cons, List.length_nil, Nat.zero_add, shV_succ, ← h1.2, ← h1.1]
    · rw [decide_eq_false cx] at hs7
      have HSA := Aside0.mk hs7
      clear hs7
      have HCC := Aside0.mk (HPI.out.done cx)
      clear cx
      have HN := Aside0.mk (show normE 4 (cutL low mid 1) (cutH high mid 1) = (n, l, h) from by
        have h1 := HCC.out
        rw [List.nil_append] at h1
        exact Prod.ext h1.1.symm h1.2)
      obtain ⟨be, hbe⟩ : ∃ be : Nat, k - code.length = be := ⟨_, rfl⟩
      have HBE := Aside0.mk hbe
      have hbk : be ≤ 2199023255552 := by omega
      by_cases hb4 : (be : Int) > 4
      · have HB4 := Aside0.mk hb4
        go_wp2_with (go_at_call 55; refine (HSA.out _).mono ?_; rintro e w8 ⟨rfl, hb8⟩; have HE8 := Aside0.mk (HE7.out.below hb8); have HM8 := Aside0.mk (HM7.out.below hb8); have k4 := HE8.out.c4; have k8 := HE8.out.c8; have f8 := HE8.out.fz 8; clear hb8)
        go_ret2
        have h1 := HKV.out
        refine ⟨⟨l, h, n, HN.out, .inl ⟨by have := HB4.out; have := HBE.out; omega, rfl, HE8.out.put 8 _ rfl⟩⟩, HM8.out.setCell (.inl hSg) _⟩
      · have HB4 := Aside0.mk hb4
        go_wp2_with (go_at_call 55; refine (HSA.out _).mono ?_; rintro e w8 ⟨rfl, hb8⟩; have HE8 := Aside0.mk (HE7.out.below hb8); have HM8 := Aside0.mk (HM7.out.below hb8); have HQ8 := Aside0.mk (blk_below HQ7.out hb8); have k4 := HE8.out.c4; clear hb8)
        have HE8 := Aside0.mk HE8.out.drew
        have HM8 := Aside0.mk HM8.out.drew
        have HQ8 := Aside0.mk (blk_drew HQ8.out)
        have k0 := HE8.out.c0
        have k1 := HE8.out.c1
        have ks : w8.drew.cell? ⟨b, i, none⟩ = some (.int .i64 (rd st i)) := by obtain ⟨b', hA, hc, _⟩ := HE8.out.cell hi; cases hA; exact hc
        clear k4
        refine start_ (n := 23) (S := fun w' => w'.cell? ⟨g, 0, none⟩ = some (.int .i64 kind) ∧ w'.cell? ⟨g, 1, none⟩ = some (.slice (some ⟨b, 0, none⟩) st.length c) ∧ w'.cell? ⟨b, i, none⟩ = some (.int .i64 (rd st i))) (ds := [22]) #[false, false, false, false, false, false, false, false, false, false, false, false, false, false, false, false, false, false, false, false, false, false, false] (by kernel_rfl) rfl rfl ⟨k0, k1, ks⟩ (fun hHeld => ?_)
        refine pure_ (i := 0) (N := some 99) (v := ?_) (a' := ?_) #[true, false, false, false, false, false, false, false, false, false, false, false, false, false, false, false, false, false, false, false, false, false, false] rfl rfl (by kernel_rfl) (fun _ _ _ h => h) (Or.inl ⟨by rfl, ?_⟩) ?_ ?_
        rotate_left
        · intro w'
          go_simp
          with_reducible rfl
        rotate_left
        · simp only [Act.put, List.setIfInBounds_toArray, List.set_cons_zero, List.set_cons_succ, i64_w, i32_w]
          rfl
        refine pure_ (i := 1) (N := some 100) (v := ?_) (a' := ?_) #[true, true, false, false, false, false, false, false, false, false, false, false, false, false, false, false, false, false, false, false, false, false, false] rfl rfl (by kernel_rfl) (fun _ _ _ h => h) (Or.inl ⟨by rfl, ?_⟩) ?_ ?_
        rotate_left
        · intro w'
          go_simp
          with_reducible rfl
        rotate_left
        · simp only [Act.put, List.setIfInBounds_toArray, List.set_cons_zero, List.set_cons_succ, i64_w, i32_w]
          rfl
        refine pure_ (i := 2) (N := some 101) (v := ?_) (a' := ?_) #[true, true, true, false, false, false, false, false, false, false, false, false, false, false, false, false, false, false, false, false, false, false, false] rfl rfl (by kernel_rfl) (fun _ _ _ h => h) (Or.inl ⟨by rfl, ?_⟩) ?_ ?_
        rotate_left
        · intro w'
          go_simp
          with_reducible rfl
        rotate_left
        · simp only [Act.put, List.setIfInBounds_toArray, List.set_cons_zero, List.set_cons_succ, i64_w, i32_w]
          rfl
        refine pure_ (i := 3) (N := some 102) (v := ?_) (a' := ?_) #[true, true, true, true, false, false, false, false, false, false, false, false, false, false, false, false, false, false, false, false, false, false, false] rfl rfl (by kernel_rfl) (fun _ _ _ h => h) (Or.inl ⟨by rfl, ?_⟩) ?_ ?_
        rotate_left
        · intro w'
          go_simp
          with_reducible rfl
        rotate_left
        · simp only [Act.put, List.setIfInBounds_toArray, List.set_cons_zero, List.set_cons_succ, i64_w, i32_w]
          rfl
        refine pure_ (i := 5) (N := some 104) (v := ?_) (a' := ?_) #[true, true, true, true, false, true, false, false, false, false, false, false, false, false, false, false, false, false, false, false, false, false, false] rfl rfl (by kernel_rfl) (fun _ _ _ h => h) (Or.inl ⟨by rfl, ?_⟩) ?_ ?_
        rotate_left
        · intro w'
          go_simp
          with_reducible rfl
        rotate_left
        · simp only [Act.put, List.setIfInBounds_toArray, List.set_cons_zero, List.set_cons_succ, i64_w, i32_w]
          rfl
        refine pure_ (i := 6) (N := some 105) (v := ?_) (a' := ?_) #[true, true, true, true, false, true, true, false, false, false, false, false, false, false, false, false, false, false, false, false, false, false, false] rfl rfl (by kernel_rfl) (fun _ _ _ h => h) (Or.inl ⟨by rfl, ?_⟩) ?_ ?_
        rotate_left
        · intro w'
          go_simp
          with_reducible rfl
        rotate_left
        · simp only [Act.put, List.setIfInBounds_toArray, List.set_cons_zero, List.set_cons_succ, i64_w, i32_w]
          rfl
        refine pure_ (i := 7) (N := some 106) (v := ?_) (a' := ?_) #[true, true, true, true, false, true, true, true, false, false, false, false, false, false, false, false, false, false, false, false, false, false, false] rfl rfl (by kernel_rfl) (fun _ _ _ h => h) (Or.inl ⟨by rfl, ?_⟩) ?_ ?_
        rotate_left
        · intro w'
          go_simp
          with_reducible rfl
        rotate_left
        · simp only [Act.put, List.setIfInBounds_toArray, List.set_cons_zero, List.set_cons_succ, i64_w, i32_w]
          rfl
        refine pure_ (i := 8) (N := some 107) (v := ?_) (a' := ?_) #[true, true, true, true, false, true, true, true, true, false, false, false, false, false, false, false, false, false, false, false, false, false, false] rfl rfl (by kernel_rfl) (fun _ _ _ h => h) (Or.inl ⟨by rfl, ?_⟩) ?_ ?_
        rotate_left
        · intro w'
          go_simp
          with_reducible rfl
        rotate_left
        · simp only [Act.put, List.setIfInBounds_toArray, List.set_cons_zero, List.set_cons_succ, i64_w, i32_w]
          rfl
        refine pure_ (i := 9) (N := some 108) (v := ?_) (a' := ?_) #[true, true, true, true, false, true, true, true, true, true, false, false, false, false, false, false, false, false, false, false, false, false, false] rfl rfl (by kernel_rfl) (fun _ _ _ h => h) (Or.inl ⟨by rfl, ?_⟩) ?_ ?_
        rotate_left
        · intro w'
          go_simp
          with_reducible rfl
        rotate_left
        · simp only [Act.put, List.setIfInBounds_toArray, List.set_cons_zero, List.set_cons_succ, i64_w, i32_w]
          rfl
        refine pure_ (i := 11) (N := some 110) (v := ?_) (a' := ?_) #[true, true, true, true, false, true, true, true, true, true, false, true, false, false, false, false, false, false, false, false, false, false, false] rfl rfl (by kernel_rfl) (fun _ _ _ h => h) (Or.inl ⟨by rfl, ?_⟩) ?_ ?_
        rotate_left
        · intro w'
          go_simp
          with_reducible rfl
        rotate_left
        · simp only [Act.put, List.setIfInBounds_toArray, List.set_cons_zero, List.set_cons_succ, i64_w, i32_w]
          rfl
        refine pure_ (i := 12) (N := some 111) (v := ?_) (a' := ?_) #[true, true, true, true, false, true, true, true, true, true, false, true, true, false, false, false, false, false, false, false, false, false, false] rfl rfl (by kernel_rfl) (fun _ _ _ h => h) (Or.inl ⟨by rfl, ?_⟩) ?_ ?_
        rotate_left
        · intro w'
          go_simp
          with_reducible rfl
        rotate_left
        · simp only [Act.put, List.setIfInBounds_toArray, List.set_cons_zero, List.set_cons_succ, i64_w, i32_w]
          rfl
        refine pure_ (i := 13) (N := some 112) (v := ?_) (a' := ?_) #[true, true, true, true, false, true, true, true, true, true, false, true, true, true, false, false, false, false, false, false, false, false, false] rfl rfl (by kernel_rfl) (fun _ _ _ h => h) (Or.inl ⟨by rfl, ?_⟩) ?_ ?_
        rotate_left
        · intro w'
          go_simp
          with_reducible rfl
        rotate_left
        · simp only [Act.put, List.setIfInBounds_toArray, List.set_cons_zero, List.set_cons_succ, i64_w, i32_w]
          rfl
        refine pure_ (i := 14) (N := some 113) (v := ?_) (a' := ?_) #[true, true, true, true, false, true, true, true, true, true, false, true, true, true, true, false, false, false, false, false, false, false, false] rfl rfl (by kernel_rfl) (fun _ _ _ h => h) (Or.inl ⟨by rfl, ?_⟩) ?_ ?_
        rotate_left
        · intro w'
          go_simp
          with_reducible rfl
        rotate_left
        · simp only [Act.put, List.setIfInBounds_toArray, List.set_cons_zero, List.set_cons_succ, i64_w, i32_w]
          rfl
        refine pure_ (i := 16) (N := some 115) (v := ?_) (a' := ?_) #[true, true, true, true, false, true, true, true, true, true, false, true, true, true, true, false, true, false, false, false, false, false, false] rfl rfl (by kernel_rfl) (fun _ _ _ h => h) (Or.inl ⟨by rfl, ?_⟩) ?_ ?_
        rotate_left
        · intro w'
          go_simp
          with_reducible rfl
        rotate_left
        · simp only [Act.put, List.setIfInBounds_toArray, List.set_cons_zero, List.set_cons_succ, i64_w, i32_w]
          rfl
        refine pure_ (i := 19) (N := some 118) (v := ?_) (a' := ?_) #[true, true, true, true, false, true, true, true, true, true, false, true, true, true, true, false, true, false, false, true, false, false, false] rfl rfl (by kernel_rfl) (fun _ _ _ h => h) (Or.inl ⟨by rfl, ?_⟩) ?_ ?_
        rotate_left
        · intro w'
          go_simp
          with_reducible rfl
        rotate_left
        · simp only [Act.put, List.setIfInBounds_toArray, List.set_cons_zero, List.set_cons_succ, i64_w, i32_w]
          rfl
        refine take_ (i := 4) (N := some 103) (v := ?_) (a' := ?_) #[true, true, true, true, true, true, true, true, true, true, false, true, true, true, true, false, true, false, false, true, false, false, false] rfl rfl (by kernel_rfl) (fun _ _ _ h => h) (Or.inl ⟨by rfl, ?_⟩) hHeld ?_ ?_
        rotate_left
        · rintro w' ⟨s0, s1, s2⟩
          go_simp
          with_reducible rfl
        rotate_left
        · simp only [Act.put, List.setIfInBounds_toArray, List.set_cons_zero, List.set_cons_succ, i64_w, i32_w]
          rfl
        refine take_ (i := 10) (N := some 109) (v := ?_) (a' := ?_) #[true, true, true, true, true, true, true, true, true, true, true, true, true, true, true, false, true, false, false, true, false, false, false] rfl rfl (by kernel_rfl) (fun _ _ _ h => h) (Or.inl ⟨by rfl, ?_⟩) hHeld ?_ ?_
        rotate_left
        · rintro w' ⟨s0, s1, s2⟩
          go_simp
          with_reducible rfl
        rotate_left
        · simp only [Act.put, List.setIfInBounds_toArray, List.set_cons_zero, List.set_cons_succ, i64_w, i32_w]
          rfl
        refine take_ (i := 15) (N := some 114) (v := ?_) (a' := ?_) #[true, true, true, true, true, true, true, true, true, true, true, true, true, true, true, true, true, false, false, true, false, false, false] rfl rfl (by kernel_rfl) (fun _ _ _ h => h) (Or.inl ⟨by rfl, ?_⟩) hHeld ?_ ?_
        rotate_left
        · rintro w' ⟨s0, s1, s2⟩
          go_simp
          with_reducible rfl
        rotate_left
        · simp only [Act.put, List.setIfInBounds_toArray, List.set_cons_zero, List.set_cons_succ, i64_w, i32_w]
          rfl
        refine pure_ (i := 17) (N := some 116) (v := ?_) (a' := ?_) #[true, true, true, true, true, true, true, true, true, true, true, true, true, true, true, true, true, true, false, true, false, false, false] rfl rfl (by kernel_rfl) (fun _ _ _ h => h) (Or.inl ⟨by rfl, ?_⟩) ?_ ?_
        rotate_left
        · intro w'
          go_simp
          with_reducible rfl
        rotate_left
        · simp only [Act.put, List.setIfInBounds_toArray, List.set_cons_zero, List.set_cons_succ, i64_w, i32_w]
          rfl
        refine take_ (i := 18) (N := some 117) (v := ?_) (a' := ?_) #[true, true, true, true, true, true, true, true, true, true, true, true, true, true, true, true, true, true, true, true, false, false, false] rfl rfl (by kernel_rfl) (fun _ _ _ h => h) (Or.inl ⟨by rfl, ?_⟩) hHeld ?_ ?_
        rotate_left
        · rintro w' ⟨s0, s1, s2⟩
          go_simp
          with_reducible rfl
        rotate_left
        · simp only [Act.put, List.setIfInBounds_toArray, List.set_cons_zero, List.set_cons_succ, i64_w, i32_w]
          rfl
        refine one_ (i := 20) (N := some 119) #[true, true, true, true, true, true, true, true, true, true, true, true, true, true, true, true, true, true, true, true, true, false, false] rfl rfl (by kernel_rfl) (by decide) (fun K hK => ?_)
        refine goes_ Try.func33 (by kernel_rfl) rfl #[.int .i64 kind, .int .i64 (rd st i), .int .i64 1] (by rfl) rfl rfl (by simp only [List.map_toArray, List.map_cons, List.map_nil]; rfl) ?_
        with_reducible refine (ref_after kind (rd st i) 1 _ hs (by decide)).mono ?_
        rintro e w9 ⟨rfl, hb9⟩
        refine ⟨_, rfl, ?_⟩
        have HE9 := Aside0.mk (HE8.out.below hb9)
        have HM9 := Aside0.mk (HM8.out.below hb9)
        have HQ9 := Aside0.mk (blk_below HQ8.out hb9)
        have c9 : w9.cell? ⟨b, i, none⟩ = some (.int .i64 (rd st i)) := by obtain ⟨b', hA, hc, _⟩ := HE9.out.cell hi; cases hA; exact hc
        have f9 : w9.frozen? ⟨b, i, none⟩ = false := by obtain ⟨b', hA, _, hf, _⟩ := HE9.out.cell hi; cases hA; exact hf
        clear hb9
        refine hK.out _ _ ⟨HE9.out.c0, HE9.out.c1, c9⟩ (fun hHeld => ?_)
        clear hK K
        refine norm_ (a' := ?_) ?_ ?_
        rotate_left
        · show Act.put _ (some 119) _ = _
          simp only [Act.put, List.setIfInBounds_toArray, List.set_cons_zero, List.set_cons_succ, i64_w, i32_w]
          rfl
        refine pure_ (i := 21) (N := some 120) (v := ?_) (a' := ?_) #[true, true, true, true, true, true, true, true, true, true, true, true, true, true, true, true, true, true, true, true, true, true, false] rfl rfl (by kernel_rfl) (fun _ _ _ h => h) (Or.inl ⟨by rfl, ?_⟩) ?_ ?_
        rotate_left
        · intro w'
          go_simp
          with_reducible rfl
        rotate_left
        · simp only [Act.put, List.setIfInBounds_toArray, List.set_cons_zero, List.set_cons_succ, i64_w, i32_w]
          rfl
        refine last_ (i := 22) (N := none) #[true, true, true, true, true, true, true, true, true, true, true, true, true, true, true, true, true, true, true, true, true, true, true] rfl rfl (by kernel_rfl) (by decide) (fun K hK => ?_)
        refine skip_ (w1 := ?_) (by rfl) rfl ?_ ?_
        rotate_left
        · go_simp
          rfl
        refine hK.out _ _ ?_
        clear hK K
        refine done_ (by kernel_rfl) ?_

        obtain ⟨w10, hw10⟩ : ∃ w10, w10 = w9.setCell ⟨b, i, none⟩ (.int .i64 (after kind (rd st i) 1)) := ⟨_, rfl⟩
        rw [← hw10]
        have HE10 := Aside0.mk (show RDecRow w10 S g kind (some ⟨b, 0, none⟩) c (st.set i (after kind (rd st i) 1)) low high (.slice Ac code.length cc) code a value ((a - code.length : Nat) : Int) false from hw10 ▸ HE9.out.setst hi _)
        have HM10 := Aside0.mk (show Mods w w10 S from hw10 ▸ HM9.out.setCell (.inl hSb2) _)
        have hqb : q ≠ b := fun he => HQN.out (he ▸ hSb2)
        have HQ10 := Aside0.mk (show w10.heap[q]? = some (.cells #[.int .u64 l, .int .u64 h] 83 (0, 0)) from hw10 ▸ blk_far HQ9.out hqb _)
        have z0 : w10.cell? ⟨q, 0, none⟩ = some (.int .u64 l) := (blk_cell HQ10.out 0).trans rfl
        have z1 : w10.cell? ⟨q, 1, none⟩ = some (.int .u64 h) := (blk_cell HQ10.out 1).trans rfl
        have c2 := HE10.out.c2
        have c3 := HE10.out.c3
        have c5 := HE10.out.c5
        have c6 := HE10.out.c6
        have c7 := HE10.out.c7
        have f2 := HE10.out.fz 2
        have f3 := HE10.out.fz 3
        have f5 := HE10.out.fz 5
        have f6 := HE10.out.fz 6
        have f7 := HE10.out.fz 7
        clear hw10 k0 k1 ks c9 f9
        go_wp2
        go_ret2
        have h1 := HKV.out
        refine ⟨⟨l, h, n, HN.out, .inr ⟨by have := HB4.out; have := HBE.out; omega, rfl, ?_⟩⟩, ((((HM10.out.setCell (p := ⟨g, 2, none⟩) (.inl hSg) _).setCell (p := ⟨g, 3, none⟩) (.inl hSg) _).setCell (p := ⟨g, 5, none⟩) (.inl hSg) _).setCell (p := ⟨g, 6, none⟩) (.inl hSg) _).setCell (p := ⟨g, 7, none⟩) (.inl hSg) _⟩
        rw [← h1.2, ← h1.1, HBE.out]
        exact ((((HE10.out.put (low' := l) 2 _ rfl).put (high' := h) 3 _ rfl).put (a' := (k : Int)) 5 _ rfl).put (value' := v) 6 _ rfl).put (be' := (be : Int)) 7 _ rfl
end Go.Proofs.Ytpnmedmghncpiaa.RDec
