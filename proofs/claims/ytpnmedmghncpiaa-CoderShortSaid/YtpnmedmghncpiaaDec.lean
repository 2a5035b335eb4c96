import Derived.Test.YtpnmedmghncpiaaAid
import Derived.Test.YtpnmedmghncpiaaHandAid
import Derived.Test.YtpnmedmghncpiaaCod1
import Derived.Test.YtpnmedmghncpiaaCod2
import Derived.Test.YtpnmedmghncpiaaCod3
import Derived.Test.YtpnmedmghncpiaaMod
import Derived.Test.YtpnmedmghncpiaaEnc
import Derived.Test.YtpnmedmghncpiaaMods
import Derived.Test.YtpnmedmghncpiaaEncAt
import Derived.Test.YtpnmedmghncpiaaPut
import Derived.Test.YtpnmedmghncpiaaEnd
import Derived.Test.YtpnmedmghncpiaaEncode
-- needs: Aid HandAid Cod1 Cod2 Cod3 Mod Enc Mods EncAt Put End Encode
namespace Go.Proofs.Ytpnmedmghncpiaa.Dec
open Go Go.RowKit Go.Proofs.YtpnmedmghncpiaaW.PrintWords Go.Proofs.YtpnmedmghncpiaaW.PrintLast Go.Proofs.YtpnmedmghncpiaaW.PrintMore Go.Proofs.Ytpnmedmghncpiaa.Aid Go.Proofs.Ytpnmedmghncpiaa.HandAid Go.Proofs.Ytpnmedmghncpiaa.Cod1 Go.Proofs.Ytpnmedmghncpiaa.Cod2 Go.Proofs.Ytpnmedmghncpiaa.Cod3 Go.Proofs.Ytpnmedmghncpiaa.Mod Go.Proofs.Ytpnmedmghncpiaa.Enc Go.Proofs.Ytpnmedmghncpiaa.Mods Go.Proofs.Ytpnmedmghncpiaa.EncAt Go.Proofs.Ytpnmedmghncpiaa.Put Go.Proofs.Ytpnmedmghncpiaa.End Go.Proofs.Ytpnmedmghncpiaa.Encode
set_option linter.unusedVariables false
set_option linter.unusedSimpArgs false
theorem u64_orb {x y : Int} (h : 0 ≤ x) (hm : x % 256 = 0) (h' : x < 2 ^ 64) (hy : 0 ≤ y) (hy' : y < 256) : Go.bits .or .u64 x y = x + y := bits_join .u64 64 (by decide) wraps_u64 8 x y h hm h' hy (by omega) (by omega)
/-- A model's copy. -/
def MPost (w : World) (kind : Int) (st : List Int) (e : Ending) (w' : World) : Prop := ∃ A c, e = .returned (.agg #[.int .i64 kind, .slice A st.length c]) ∧ Kd.R (Kd.int .i64) 3 w' w.heap.size (fun _ => True) (.slice A st.length c) st ∧ Below w.heap.size w w'
/-- A decoder's state: how many bytes beyond the code were taken is a's business. -/
structure DS where
  kind : Int
  st : List Int
  low : Int
  high : Int
  code : List Int
  a : Nat
  value : Int
  ended : Bool
/-- A byte of the code, 0 behind its end. -/
def byteOf (code : List Int) (i : Nat) : Int := if i < code.length then rd code i else 0
/-- The value behind n shifts. -/
def shV (code : List Int) : Nat → Int → Nat → Int
  | 0, v, _ => v
  | n + 1, v, a => shV code n (v % 16777216 * 256 + byteOf code a) (a + 1)
structure DS.ok (s : DS) : Prop where
  m : okModel s.kind s.st
  l : 0 ≤ s.low
  lh : s.low ≤ s.high
  h : s.high ≤ 4294967295
  n : s.low / 16777216 ≠ s.high / 16777216
  v0 : 0 ≤ s.value
  v1 : s.value ≤ 4294967295
  by_ : Bytes s.code
  len : s.code.length ≤ 1099511627776
  be : s.a - s.code.length ≤ 4
def DS.mid (s : DS) (i : Nat) : Int := midOf s.low s.high (likely s.kind (rd s.st i))
def DS.bit (s : DS) (i : Nat) : Int := if s.value ≤ s.mid i then 1 else 0
def DS.norm (s : DS) (i : Nat) : List Int × Int × Int := normE 4 (cutL s.low (s.mid i) (s.bit i)) (cutH s.high (s.mid i) (s.bit i))
/-- The state behind a bit that is got. -/
def DS.next (s : DS) (i : Nat) : DS := ⟨s.kind, s.st.set i (after s.kind (rd s.st i) (s.bit i)), (s.norm i).2.1, (s.norm i).2.2, s.code, s.a + (s.norm i).1.length, shV s.code (s.norm i).1.length s.value s.a, false⟩
def DS.dead (s : DS) : DS := { s with ended := true }
/-- Get: the state, the bit, the error. -/
def DS.getI (s : DS) (i : Int) : DS × Int × Int :=
  if 0 ≤ i ∧ i < s.st.length then (if s.ended = true then (s, 0, 6) else if s.a + (s.norm i.toNat).1.length - s.code.length > 4 then (s.dead, 0, 6) else (s.next i.toNat, s.bit i.toNat, 0)) else (s, 0, 2)
theorem byteOf_range {code : List Int} (h : Bytes code) (i : Nat) : 0 ≤ byteOf code i ∧ byteOf code i ≤ 255 := by
  unfold byteOf
  split
  · exact bytes_rd h (by assumption)
  · omega
theorem shV_range {code : List Int} (h : Bytes code) : ∀ (n : Nat) (v : Int) (a : Nat), 0 ≤ v → v ≤ 4294967295 → 0 ≤ shV code n v a ∧ shV code n v a ≤ 4294967295
  | 0, v, a, h0, h1 => ⟨h0, h1⟩
  | n + 1, v, a, h0, h1 => by
    have := byteOf_range h a
    exact shV_range h n _ _ (by omega) (by omega)
theorem shV_succ (code : List Int) : ∀ (n : Nat) (v : Int) (a : Nat), shV code (n + 1) v a = shV code n v a % 16777216 * 256 + byteOf code (a + n)
  | 0, v, a => rfl
  | n + 1, v, a => by
    show shV code (n + 1) (v % 16777216 * 256 + byteOf code a) (a + 1) = _
    rw [shV_succ code n, show a + 1 + n = a + (n + 1) by omega]
    rfl
theorem DS.at_ {s : DS} (h : s.ok) {i : Nat} (hi : i < s.st.length) : okState s.kind (rd s.st i) := h.m.2.2 _ (rd_mem (by omega) (by omega))
theorem DS.mid_ {s : DS} (h : s.ok) {i : Nat} (hi : i < s.st.length) : s.low ≤ s.mid i ∧ s.mid i < s.high := by
  have hr := likely_range _ _ (DS.at_ h hi)
  have hm := mid_range s.low s.high _ h.lh hr.1 hr.2
  have hlt : s.low < s.high := by
    have := h.lh
    rcases Int.lt_or_le s.low s.high with c | c
    · exact c
    · exact absurd (by rw [show s.low = s.high by omega]) h.n
  exact ⟨hm.1, hm.2.1 hlt⟩
theorem DS.cut_ {s : DS} (h : s.ok) {i : Nat} (hi : i < s.st.length) : 0 ≤ cutL s.low (s.mid i) (s.bit i) ∧ cutL s.low (s.mid i) (s.bit i) ≤ cutH s.high (s.mid i) (s.bit i) ∧ cutH s.high (s.mid i) (s.bit i) ≤ 4294967295 := by
  have hm := DS.mid_ h hi
  have := h.l
  have := h.h
  unfold cutL cutH
  split <;> omega
theorem DS.bit_ (s : DS) (i : Nat) : s.bit i = 0 ∨ s.bit i = 1 := by unfold DS.bit; split <;> simp
theorem DS.getI_ok {s : DS} (h : s.ok) (i : Int) : (s.getI i).1.ok := by
  unfold DS.getI
  by_cases c : 0 ≤ i ∧ i < s.st.length
  · rw [if_pos c]
    by_cases e : s.ended = true
    · rw [if_pos e]
      exact h
    rw [if_neg e]
    by_cases b : s.a + (s.norm i.toNat).1.length - s.code.length > 4
    · rw [if_pos b]
      exact ⟨h.m, h.l, h.lh, h.h, h.n, h.v0, h.v1, h.by_, h.len, h.be⟩
    · rw [if_neg b]
      have hi : i.toNat < s.st.length := by omega
      obtain ⟨h0, h1, h2⟩ := DS.cut_ h hi
      have hd := norm_done 4 _ _ h0 h1 h2 (by rw [show (256 : Int) ^ 4 = 4294967296 from rfl]; omega)
      have hv := shV_range h.by_ (s.norm i.toNat).1.length s.value s.a h.v0 h.v1
      refine ⟨⟨h.m.1, ?_, fun x hx => ?_⟩, hd.2.1, hd.2.2.1, hd.2.2.2, hd.1, hv.1, hv.2, h.by_, h.len, by show s.a + (s.norm i.toNat).1.length - s.code.length ≤ 4; omega⟩
      · show (s.st.set _ _).length ≤ 8192
        rw [List.length_set]
        exact h.m.2.1
      · rcases List.mem_or_eq_of_mem_set hx with hx | rfl
        · exact h.m.2.2 x hx
        · exact after_ok _ _ _ (DS.at_ h hi) (DS.bit_ s _)
  · rw [if_neg c]
    exact h
/-- A decoder's cells. -/
def dec42 (kind : Int) (v : Value) (low high : Int) (vc : Value) (a value be : Int) (ended real : Bool) : Array Value := #[.int .i64 kind, v, .int .i64 2048, .int .i64 1792, .int .i64 1568, .int .i64 1372, .int .i64 1201, .int .i64 1051, .int .i64 920, .int .i64 805, .int .i64 705, .int .i64 617, .int .i64 540, .int .i64 473, .int .i64 414, .int .i64 363, .int .i64 318, .int .i64 279, .int .i64 245, .int .i64 215, .int .i64 189, .int .i64 166, .int .i64 146, .int .i64 128, .int .i64 112, .int .i64 98, .int .i64 86, .int .i64 76, .int .i64 67, .int .i64 59, .int .i64 52, .int .i64 46, .int .i64 41, .int .i64 36, .int .u64 low, .int .u64 high, vc, .int .i64 a, .int .u64 value, .int .i64 be, .bool ended, .bool real]
structure DecRow (W : World) (S : Nat → Prop) (g : Nat) (kind : Int) (A : Option Addr) (c : Nat) (st : List Int) (low high : Int) (vc : Value) (code : List Int) (a : Nat) (value : Int) (ended : Bool) : Prop where
  b : W.heap[g]? = some (.cells (dec42 kind (.slice A st.length c) low high vc a value ((a - code.length : Nat) : Int) ended true) 68 (0, 0))
  s : Kd.R (Kd.int .i64) 3 W 0 S (.slice A st.length c) st
  o : Kd.R (Kd.int .u8) 5 W 0 S vc code
  g : S g
section
variable {W W' : World} {S S' : Nat → Prop} {g : Nat} {kind : Int} {A : Option Addr} {c : Nat} {st : List Int} {low high : Int} {vc : Value} {code : List Int} {a : Nat} {value : Int} {ended : Bool}
theorem DecRow.kept (h : DecRow W S g kind A c st low high vc code a value ended) (hk : Mods W W' S') (hne : ∀ k, S k → ¬ S' k) : DecRow W' S g kind A c st low high vc code a value ended :=
  ⟨blk_kept h.b hk.kept (hne g h.g), Kd.R_kept h.s hk.kept hne, Kd.R_kept h.o hk.kept hne, h.g⟩
theorem DecRow.below (h : DecRow W S g kind A c st low high vc code a value ended) (hb : Below W.heap.size W W') : DecRow W' S g kind A c st low high vc code a value ended :=
  ⟨blk_below h.b hb, Kd.R_below h.s hb, Kd.R_below h.o hb, h.g⟩
theorem DecRow.drewN (h : DecRow W S g kind A c st low high vc code a value ended) (m : Nat) : DecRow (W.drewN m) S g kind A c st low high vc code a value ended := h.below (pw_below_drewN (Below.refl _ _) m)
theorem DecRow.drew (h : DecRow W S g kind A c st low high vc code a value ended) : DecRow W.drew S g kind A c st low high vc code a value ended := h.below (below_drew (Below.refl _ _))
theorem DecRow.mono (h : DecRow W S g kind A c st low high vc code a value ended) (hs : ∀ k, S k → S' k) : DecRow W S' g kind A c st low high vc code a value ended :=
  ⟨h.b, Kd.R_mono h.s hs, Kd.R_mono h.o hs, hs g h.g⟩
theorem DecRow.iv (h : DecRow W S g kind A c st low high vc code a value ended) : Iv W g kind A st.length c low high :=
  ⟨(blk_cell h.b 0).trans rfl, (blk_cell h.b 1).trans rfl, range_of (r := [.int .u64 low, .int .u64 high, vc, .int .i64 a, .int .u64 value, .int .i64 ((a - code.length : Nat) : Int), .bool ended, .bool true]) (by rw [qlist]; exact h.b), (blk_cell h.b 34).trans rfl, (blk_cell h.b 35).trans rfl, fun i => blk_frozen h.b i⟩
theorem DecRow.c36 (h : DecRow W S g kind A c st low high vc code a value ended) : W.cell? ⟨g, 36, none⟩ = some vc := (blk_cell h.b 36).trans rfl
theorem DecRow.c37 (h : DecRow W S g kind A c st low high vc code a value ended) : W.cell? ⟨g, 37, none⟩ = some (.int .i64 a) := (blk_cell h.b 37).trans rfl
theorem DecRow.c38 (h : DecRow W S g kind A c st low high vc code a value ended) : W.cell? ⟨g, 38, none⟩ = some (.int .u64 value) := (blk_cell h.b 38).trans rfl
theorem DecRow.c39 (h : DecRow W S g kind A c st low high vc code a value ended) : W.cell? ⟨g, 39, none⟩ = some (.int .i64 ((a - code.length : Nat) : Int)) := (blk_cell h.b 39).trans rfl
theorem DecRow.c40 (h : DecRow W S g kind A c st low high vc code a value ended) : W.cell? ⟨g, 40, none⟩ = some (.bool ended) := (blk_cell h.b 40).trans rfl
theorem DecRow.c41 (h : DecRow W S g kind A c st low high vc code a value ended) : W.cell? ⟨g, 41, none⟩ = some (.bool true) := (blk_cell h.b 41).trans rfl
theorem DecRow.fz (h : DecRow W S g kind A c st low high vc code a value ended) (i : Nat) : W.frozen? ⟨g, i, none⟩ = false := blk_frozen h.b i
theorem DecRow.cell (h : DecRow W S g kind A c st low high vc code a value ended) {i : Nat} (hi : i < st.length) : ∃ b, A = some ⟨b, 0, none⟩ ∧ W.cell? ⟨b, i, none⟩ = some (.int .i64 (rd st i)) ∧ W.frozen? ⟨b, i, none⟩ = false ∧ b ≠ g := by
  obtain ⟨b, cap, hv, _, _, cells, hc⟩ := Kd.R_form h.s (by omega)
  injection hv with hA _ hcap
  subst hA hcap
  have h1 := Kd.R_cell (0 : Int) h.s (i : Int) (by omega) (by omega)
  have hne : b ≠ g := blk_ne hc h.b (by decide)
  exact ⟨b, rfl, h1.1, h1.2, hne⟩
theorem DecRow.put (h : DecRow W S g kind A c st low high vc code a value ended) (j : Nat) (u : Value) {kind' low' high' value' : Int} {a' : Nat} {ended' : Bool} (e : (dec42 kind (.slice A st.length c) low high vc a value ((a - code.length : Nat) : Int) ended true).setIfInBounds j u = dec42 kind' (.slice A st.length c) low' high' vc a' value' ((a' - code.length : Nat) : Int) ended' true) : DecRow (W.setCell ⟨g, j, none⟩ u) S g kind' A c st low' high' vc code a' value' ended' :=
  ⟨blk_put h.b j u e, Kd.R_set h.s h.b (by decide) _ _, Kd.R_set h.o h.b (by decide) _ _, h.g⟩
theorem DecRow.cut (h : DecRow W S g kind A c st low high vc code a value ended) (bit mid : Int) : DecRow (cutW W g bit mid) S g kind A c st (cutL low mid bit) (cutH high mid bit) vc code a value ended := by
  unfold cutW cutL cutH
  split
  · exact h.put 35 _ rfl
  · exact h.put 34 _ rfl
theorem DecRow.lost (h : DecRow W S g kind A c st low high vc code a value ended) (l' h' : Int) : DecRow ((W.setCell ⟨g, 34, none⟩ (.int .u64 l')).setCell ⟨g, 35, none⟩ (.int .u64 h')) S g kind A c st l' h' vc code a value ended :=
  DecRow.put (h.put (low' := l') 34 (.int .u64 l') rfl) 35 _ rfl
theorem DecRow.setst {b : Nat} (h : DecRow W S g kind (some ⟨b, 0, none⟩) c st low high vc code a value ended) {i : Nat} (hi : i < st.length) (x : Int) : DecRow (W.setCell ⟨b, i, none⟩ (.int .i64 x)) S g kind (some ⟨b, 0, none⟩) c (st.set i x) low high vc code a value ended := by
  obtain ⟨b', hA, _, _, hne⟩ := h.cell hi
  injection hA with hA
  injection hA with hA _ _
  subst hA
  obtain ⟨cells, hty⟩ := Kd.R_typed h.s b (by simp [Value.ownBlock])
  have hp := (Kd.R_put (enc := Value.int .i64) h.s (i : Int) x).1
  rw [Int.toNat_natCast] at hp
  have hl : (st.set i x).length = st.length := List.length_set
  refine ⟨?_, ?_, Kd.R_set h.o hty (by decide) _ _, h.g⟩
  · rw [hl]
    exact blk_far h.b (Ne.symm hne) _
  · rw [hl]
    exact hp
/-- A shift, where the code goes on. -/
theorem DecRow.adv (h : DecRow W S g kind A c st low high vc code a value ended) (ha : a < code.length) (v : Int) : DecRow ((W.setCell ⟨g, 37, none⟩ (.int .i64 ((a : Int) + 1))).setCell ⟨g, 38, none⟩ (.int .u64 v)) S g kind A c st low high vc code (a + 1) v ended := by
  have e1 : a + 1 - code.length = a - code.length := by omega
  exact DecRow.put (h.put (a' := a + 1) 37 (.int .i64 ((a : Int) + 1)) (by rw [e1]; rfl)) 38 _ rfl
/-- A shift behind the code's end. -/
theorem DecRow.advB (h : DecRow W S g kind A c st low high vc code a value ended) (ha : ¬ a < code.length) (v : Int) : DecRow (((W.setCell ⟨g, 39, none⟩ (.int .i64 (((a - code.length : Nat) : Int) + 1))).setCell ⟨g, 37, none⟩ (.int .i64 ((a : Int) + 1))).setCell ⟨g, 38, none⟩ (.int .u64 v)) S g kind A c st low high vc code (a + 1) v ended := by
  have e1 : ((a + 1 - code.length : Nat) : Int) = ((a - code.length : Nat) : Int) + 1 := by omega
  have h1 : (W.setCell ⟨g, 39, none⟩ (.int .i64 (((a - code.length : Nat) : Int) + 1))).heap[g]? = some (.cells (dec42 kind (.slice A st.length c) low high vc a value (((a - code.length : Nat) : Int) + 1) ended true) 68 (0, 0)) := blk_put h.b 39 _ rfl
  have h2 := blk_put (cs' := dec42 kind (.slice A st.length c) low high vc ((a : Int) + 1) value (((a - code.length : Nat) : Int) + 1) ended true) h1 37 (.int .i64 ((a : Int) + 1)) rfl
  have h3 := blk_put (cs' := dec42 kind (.slice A st.length c) low high vc ((a : Int) + 1) v (((a - code.length : Nat) : Int) + 1) ended true) h2 38 (.int .u64 v) rfl
  refine ⟨?_, Kd.R_set (Kd.R_set (Kd.R_set h.s h.b (by decide) _ _) h1 (by decide) _ _) h2 (by decide) _ _, Kd.R_set (Kd.R_set (Kd.R_set h.o h.b (by decide) _ _) h1 (by decide) _ _) h2 (by decide) _ _, h.g⟩
  rw [e1]
  exact h3
end
def ShiftPost (w : World) (S : Nat → Prop) (g : Nat) (kind : Int) (A : Option Addr) (c : Nat) (st : List Int) (low high : Int) (vc : Value) (code : List Int) (a : Nat) (value : Int) (ended : Bool) (e : Ending) (w' : World) : Prop :=
  e = .returned (.tuple #[]) ∧ DecRow w' S g kind A c st low high vc code (a + 1) (value % 16777216 * 256 + byteOf code a) ended ∧ Mods w w' S
set_option maxHeartbeats 2000000 in
theorem shift_row (w : World) (S : Nat → Prop) (g : Nat) (kind : Int) (A : Option Addr) (c : Nat) (st : List Int) (low high : Int) (vc : Value) (code : List Int) (a : Nat) (value : Int) (ended : Bool) (hE : DecRow w S g kind A c st low high vc code a value ended) (hv0 : 0 ≤ value) (hv1 : value ≤ 4294967295) (hby : Bytes code) (hlen : code.length ≤ 1099511627776) (ha : a ≤ 2199023255552) :
    Calls Try.prog 63 #[.pointer (some ⟨g, 0, none⟩)] w (ShiftPost w S g kind A c st low high vc code a value ended) := by
  have HE := Aside0.mk hE
  have hSg : S g := hE.g
  obtain ⟨Ac, cc, hvc⟩ := Kd.R_slice hE.o
  subst hvc
  have k36 := hE.c36
  have k37 := hE.c37
  have k38 := hE.c38
  have f37 := hE.fz 37
  have f38 := hE.fz 38
  have f39 := hE.fz 39
  have hbr := byteOf_range hby a
  have e1 : Go.bits .and .u64 (value * 256) 4294967295 = value % 16777216 * 256 := (u64_low32 (x := value * 256) (by omega) (by omega)).trans (by omega)
  by_cases hlt : a < code.length
  · have hb : byteOf code a = rd code a := if_pos hlt
    rw [hb] at hbr
    obtain ⟨ad, hA, hx⟩ := Kd.at_int (Kd.R_reads' hE.o).2.2 (a : Int) (by omega) (by omega)
    subst hA
    rw [Int.toNat_natCast] at hx
    have e2 : Go.bits .or .u64 (value % 16777216 * 256) (rd code a) = value % 16777216 * 256 + rd code a := u64_orb (by omega) (by omega) (by omega) hbr.1 (by omega)
    have hi : (a : Int) < (code.length : Int) := by omega
    have HL := Aside0.mk hlt
    have HBB := Aside0.mk hb
    clear hE hby hb hlt
    go_enter Try.func63, Try.ntmps63
    go_wp2
    go_quiet (fail)
    go_wp2
    go_quiet (fail)
    go_wp2
    go_end0
    refine ⟨rfl, ?_, ?_⟩
    · rw [HBB.out]
      exact (HE.out.adv HL.out _).drewN _
    · exact (((Mods.refl w S).setCell (.inl hSg) _).setCell (.inl hSg) _).drewN _
  · have hb : byteOf code a = 0 := if_neg hlt
    have k39 := hE.c39
    have hi : ¬ (a : Int) < (code.length : Int) := by omega
    obtain ⟨d, hd⟩ : ∃ d : Nat, a - code.length = d := ⟨_, rfl⟩
    rw [hd] at k39
    have hdd : (d : Int) ≤ 2199023255552 := by omega
    have HD := Aside0.mk hd
    have e2 : Go.bits .or .u64 (value % 16777216 * 256) 0 = value % 16777216 * 256 := (u64_orb (x := value % 16777216 * 256) (y := 0) (by omega) (by omega) (by omega) (by omega) (by omega)).trans (by omega)
    have HL := Aside0.mk hlt
    have HBB := Aside0.mk hb
    clear hE hby hb hlt hd hbr
    go_enter Try.func63, Try.ntmps63
    go_wp2
    go_quiet (fail)
    go_wp2
    go_end0
    refine ⟨rfl, ?_, ?_⟩
    · rw [HBB.out, Int.add_zero]
      have h9 := HE.out.advB HL.out (value % 16777216 * 256)
      rw [HD.out] at h9
      exact h9.drewN _
    · exact ((((Mods.refl w S).setCell (.inl hSg) _).setCell (.inl hSg) _).setCell (.inl hSg) _).drewN _
theorem dec_none_nil (w : World) : Calls Try.prog 62 #[.pointer none] w fun e w' => e = .returned (.bool true) ∧ w = w' := by
  go_enter Try.func62, Try.ntmps62
  go_wp2
  go_ret
  exact ⟨rfl, rfl⟩
theorem dec_none (w : World) (g : Nat) (real : Bool) (h2 : w.cell? ⟨g, 41, none⟩ = some (.bool real)) : Calls Try.prog 62 #[.pointer (some ⟨g, 0, none⟩)] w fun e w' => e = .returned (.bool (!real)) ∧ w = w' := by
  go_enter Try.func62, Try.ntmps62
  go_wp2
  go_ret
  exact ⟨rfl, rfl⟩
end Go.Proofs.Ytpnmedmghncpiaa.Dec
