import Derived.Test.YtpnmedmghncpiaaAid
import Derived.Test.YtpnmedmghncpiaaHandAid
import Derived.Test.YtpnmedmghncpiaaCod1
import Derived.Test.YtpnmedmghncpiaaCod2
import Derived.Test.YtpnmedmghncpiaaCod3
import Derived.Test.YtpnmedmghncpiaaMod
import Derived.Test.YtpnmedmghncpiaaEnc
import Derived.Test.YtpnmedmghncpiaaMods
-- needs: Aid HandAid Cod1 Cod2 Cod3 Mod Enc Mods
namespace Go.Proofs.Ytpnmedmghncpiaa.EncAt
open Go Go.RowKit Go.Proofs.YtpnmedmghncpiaaW.PrintWords Go.Proofs.YtpnmedmghncpiaaW.PrintLast Go.Proofs.YtpnmedmghncpiaaW.PrintMore Go.Proofs.Ytpnmedmghncpiaa.Aid Go.Proofs.Ytpnmedmghncpiaa.HandAid Go.Proofs.Ytpnmedmghncpiaa.Cod1 Go.Proofs.Ytpnmedmghncpiaa.Cod2 Go.Proofs.Ytpnmedmghncpiaa.Cod3 Go.Proofs.Ytpnmedmghncpiaa.Mod Go.Proofs.Ytpnmedmghncpiaa.Enc Go.Proofs.Ytpnmedmghncpiaa.Mods
set_option linter.unusedVariables false
set_option linter.unusedSimpArgs false
theorem qlist : qpart 32 = [.int .i64 2048, .int .i64 1792, .int .i64 1568, .int .i64 1372, .int .i64 1201, .int .i64 1051, .int .i64 920, .int .i64 805, .int .i64 705, .int .i64 617, .int .i64 540, .int .i64 473, .int .i64 414, .int .i64 363, .int .i64 318, .int .i64 279, .int .i64 245, .int .i64 215, .int .i64 189, .int .i64 166, .int .i64 146, .int .i64 128, .int .i64 112, .int .i64 98, .int .i64 86, .int .i64 76, .int .i64 67, .int .i64 59, .int .i64 52, .int .i64 46, .int .i64 41, .int .i64 36] := by rfl
/-- What cells 2 to 33 of a block tell. -/
theorem range_of {W : World} {g : Nat} {t : TypeId} {a b : Value} {r : List Value} (h : W.heap[g]? = some (.cells (a :: b :: (qpart 32 ++ r)).toArray t (0, 0))) : W.rangeAt g 2 (qpart 32) := by
  intro j v hj
  have h1 := blk_cell h (2 + j)
  rw [h1, show 2 + j = j + 1 + 1 by omega, List.getElem?_toArray, List.getElem?_cons_succ, List.getElem?_cons_succ, List.getElem?_append_left (List.getElem?_eq_some_iff.1 hj).1]
  exact hj
structure EncRow (W : World) (S : Nat → Prop) (g : Nat) (kind : Int) (A : Option Addr) (c : Nat) (st : List Int) (low high : Int) (vo : Value) (out : List Int) : Prop where
  b : W.heap[g]? = some (.cells (enc38 kind (.slice A st.length c) low high vo true) 66 (0, 0))
  s : Kd.R (Kd.int .i64) 3 W 0 S (.slice A st.length c) st
  o : Kd.R (Kd.int .u8) 5 W 0 S vo out
  g : S g
section
variable {W W' : World} {S S' : Nat → Prop} {g : Nat} {kind : Int} {A : Option Addr} {c : Nat} {st : List Int} {low high : Int} {vo : Value} {out : List Int}
theorem EncRow.kept (h : EncRow W S g kind A c st low high vo out) (hk : Mods W W' S') (hne : ∀ k, S k → ¬ S' k) : EncRow W' S g kind A c st low high vo out :=
  ⟨blk_kept h.b hk.kept (hne g h.g), Kd.R_kept h.s hk.kept hne, Kd.R_kept h.o hk.kept hne, h.g⟩
theorem EncRow.below (h : EncRow W S g kind A c st low high vo out) (hb : Below W.heap.size W W') : EncRow W' S g kind A c st low high vo out :=
  ⟨blk_below h.b hb, Kd.R_below h.s hb, Kd.R_below h.o hb, h.g⟩
theorem EncRow.drewN (h : EncRow W S g kind A c st low high vo out) (m : Nat) : EncRow (W.drewN m) S g kind A c st low high vo out := h.below (pw_below_drewN (Below.refl _ _) m)
theorem EncRow.drew (h : EncRow W S g kind A c st low high vo out) : EncRow W.drew S g kind A c st low high vo out := h.below (below_drew (Below.refl _ _))
theorem EncRow.mono (h : EncRow W S g kind A c st low high vo out) (hs : ∀ k, S k → S' k) : EncRow W S' g kind A c st low high vo out :=
  ⟨h.b, Kd.R_mono h.s hs, Kd.R_mono h.o hs, hs g h.g⟩
theorem EncRow.bound (h : EncRow W S g kind A c st low high vo out) : EncRow W (fun k => S k ∧ k < W.heap.size) g kind A c st low high vo out :=
  ⟨h.b, Kd.R_mono (Kd.R_bound h.s) (fun _ hk => ⟨hk.1, hk.2.2.1⟩), Kd.R_mono (Kd.R_bound h.o) (fun _ hk => ⟨hk.1, hk.2.2.1⟩), h.g, blk_lt h.b⟩
theorem EncRow.iv (h : EncRow W S g kind A c st low high vo out) : Iv W g kind A st.length c low high :=
  ⟨(blk_cell h.b 0).trans rfl, (blk_cell h.b 1).trans rfl, range_of (r := [.int .u64 low, .int .u64 high, vo, .bool true]) (by rw [qlist]; exact h.b), (blk_cell h.b 34).trans rfl, (blk_cell h.b 35).trans rfl, fun i => blk_frozen h.b i⟩
theorem EncRow.real (h : EncRow W S g kind A c st low high vo out) : W.cell? ⟨g, 37, none⟩ = some (.bool true) := (blk_cell h.b 37).trans rfl
theorem EncRow.vo_ (h : EncRow W S g kind A c st low high vo out) : W.cell? ⟨g, 36, none⟩ = some vo := (blk_cell h.b 36).trans rfl
theorem EncRow.cell (h : EncRow W S g kind A c st low high vo out) {i : Nat} (hi : i < st.length) : ∃ b, A = some ⟨b, 0, none⟩ ∧ W.cell? ⟨b, i, none⟩ = some (.int .i64 (rd st i)) ∧ W.frozen? ⟨b, i, none⟩ = false ∧ b ≠ g := by
  obtain ⟨b, cap, hv, _, _, cells, hc⟩ := Kd.R_form h.s (by omega)
  injection hv with hA _ hcap
  subst hA hcap
  have h1 := Kd.R_cell (0 : Int) h.s (i : Int) (by omega) (by omega)
  have hne : b ≠ g := blk_ne hc h.b (by decide)
  exact ⟨b, rfl, h1.1, h1.2, hne⟩
theorem EncRow.cut (h : EncRow W S g kind A c st low high vo out) (bit mid : Int) : EncRow (cutW W g bit mid) S g kind A c st (if bit = 1 then low else mid + 1) (if bit = 1 then mid else high) vo out := by
  unfold cutW
  split
  · exact ⟨blk_put h.b 35 _ rfl, Kd.R_set h.s h.b (by decide) _ _, Kd.R_set h.o h.b (by decide) _ _, h.g⟩
  · exact ⟨blk_put h.b 34 _ rfl, Kd.R_set h.s h.b (by decide) _ _, Kd.R_set h.o h.b (by decide) _ _, h.g⟩
theorem cut_kept (bit mid : Int) (hg : S g) : Mods W (cutW W g bit mid) S := by
  unfold cutW
  split
  · exact (Mods.refl W S).setCell (.inl hg) _
  · exact (Mods.refl W S).setCell (.inl hg) _
theorem EncRow.lost (h : EncRow W S g kind A c st low high vo out) (l' h' : Int) : EncRow ((W.setCell ⟨g, 34, none⟩ (.int .u64 l')).setCell ⟨g, 35, none⟩ (.int .u64 h')) S g kind A c st l' h' vo out := by
  have h1 : (W.setCell ⟨g, 34, none⟩ (.int .u64 l')).heap[g]? = some (.cells (enc38 kind (.slice A st.length c) l' high vo true) 66 (0, 0)) := blk_put h.b 34 _ rfl
  exact ⟨blk_put h1 35 _ rfl, Kd.R_set (Kd.R_set h.s h.b (by decide) _ _) h1 (by decide) _ _, Kd.R_set (Kd.R_set h.o h.b (by decide) _ _) h1 (by decide) _ _, h.g⟩
theorem EncRow.setst {b : Nat} (h : EncRow W S g kind (some ⟨b, 0, none⟩) c st low high vo out) {i : Nat} (hi : i < st.length) (x : Int) : EncRow (W.setCell ⟨b, i, none⟩ (.int .i64 x)) S g kind (some ⟨b, 0, none⟩) c (st.set i x) low high vo out := by
  obtain ⟨b', hA, _, _, hne⟩ := h.cell hi
  injection hA with hA
  injection hA with hA _ _
  subst hA
  obtain ⟨cells, hty⟩ := Kd.R_typed h.s b (by simp [Value.ownBlock])
  have hp := (Kd.R_put (enc := Value.int .i64) h.s (i : Int) x).1
  rw [Int.toNat_natCast] at hp
  have hl : (st.set i x).length = st.length := List.length_set
  refine ⟨?_, ?_, Kd.R_set h.o hty (by decide) _ _, h.g⟩
  · rw [hl]
    exact blk_far h.b (Ne.symm hne) _
  · rw [hl]
    exact hp
theorem EncRow.grew {v1 : Value} {out1 : List Int} (h : EncRow W S g kind A c st low high vo out) (hg : W.grownBy W' vo.ownBlock) (hR : Kd.R (Kd.int .u8) 5 W' 0 S v1 out1) : EncRow (W'.setCell ⟨g, 36, none⟩ v1) S g kind A c st low high v1 out1 := by
  have hb : W'.heap[g]? = some (.cells (enc38 kind (.slice A st.length c) low high vo true) 66 (0, 0)) := blk_grown h.b hg (Kd.R_ne h.o h.b (by decide))
  have hs := Kd.R_over h.s h.o (by decide) hg
  exact ⟨blk_put hb 36 _ rfl, Kd.R_set hs hb (by decide) _ _, Kd.R_set hR hb (by decide) _ _, h.g⟩
end
/-- An encoder's state. -/
structure ES where
  kind : Int
  st : List Int
  low : Int
  high : Int
  out : List Int
def EncAt (W : World) (S : Nat → Prop) (g : Nat) (s : ES) : Prop := ∃ A c vo, EncRow W S g s.kind A c s.st s.low s.high vo s.out
/-- An encoder's state that is one. -/
structure ES.ok (s : ES) : Prop where
  m : okModel s.kind s.st
  l : 0 ≤ s.low
  lh : s.low ≤ s.high
  h : s.high ≤ 4294967295
  n : s.low / 16777216 ≠ s.high / 16777216
theorem EncAt.kept {W W' : World} {S S' : Nat → Prop} {g : Nat} {s : ES} (h : EncAt W S g s) (hk : Mods W W' S') (hne : ∀ k, S k → ¬ S' k) : EncAt W' S g s := by
  obtain ⟨A, c, vo, h⟩ := h
  exact ⟨A, c, vo, h.kept hk hne⟩
theorem EncAt.below {W W' : World} {S : Nat → Prop} {g : Nat} {s : ES} (h : EncAt W S g s) (hb : Below W.heap.size W W') : EncAt W' S g s := by
  obtain ⟨A, c, vo, h⟩ := h
  exact ⟨A, c, vo, h.below hb⟩
theorem EncAt.mono {W : World} {S S' : Nat → Prop} {g : Nat} {s : ES} (h : EncAt W S g s) (hs : ∀ k, S k → S' k) : EncAt W S' g s := by
  obtain ⟨A, c, vo, h⟩ := h
  exact ⟨A, c, vo, h.mono hs⟩
theorem EncAt.bound {W : World} {S : Nat → Prop} {g : Nat} {s : ES} (h : EncAt W S g s) : EncAt W (fun k => S k ∧ k < W.heap.size) g s := by
  obtain ⟨A, c, vo, h⟩ := h
  exact ⟨A, c, vo, h.bound⟩
/-- The parts of the interval, and what is left of it. -/
def cutL (low mid bit : Int) : Int := if bit = 1 then low else mid + 1
def cutH (high mid bit : Int) : Int := if bit = 1 then mid else high
def ES.mid (s : ES) (i : Nat) : Int := midOf s.low s.high (likely s.kind (rd s.st i))
def ES.norm (s : ES) (i : Nat) (bit : Int) : List Int × Int × Int := normE 4 (cutL s.low (s.mid i) bit) (cutH s.high (s.mid i) bit)
/-- The state behind a bit. -/
def ES.put (s : ES) (i : Nat) (bit : Int) : ES := ⟨s.kind, s.st.set i (after s.kind (rd s.st i) bit), (s.norm i bit).2.1, (s.norm i bit).2.2, s.out ++ (s.norm i bit).1⟩
theorem ES.at_ {s : ES} (h : s.ok) {i : Nat} (hi : i < s.st.length) : okState s.kind (rd s.st i) := h.m.2.2 _ (rd_mem (by omega) (by omega))
theorem ES.mid_ {s : ES} (h : s.ok) {i : Nat} (hi : i < s.st.length) : s.low ≤ s.mid i ∧ s.mid i < s.high := by
  have hr := likely_range _ _ (ES.at_ h hi)
  have hm := mid_range s.low s.high _ h.lh hr.1 hr.2
  have hlt : s.low < s.high := by
    have := h.lh
    have := h.n
    rcases Int.lt_or_le s.low s.high with c | c
    · exact c
    · exact absurd (by rw [show s.low = s.high by omega]) h.n
  exact ⟨hm.1, hm.2.1 hlt⟩
theorem ES.cut_ {s : ES} (h : s.ok) {i : Nat} (hi : i < s.st.length) {bit : Int} : 0 ≤ cutL s.low (s.mid i) bit ∧ cutL s.low (s.mid i) bit ≤ cutH s.high (s.mid i) bit ∧ cutH s.high (s.mid i) bit ≤ 4294967295 := by
  have hm := ES.mid_ h hi
  have := h.l
  have := h.h
  unfold cutL cutH
  split <;> omega
theorem ES.put_ok {s : ES} (h : s.ok) {i : Nat} (hi : i < s.st.length) {bit : Int} (hb : bit = 0 ∨ bit = 1) : (s.put i bit).ok := by
  obtain ⟨h0, h1, h2⟩ := ES.cut_ h hi (bit := bit)
  have hd := norm_done 4 _ _ h0 h1 h2 (by rw [show (256 : Int) ^ 4 = 4294967296 from rfl]; omega)
  refine ⟨⟨h.m.1, ?_, fun x hx => ?_⟩, hd.2.1, hd.2.2.1, hd.2.2.2, hd.1⟩
  · show (s.st.set i _).length ≤ 8192
    rw [List.length_set]
    exact h.m.2.1
  · rcases List.mem_or_eq_of_mem_set hx with hx | rfl
    · exact h.m.2.2 x hx
    · exact after_ok _ _ _ (ES.at_ h hi) hb
theorem norm_len : ∀ (d : Nat) (l h : Int), (normE d l h).1.length ≤ d
  | 0, _, _ => Nat.le_refl _
  | d + 1, l, h => by
    unfold normE
    split
    · have := norm_len d (l % 16777216 * 256) (h % 16777216 * 256 + 255)
      simp only [List.length_cons]
      omega
    · simp
/-- The error of a Put. -/
def ES.good (s : ES) (i bit : Int) : Bool := decide (0 ≤ i) && decide (i < s.st.length) && (decide (bit = 0) || decide (bit = 1))
def ES.err (s : ES) (i bit : Int) : Int := if s.good i bit = true then 0 else 2
def ES.putI (s : ES) (i bit : Int) : ES := if s.good i bit = true then s.put i.toNat bit else s
theorem ES.putI_ok {s : ES} (h : s.ok) (i bit : Int) : (s.putI i bit).ok := by
  unfold ES.putI
  split
  · rename_i c
    simp only [ES.good, Bool.and_eq_true, Bool.or_eq_true, decide_eq_true_eq] at c
    exact ES.put_ok h (by omega) c.2
  · exact h
theorem ES.putI_len (s : ES) (i bit : Int) : (s.putI i bit).out.length ≤ s.out.length + 4 ∧ s.out.length ≤ (s.putI i bit).out.length ∧ (s.putI i bit).st.length = s.st.length := by
  unfold ES.putI
  split
  · have := norm_len 4 (cutL s.low (s.mid i.toNat) bit) (cutH s.high (s.mid i.toNat) bit)
    have h1 : (s.put i.toNat bit).out.length = s.out.length + (s.norm i.toNat bit).1.length := List.length_append
    have h2 : (s.put i.toNat bit).st.length = s.st.length := List.length_set
    have h3 : (s.norm i.toNat bit).1.length ≤ 4 := this
    omega
  · omega
/-- The highest n bytes of 32 bits. -/
def hiBytes (high : Int) : List Int := [high / 16777216, high / 65536 % 256, high / 256 % 256, high % 256]
/-- How many bytes the end has. -/
def endN (low high : Int) : Nat :=
  if low ≤ high / 4294967296 * 4294967296 then 0 else if low ≤ high / 16777216 * 16777216 then 1 else if low ≤ high / 65536 * 65536 then 2 else if low ≤ high / 256 * 256 then 3 else 4
def endOf (low high : Int) : List Int := (hiBytes high).take (endN low high)
def ES.end_ (s : ES) : List Int := s.out ++ endOf s.low s.high
theorem ES.end_len (s : ES) : s.end_.length ≤ s.out.length + 4 := by
  simp only [ES.end_, endOf, hiBytes, List.length_append, List.length_take, List.length_cons, List.length_nil]
  omega
end Go.Proofs.Ytpnmedmghncpiaa.EncAt
