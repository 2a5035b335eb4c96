import Derived.Test.YtkfejicdjpffcaaMRefineErrors2
import Derived.Test.YtkfejicdjpffcaaMRefineErrors1
import Derived.Test.YtkfejicdjpffcaaMRefineErrors0
set_option linter.unusedVariables false
set_option linter.unusedSimpArgs false
namespace Go.Proofs.Ytkfejicdjpffcaa.EncAt
open Go Go.RowKit YtkfejicdjpffcaaW PrintWords PrintLast PrintMore Aid HandAid Cod1 Cod2 Cod3 Ytkfejicdjpffcaa.Mod Enc Mods
theorem qlist : qpart 32 = [.int .i64 2048, .int .i64 1792, .int .i64 1568, .int .i64 1372, .int .i64 1201, .int .i64 1051, .int .i64 920, .int .i64 805, .int .i64 705, .int .i64 617, .int .i64 540, .int .i64 473, .int .i64 414, .int .i64 363, .int .i64 318, .int .i64 279, .int .i64 245, .int .i64 215, .int .i64 189, .int .i64 166, .int .i64 146, .int .i64 128, .int .i64 112, .int .i64 98, .int .i64 86, .int .i64 76, .int .i64 67, .int .i64 59, .int .i64 52, .int .i64 46, .int .i64 41, .int .i64 36] := by rfl
/-- What cells 2 to 33 of a block tell. -/
theorem range_of {W : World} {g : Nat} {t : TypeId} {a b : Value} {r : List Value} (h : W.heap[g]? = some (.cells (a :: b :: (qpart 32 ++ r)).toArray t (0, 0))) : W.rangeAt g 2 (qpart 32) := by
 intro j v hj
 have h1 := Zc h (2 + j)
 rw [h1, show 2 + j = j + 1 + 1 by omega, List.getElem?_toArray, List.getElem?_cons_succ, List.getElem?_cons_succ, List.getElem?_append_left (List.getElem?_eq_some_iff.1 hj).1]
 exact hj
structure EncRow (W : World) (S : Nat → Prop) (g : Nat) (kind : Int) (A : Option Addr) (c : Nat) (st : List Int) (low high : Int) (vo : Value) (out : List Int) : Prop where
 b : W.heap[g]? = some (.cells (enc38 kind (.slice A st.length c) low high vo true) 93 (0, 0))
 s : Kd.R (Kd.int .i64) 3 W 0 S (.slice A st.length c) st
 o : Kd.R (Kd.int .u8) 5 W 0 S vo out
 g : S g
section
variable {W W' : World} {S S' : Nat → Prop} {g : Nat} {kind : Int} {A : Option Addr} {c : Nat} {st : List Int} {low high : Int} {vo : Value} {out : List Int}
theorem EncRow.kept (h : EncRow W S g kind A c st low high vo out) (hk : Mods W W' S') (hne : ∀ k, S k → ¬ S' k) : EncRow W' S g kind A c st low high vo out :=
 ⟨blk_kept h.b hk.kept (hne g h.g), Kd.R_kept h.s hk.kept hne, Kd.R_kept h.o hk.kept hne, h.g⟩
theorem EncRow.below (h : EncRow W S g kind A c st low high vo out) (hb : Below W.heap.size W W') : EncRow W' S g kind A c st low high vo out :=
 ⟨Zd h.b hb, Kd.R_below h.s hb, Kd.R_below h.o hb, h.g⟩
theorem EncRow.drewN (h : EncRow W S g kind A c st low high vo out) (m : Nat) : EncRow (W.drewN m) S g kind A c st low high vo out := h.below (b2' (Below.refl _ _) m)
theorem EncRow.drew (h : EncRow W S g kind A c st low high vo out) : EncRow W.drew S g kind A c st low high vo out := h.below (below_drew (Below.refl _ _))
theorem EncRow.mono (h : EncRow W S g kind A c st low high vo out) (hs : ∀ k, S k → S' k) : EncRow W S' g kind A c st low high vo out :=
 ⟨h.b, Kd.R_mono h.s hs, Kd.R_mono h.o hs, hs g h.g⟩
theorem EncRow.bound (h : EncRow W S g kind A c st low high vo out) : EncRow W (fun k => S k ∧ k < W.heap.size) g kind A c st low high vo out :=
 ⟨h.b, Kd.R_mono (Kd.R_bound h.s) (fun _ hk => ⟨hk.1, hk.2.2.1⟩), Kd.R_mono (Kd.R_bound h.o) (fun _ hk => ⟨hk.1, hk.2.2.1⟩), h.g, blk_lt h.b⟩
theorem EncRow.iv (h : EncRow W S g kind A c st low high vo out) : Iv W g kind A st.length c low high :=
 ⟨(Zc h.b 0).trans rfl, (Zc h.b 1).trans rfl, range_of (r := [.int .u64 low, .int .u64 high, vo, .bool true]) (by rw [qlist]; exact h.b), (Zc h.b 34).trans rfl, (Zc h.b 35).trans rfl, fun i => Zf h.b i⟩
theorem EncRow.real (h : EncRow W S g kind A c st low high vo out) : W.cell? ⟨g, 37, none⟩ = some (.bool true) := (Zc h.b 37).trans rfl
theorem EncRow.vo_ (h : EncRow W S g kind A c st low high vo out) : W.cell? ⟨g, 36, none⟩ = some vo := (Zc h.b 36).trans rfl
theorem EncRow.cell (h : EncRow W S g kind A c st low high vo out) {i : Nat} (hi : i < st.length) : ∃ b, A = some ⟨b, 0, none⟩ ∧ W.cell? ⟨b, i, none⟩ = some (.int .i64 (rd st i)) ∧ W.frozen? ⟨b, i, none⟩ = false ∧ b ≠ g := by
 obtain ⟨b, cap, hv, _, _, cells, hc⟩ := Kd.R_form h.s (by omega)
 injection hv with hA _ hcap
 subst hA hcap
 have h1 := Kd.R_cell (0 : Int) h.s (i : Int) (by omega) (by omega)
 have hne : b ≠ g := blk_ne hc h.b (by decide)
 exact ⟨b, rfl, h1.1, h1.2, hne⟩
theorem EncRow.cut (h : EncRow W S g kind A c st low high vo out) (bit mid : Int) : EncRow (cutW W g bit mid) S g kind A c st (if bit = 1 then low else mid + 1) (if bit = 1 then mid else high) vo out := by
 unfold cutW
 split
 · exact ⟨blk_put h.b 35 _ rfl, Kd.R_set h.s h.b (by decide) _ _, Kd.R_set h.o h.b (by decide) _ _, h.g⟩
 · exact ⟨blk_put h.b 34 _ rfl, Kd.R_set h.s h.b (by decide) _ _, Kd.R_set h.o h.b (by decide) _ _, h.g⟩
theorem cut_kept (bit mid : Int) (hg : S g) : Mods W (cutW W g bit mid) S := by
 unfold cutW
 split
 · exact (Mods.refl W S).setCell (.inl hg) _
 · exact (Mods.refl W S).setCell (.inl hg) _
theorem EncRow.lost (h : EncRow W S g kind A c st low high vo out) (l' h' : Int) : EncRow ((W.setCell ⟨g, 34, none⟩ (.int .u64 l')).setCell ⟨g, 35, none⟩ (.int .u64 h')) S g kind A c st l' h' vo out := by
 have h1 : (W.setCell ⟨g, 34, none⟩ (.int .u64 l')).heap[g]? = some (.cells (enc38 kind (.slice A st.length c) l' high vo true) 93 (0, 0)) := blk_put h.b 34 _ rfl
 exact ⟨blk_put h1 35 _ rfl, Kd.R_set (Kd.R_set h.s h.b (by decide) _ _) h1 (by decide) _ _, Kd.R_set (Kd.R_set h.o h.b (by decide) _ _) h1 (by decide) _ _, h.g⟩
theorem EncRow.setst {b : Nat} (h : EncRow W S g kind (some ⟨b, 0, none⟩) c st low high vo out) {i : Nat} (hi : i < st.length) (x : Int) : EncRow (W.setCell ⟨b, i, none⟩ (.int .i64 x)) S g kind (some ⟨b, 0, none⟩) c (st.set i x) low high vo out := by
 obtain ⟨b', hA, _, _, hne⟩ := h.cell hi
 injection hA with hA
 injection hA with hA _ _
 subst hA
 obtain ⟨cells, hty⟩ := Kd.R_typed h.s b (by simp [Value.ownBlock])
 have hp := (Kd.R_put (enc := Value.int .i64) h.s (i : Int) x).1
 rw [Int.toNat_natCast] at hp
 have hl : (st.set i x).length = st.length := List.length_set
 refine ⟨?_, ?_, Kd.R_set h.o hty (by decide) _ _, h.g⟩
 · rw [hl]
   exact blk_far h.b (Ne.symm hne) _
 · rw [hl]
   exact hp
theorem EncRow.grew {v1 : Value} {out1 : List Int} (h : EncRow W S g kind A c st low high vo out) (hg : W.grownBy W' vo.ownBlock) (hR : Kd.R (Kd.int .u8) 5 W' 0 S v1 out1) : EncRow (W'.setCell ⟨g, 36, none⟩ v1) S g kind A c st low high v1 out1 := by
 have hb : W'.heap[g]? = some (.cells (enc38 kind (.slice A st.length c) low high vo true) 93 (0, 0)) := blk_grown h.b hg (Kd.R_ne h.o h.b (by decide))
 have hs := Kd.R_over h.s h.o (by decide) hg
 exact ⟨blk_put hb 36 _ rfl, Kd.R_set hs hb (by decide) _ _, Kd.R_set hR hb (by decide) _ _, h.g⟩
end
/-- An encoder's state. -/
structure ES where
 kind : Int
 st : List Int
 low : Int
 high : Int
 out : List Int
def EncAt (W : World) (S : Nat → Prop) (g : Nat) (s : ES) : Prop := ∃ A c vo, EncRow W S g s.kind A c s.st s.low s.high vo s.out
/-- An encoder's state that is one. -/
structure ES.ok (s : ES) : Prop where
 m : okModel s.kind s.st
 l : 0 ≤ s.low
 lh : s.low ≤ s.high
 h : s.high ≤ 4294967295
 n : s.low / 16777216 ≠ s.high / 16777216
theorem EncAt.kept {W W' : World} {S S' : Nat → Prop} {g : Nat} {s : ES} (h : EncAt W S g s) (hk : Mods W W' S') (hne : ∀ k, S k → ¬ S' k) : EncAt W' S g s := by
 obtain ⟨A, c, vo, h⟩ := h
 exact ⟨A, c, vo, h.kept hk hne⟩
theorem EncAt.below {W W' : World} {S : Nat → Prop} {g : Nat} {s : ES} (h : EncAt W S g s) (hb : Below W.heap.size W W') : EncAt W' S g s := by
 obtain ⟨A, c, vo, h⟩ := h
 exact ⟨A, c, vo, h.below hb⟩
theorem EncAt.mono {W : World} {S S' : Nat → Prop} {g : Nat} {s : ES} (h : EncAt W S g s) (hs : ∀ k, S k → S' k) : EncAt W S' g s := by
 obtain ⟨A, c, vo, h⟩ := h
 exact ⟨A, c, vo, h.mono hs⟩
theorem EncAt.bound {W : World} {S : Nat → Prop} {g : Nat} {s : ES} (h : EncAt W S g s) : EncAt W (fun k => S k ∧ k < W.heap.size) g s := by
 obtain ⟨A, c, vo, h⟩ := h
 exact ⟨A, c, vo, h.bound⟩
/-- The parts of the interval, and what is left of it. -/
def cutL (low mid bit : Int) : Int := if bit = 1 then low else mid + 1
def cutH (high mid bit : Int) : Int := if bit = 1 then mid else high
def ES.mid (s : ES) (i : Nat) : Int := midOf s.low s.high (likely s.kind (rd s.st i))
def ES.norm (s : ES) (i : Nat) (bit : Int) : List Int × Int × Int := normE 4 (cutL s.low (s.mid i) bit) (cutH s.high (s.mid i) bit)
/-- The state behind a bit. -/
def ES.put (s : ES) (i : Nat) (bit : Int) : ES := ⟨s.kind, s.st.set i (after s.kind (rd s.st i) bit), (s.norm i bit).2.1, (s.norm i bit).2.2, s.out ++ (s.norm i bit).1⟩
theorem ES.at_ {s : ES} (h : s.ok) {i : Nat} (hi : i < s.st.length) : okState s.kind (rd s.st i) := h.m.2.2 _ (rd_mem (by omega) (by omega))
theorem ES.mid_ {s : ES} (h : s.ok) {i : Nat} (hi : i < s.st.length) : s.low ≤ s.mid i ∧ s.mid i < s.high := by
 have hr := likely_range _ _ (ES.at_ h hi)
 have hm := mid_range s.low s.high _ h.lh hr.1 hr.2
 have hlt : s.low < s.high := by
  have := h.lh
  have := h.n
  rcases Int.lt_or_le s.low s.high with c | c
  · exact c
  · exact absurd (by rw [show s.low = s.high by omega]) h.n
 exact ⟨hm.1, hm.2.1 hlt⟩
theorem ES.cut_ {s : ES} (h : s.ok) {i : Nat} (hi : i < s.st.length) {bit : Int} : 0 ≤ cutL s.low (s.mid i) bit ∧ cutL s.low (s.mid i) bit ≤ cutH s.high (s.mid i) bit ∧ cutH s.high (s.mid i) bit ≤ 4294967295 := by
 have hm := ES.mid_ h hi
 have := h.l
 have := h.h
 unfold cutL cutH
 split <;> omega
theorem ES.put_ok {s : ES} (h : s.ok) {i : Nat} (hi : i < s.st.length) {bit : Int} (hb : bit = 0 ∨ bit = 1) : (s.put i bit).ok := by
 obtain ⟨h0, h1, h2⟩ := ES.cut_ h hi (bit := bit)
 have hd := norm_done 4 _ _ h0 h1 h2 (by rw [show (256 : Int) ^ 4 = 4294967296 from rfl]; omega)
 refine ⟨⟨h.m.1, ?_, fun x hx => ?_⟩, hd.2.1, hd.2.2.1, hd.2.2.2, hd.1⟩
 · show (s.st.set i _).length ≤ 8192
   rw [List.length_set]
   exact h.m.2.1
 · rcases List.mem_or_eq_of_mem_set hx with hx | rfl
   · exact h.m.2.2 x hx
   · exact after_ok _ _ _ (ES.at_ h hi) hb
theorem norm_len : ∀ (d : Nat) (l h : Int), (normE d l h).1.length ≤ d
 | 0, _, _ => Nat.le_refl _
 | d + 1, l, h => by
   unfold normE
   split
   · have := norm_len d (l % 16777216 * 256) (h % 16777216 * 256 + 255)
     simp only [List.length_cons]
     omega
   · simp
/-- The error of a Put. -/
def ES.good (s : ES) (i bit : Int) : Bool := decide (0 ≤ i) && decide (i < s.st.length) && (decide (bit = 0) || decide (bit = 1))
def ES.err (s : ES) (i bit : Int) : Int := if s.good i bit = true then 0 else 2
def ES.putI (s : ES) (i bit : Int) : ES := if s.good i bit = true then s.put i.toNat bit else s
theorem ES.putI_ok {s : ES} (h : s.ok) (i bit : Int) : (s.putI i bit).ok := by
 unfold ES.putI
 split
 · rename_i c
   simp only [ES.good, Bool.and_eq_true, Bool.or_eq_true, decide_eq_true_eq] at c
   exact ES.put_ok h (by omega) c.2
 · exact h
theorem ES.putI_len (s : ES) (i bit : Int) : (s.putI i bit).out.length ≤ s.out.length + 4 ∧ s.out.length ≤ (s.putI i bit).out.length ∧ (s.putI i bit).st.length = s.st.length := by
 unfold ES.putI
 split
 · have := norm_len 4 (cutL s.low (s.mid i.toNat) bit) (cutH s.high (s.mid i.toNat) bit)
   have h1 : (s.put i.toNat bit).out.length = s.out.length + (s.norm i.toNat bit).1.length := List.length_append
   have h2 : (s.put i.toNat bit).st.length = s.st.length := List.length_set
   have h3 : (s.norm i.toNat bit).1.length ≤ 4 := this
   omega
 · omega
/-- The highest n bytes of 32 bits. -/
def hiBytes (high : Int) : List Int := [high / 16777216, high / 65536 % 256, high / 256 % 256, high % 256]
/-- How many bytes the end has. -/
def endN (low high : Int) : Nat :=
 if low ≤ high / 4294967296 * 4294967296 then 0 else if low ≤ high / 16777216 * 16777216 then 1 else if low ≤ high / 65536 * 65536 then 2 else if low ≤ high / 256 * 256 then 3 else 4
def endOf (low high : Int) : List Int := (hiBytes high).take (endN low high)
def ES.end_ (s : ES) : List Int := s.out ++ endOf s.low s.high
end Go.Proofs.Ytkfejicdjpffcaa.EncAt
namespace Go.Proofs.Ytkfejicdjpffcaa.Put
open Go Go.RowKit YtkfejicdjpffcaaW PrintWords PrintLast PrintMore Aid HandAid Cod1 Cod2 Cod3 Ytkfejicdjpffcaa.Mod Enc Mods EncAt
theorem cutW_size (W : World) (g : Nat) (bit mid : Int) : (cutW W g bit mid).heap.size = W.heap.size := by
 unfold cutW
 split <;> simp [World.setCell]
/-- What stands when d bytes at the most are still to be lost. -/
structure PutInv (out : List Int) (l1 h1 : Int) (d : Nat) (l h : Int) (out1 : List Int) : Prop where
 l0 : 0 ≤ l
 lh : l ≤ h
 h0 : h ≤ 4294967295
 w : (h - l + 1) * 256 ^ d ≥ 4294967296
 o : out1 ++ (normE d l h).1 = out ++ (normE 4 l1 h1).1
 n : (normE d l h).2 = (normE 4 l1 h1).2
 len : out1.length + d ≤ out.length + 4
theorem PutInv.step {out : List Int} {l1 h1 : Int} {d : Nat} {l h : Int} {out1 : List Int} (H : PutInv out l1 h1 d l h out1) (c : l / 16777216 = h / 16777216) : ∃ d', d = d' + 1 ∧ PutInv out l1 h1 d' (l % 16777216 * 256) (h % 16777216 * 256 + 255) (out1 ++ [l / 16777216]) := by
 have hl0 := H.l0
 have hlh := H.lh
 have hh0 := H.h0
 cases d with
 | zero =>
   have := H.w
   simp only [Int.pow_zero, Int.mul_one] at this
   omega
 | succ d =>
   refine ⟨d, rfl, by omega, by omega, by omega, ?_, ?_, ?_, ?_⟩
   · have hw := H.w
     rw [Int.pow_succ, Int.mul_comm (256 ^ d) 256, ← Int.mul_assoc, show (h - l + 1) * 256 = h % 16777216 * 256 + 255 - l % 16777216 * 256 + 1 by omega] at hw
     exact hw
   · have ho := H.o
     unfold normE at ho
     rw [if_pos c] at ho
     rw [List.append_assoc]
     exact ho
   · have hn := H.n
     conv at hn => lhs; unfold normE
     rw [if_pos c] at hn
     exact hn
   · have := H.len
     simp only [List.length_append, List.length_cons, List.length_nil]
     omega
theorem PutInv.done {out : List Int} {l1 h1 : Int} {d : Nat} {l h : Int} {out1 : List Int} (H : PutInv out l1 h1 d l h out1) (c : ¬ l / 16777216 = h / 16777216) : out1 = out ++ (normE 4 l1 h1).1 ∧ (normE 4 l1 h1).2 = (l, h) := by
 have hn : normE d l h = ([], l, h) := by
  cases d with
  | zero => rfl
  | succ d =>
    unfold normE
    rw [if_neg c]
 have ho := H.o
 have hn2 := H.n
 rw [hn] at ho hn2
 simp only [List.append_nil] at ho
 exact ⟨ho, hn2.symm⟩
/-- What a good Put leaves. -/
def PutPost (w : World) (S : Nat → Prop) (g : Nat) (kind : Int) (st : List Int) (low high mid : Int) (out : List Int) (i : Nat) (bit : Int) (e : Ending) (w' : World) : Prop :=
 e = .returned (.int .i64 0) ∧ (∃ l h out1, (∃ A c vo, EncRow w' (fun k => S k ∨ w.heap.size ≤ k) g kind A c (st.set i (after kind (rd st i) bit)) l h vo out1) ∧ out1 = out ++ (normE 4 (cutL low mid bit) (cutH high mid bit)).1 ∧ (normE 4 (cutL low mid bit) (cutH high mid bit)).2 = (l, h)) ∧ Mods w w' S
set_option maxHeartbeats 4000000 in
set_option maxRecDepth 100000 in
theorem put_row0 (w : World) (S : Nat → Prop) (g : Nat) (kind : Int) (b c : Nat) (st : List Int) (low high mid : Int) (vo : Value) (out : List Int) (i : Nat) (hE : EncRow w S g kind (some ⟨b, 0, none⟩) c st low high vo out) (hi : i < st.length) (hn : st.length ≤ 8192) (hs : okState kind (rd st i)) (hl0 : 0 ≤ low) (hlh : low ≤ high) (hh : high ≤ 4294967295) (hmid : midOf low high (likely kind (rd st i)) = mid) (hm0 : 0 ≤ mid) (hm1 : mid ≤ 4294967295) (hI0 : PutInv out (cutL low mid 0) (cutH high mid 0) 4 (cutL low mid 0) (cutH high mid 0) out) (hlen : out.length ≤ 1099511627776) :
 Calls Try.prog 28 #[.pointer (some ⟨g, 0, none⟩), .int .i64 i, .int .i64 0] w (PutPost w S g kind st low high mid out i 0) := by
 have HE := Za hE
 have hSg : S g := hE.g
 have h2 := hE.real
 have k1 := hE.iv.s
 have HMID := Za (hmid ▸ mid_calls w.drew g kind (some ⟨b, 0, none⟩) st.length c low high i (rd st i) hE.drew.iv ⟨_, rfl, by obtain ⟨b', hA, hc, _⟩ := hE.drew.cell hi; cases hA; rw [add_plain]; exact hc⟩ hi hn hs hl0 hlh hh)
 have HI := Za hI0
 clear hE hmid hI0
 have hi1 : (0 : Int) ≤ (i : Int) := by omega
 have hi2 : (i : Int) < (st.length : Int) := by omega
 go_enter Try.func28, Try.ntmps28
 go_wp2_with (go_at_call 70; refine (enc_none _ _ _ h2).mono ?_; rintro e w' ⟨rfl, rfl⟩)
 refine start_ (n := 11) (S := fun w' => True) (ds := []) (B' 11 0) (by kernel_rfl) rfl rfl trivial (fun hHeld => ?_)
 refine u' 0 32 (B' 11 1) ?_ rfl rfl ?_ ?_ ?_ ?_; rotate_left; (intro w'; go_simp; with_reducible rfl); rotate_left; (simp only [Act.put, p1', p2', p3', w1', w2']; rfl)
 refine u' 1 33 (B' 11 3) ?_ rfl rfl ?_ ?_ ?_ ?_; rotate_left; (intro w'; go_simp; with_reducible rfl); rotate_left; (simp only [Act.put, p1', p2', p3', w1', w2']; rfl)
 refine u' 2 34 (B' 11 7) ?_ rfl rfl ?_ ?_ ?_ ?_; rotate_left; (intro w'; go_simp; with_reducible rfl); rotate_left; (simp only [Act.put, p1', p2', p3', w1', w2']; rfl)
 refine u' 3 35 (B' 11 15) ?_ rfl rfl ?_ ?_ ?_ ?_; rotate_left; (intro w'; go_simp; with_reducible rfl); rotate_left; (simp only [Act.put, p1', p2', p3', w1', w2']; rfl)
 refine u' 4 36 (B' 11 31) ?_ rfl rfl ?_ ?_ ?_ ?_; rotate_left; (intro w'; go_simp; with_reducible rfl); rotate_left; (simp only [Act.put, p1', p2', p3', w1', w2']; rfl)
 refine u' 5 37 (B' 11 63) ?_ rfl rfl ?_ ?_ ?_ ?_; rotate_left; (intro w'; go_simp; with_reducible rfl); rotate_left; (simp only [Act.put, p1', p2', p3', w1', w2']; rfl)
 refine u' 6 38 (B' 11 127) ?_ rfl rfl ?_ ?_ ?_ ?_; rotate_left; (intro w'; go_simp; with_reducible rfl); rotate_left; (simp only [Act.put, p1', p2', p3', w1', w2']; rfl)
 refine u' 7 39 (B' 11 255) ?_ rfl rfl ?_ ?_ ?_ ?_; rotate_left; (intro w'; go_simp; with_reducible rfl); rotate_left; (simp only [Act.put, p1', p2', p3', w1', w2']; rfl)
 refine u' 8 40 (B' 11 511) ?_ rfl rfl ?_ ?_ ?_ ?_; rotate_left; (intro w'; go_simp; with_reducible rfl); rotate_left; (simp only [Act.put, p1', p2', p3', w1', w2']; rfl)
 refine one_ (i := 9) (N := some 41) (B' 11 1023) rfl rfl (by kernel_rfl) (by decide) (fun K hK => ?_)
 refine goes_ Try.func72 (by kernel_rfl) rfl #[.pointer (some ⟨g, 0, none⟩), .int .i64 i] (by rfl) rfl rfl (by simp only [List.map_toArray, List.map_cons, List.map_nil]; rfl) ?_
 with_reducible refine (HMID.out).mono ?_
 rintro e w3 ⟨rfl, hb3⟩
 refine ⟨_, rfl, ?_⟩
 have HE3 := Za (HE.out.drew.below hb3)
 have HK3 := Za ((Mods.refl w S).below (below_undrew1 hb3))
 clear hb3
 have hT := take_calls w3 g kind st.length c low high i (rd st i) mid 0 ⟨b, 0, none⟩ HE3.out.iv
 have HT := Za hT
 clear hT
 refine hK.out _ _ trivial (fun hHeld => ?_)
 clear hK K
 refine n' ?_ ?_ ?_; rotate_left; (show Act.put _ (some 41) _ = _; simp only [Act.put, p1', p2', p3', w1', w2']; rfl)
 refine one_ (i := 10) (N := some 42) (B' 11 2047) rfl rfl (by kernel_rfl) (by decide) (fun K hK => ?_)
 obtain ⟨b3, hA3, hc3, hf3, hne3⟩ := HE3.out.cell hi
 cases hA3
 refine goes_ Try.func71 (by kernel_rfl) rfl #[.pointer (some ⟨g, 0, none⟩), .int .i64 i, .int .i64 0, .int .u64 mid] (by rfl) rfl rfl (by simp only [List.map_toArray, List.map_cons, List.map_nil]; rfl) ?_
 with_reducible refine (HT.out (by rw [add_plain]; exact hc3) (by rw [add_plain]; exact hf3) hne3 hi hn hs (by decide) hm0 hm1).mono ?_
 rintro e w4 ⟨rfl, w4', hb4, hw4⟩
 refine ⟨_, rfl, ?_⟩
 rw [add_plain] at hw4
 have HE4 := Za (show EncRow w4 S g kind (some ⟨b, 0, none⟩) c (st.set i (after kind (rd st i) 0)) (cutL low mid 0) (cutH high mid 0) vo out from hw4 ▸ (((HE3.out.cut 0 mid).below (by rw [cutW_size]; exact hb4)).setst hi _))
 have hsb : S b := HE3.out.s.1 b (by simp [Value.ownBlock])
 have HK4 := Za (show Mods w w4 S from hw4 ▸ (((HK3.out.then_ (cut_kept 0 mid HE3.out.g) (fun _ h => .inl h)).below (by rw [cutW_size]; exact hb4)).setCell (.inl hsb) _))
 clear hb4 hw4 hc3 hf3 hne3
 refine hK.out _ _ trivial (fun hHeld => ?_)
 clear hK K
 refine n' ?_ ?_ ?_; rotate_left; (show Act.put _ (some 42) _ = _; simp only [Act.put, p1', p2', p3', w1', w2']; rfl)
 refine done_ (by kernel_rfl) ?_
 go_wp2
 obtain ⟨S', hS'⟩ : ∃ S' : Nat → Prop, S' = fun k => S k ∨ w.heap.size ≤ k := ⟨_, rfl⟩
 have HS' : ∀ k, S' k → S k ∨ w.heap.size ≤ k := fun k hk => by rw [hS'] at hk; exact hk
 have HSf : ∀ k, S k ∨ w.heap.size ≤ k → S' k := fun k hk => by rw [hS']; exact hk
 obtain ⟨st', hst'⟩ : ∃ st' : List Int, st' = st.set i (after kind (rd st i) 0) := ⟨_, rfl⟩
 have HST := Za hst'
 have HSS := Za hS'
 rw [← hst'] at HE4
 clear hst' hS'
 have HS2 := Za HS'
 have HS3 := Za HSf
 clear HS' HSf
 clear h2 k1
 go_loopg [] 4 (fun d wr => ∃ (l h : Int) (out1 : List Int), Aside0 (∃ A c vo, EncRow wr S' g kind A c st' l h vo out1) ∧ Aside0 (Mods w wr S) ∧ Aside0 (PutInv out (cutL low mid 0) (cutH high mid 0) d l h out1))
 case atStart => exact ⟨_, _, out, ⟨_, _, _, HE4.out.mono (fun k hk => HS3.out k (.inl hk))⟩, HK4, HI⟩
 clear HE4 HK4 HI
 case round =>
  obtain ⟨l, h, out1, ⟨A1, c1, vo1, hE5⟩, HK5, HP⟩ := hrel
  have HE5 := Za hE5
  clear hE5
  have hp0 := HP.out.l0
  have hp1 := HP.out.lh
  have hp2 := HP.out.h0
  have hs := same_calls wr g l h HE5.out.iv.l HE5.out.iv.h hp0 (by omega)
  by_cases cc : l / 16777216 = h / 16777216
  · rw [decide_eq_true cc] at hs
    have HSA := Za hs
    clear hs
    obtain ⟨d', hd', hP'⟩ := HP.out.step cc
    have HP' := Za hP'
    have hlen1 : out1.length ≤ 1099511627780 := by have := HP.out.len; omega
    have HD := Za hd'
    have HCC := Za cc
    clear hd' hP' cc
    go_wp2_with (go_at_call 73; refine HSA.out.mono ?_; rintro e w6 ⟨rfl, m6, hw6⟩; have HE6 := Za (show EncRow w6 S' g kind A1 c1 st' l h vo1 out1 from hw6 ▸ HE5.out.drewN m6); have HK6 := Za (show Mods w w6 S from hw6 ▸ HK5.out.drewN m6); clear hw6)
    have HLO := Za (lose_calls w6.drew g l h HE6.out.drew.iv.l HE6.out.drew.iv.h HE6.out.drew.iv.f hp0 (by omega) (by omega) hp2)
    have HS' := HS2.out
    have p0 := HE6.out.vo_
    clear HSA HE5 HK5
    refine start_ (n := 14) (S := fun w' => w'.cell? ⟨g, 36, none⟩ = some vo1) (ds := [13]) (B' 14 0) (by kernel_rfl) rfl rfl (p0) (fun hHeld => ?_)
    refine u' 0 47 (B' 14 1) ?_ rfl rfl ?_ ?_ ?_ ?_; rotate_left; (intro w'; go_simp; with_reducible rfl); rotate_left; (simp only [Act.put, p1', p2', p3', w1', w2']; rfl)
    refine u' 1 48 (B' 14 3) ?_ rfl rfl ?_ ?_ ?_ ?_; rotate_left; (intro w'; go_simp; with_reducible rfl); rotate_left; (simp only [Act.put, p1', p2', p3', w1', w2']; rfl)
    refine u' 2 49 (B' 14 7) ?_ rfl rfl ?_ ?_ ?_ ?_; rotate_left; (intro w'; go_simp; with_reducible rfl); rotate_left; (simp only [Act.put, p1', p2', p3', w1', w2']; rfl)
    refine u' 3 50 (B' 14 15) ?_ rfl rfl ?_ ?_ ?_ ?_; rotate_left; (intro w'; go_simp; with_reducible rfl); rotate_left; (simp only [Act.put, p1', p2', p3', w1', w2']; rfl)
    refine u' 5 52 (B' 14 47) ?_ rfl rfl ?_ ?_ ?_ ?_; rotate_left; (intro w'; go_simp; with_reducible rfl); rotate_left; (simp only [Act.put, p1', p2', p3', w1', w2']; rfl)
    refine u' 6 53 (B' 14 111) ?_ rfl rfl ?_ ?_ ?_ ?_; rotate_left; (intro w'; go_simp; with_reducible rfl); rotate_left; (simp only [Act.put, p1', p2', p3', w1', w2']; rfl)
    refine u' 7 54 (B' 14 239) ?_ rfl rfl ?_ ?_ ?_ ?_; rotate_left; (intro w'; go_simp; with_reducible rfl); rotate_left; (simp only [Act.put, p1', p2', p3', w1', w2']; rfl)
    refine t' 4 51 (B' 14 255) ?_ rfl rfl ?_ hHeld ?_ ?_ ?_; rotate_left; (intro w' s0; go_simp; with_reducible rfl); rotate_left; (simp only [Act.put, p1', p2', p3', w1', w2']; rfl)
    refine one_ (i := 8) (N := some 55) (B' 14 511) rfl rfl (by kernel_rfl) (by decide) (fun K hK => ?_)
    refine goes_ Try.func74 (by kernel_rfl) rfl #[.pointer (some ⟨g, 0, none⟩)] (by rfl) rfl rfl (by simp only [List.map_toArray, List.map_cons, List.map_nil]; rfl) ?_
    with_reducible refine (HLO.out).mono ?_
    rintro e w7 ⟨rfl, hw7⟩
    refine ⟨_, rfl, ?_⟩
    have HE7 := Za (show EncRow w7 S' g kind A1 c1 st' (l % 16777216 * 256) (h % 16777216 * 256 + 255) vo1 out1 from hw7 ▸ (HE6.out.drew.lost _ _))
    have HK7 := Za (show Mods w w7 S from hw7 ▸ ((HK6.out.drew.setCell (.inl hSg) _).setCell (.inl hSg) _))
    clear hw7
    have t0 := HE7.out.vo_
    refine hK.out _ _ (t0) (fun hHeld => ?_)
    clear hK K
    refine n' ?_ ?_ ?_; rotate_left; (show Act.put _ (some 55) _ = _; simp only [Act.put, p1', p2', p3', w1', w2']; rfl)
    refine one_ (i := 9) (N := some 56) (B' 14 1023) rfl rfl (by kernel_rfl) (by decide) (fun K hK => ?_)
    refine value_ (w1 := ?_) (v := ?_) (by rfl) rfl ?_ ?_
    rotate_left 2
    · go_simp
      constructor
      · rfl
      · rfl
    refine hK.out _ _ (pw_cell_below (b1' (Below.refl _ _) _) t0) (fun hHeld => ?_)
    clear hK K
    refine n' ?_ ?_ ?_; rotate_left; (show Act.put _ (some 56) _ = _; simp only [Act.put, p1', p2', p3', w1', w2']; rfl)
    refine one_ (i := 10) (N := some 57) (B' 14 2047) rfl rfl (by kernel_rfl) (by decide) (fun K hK => ?_)
    refine Kd.R_append_step (Kd.int .u8) 0 (by rfl) (.tmp 51) (.tmp 56) 29 5 (.int .u8 0) 1 rfl Try.underlying29 infoU8 rfl (by decide) (by decide) vo1 out1 (l / 16777216) [.int .u8 (l / 16777216)] S' (fun _ => False) rfl rfl rfl (fun _ h => h.elim) (fun k hk => HS3.out k (.inr (Nat.le_trans HK7.out.size hk))) HE7.out.o (Below.refl 0 _) (Nat.zero_le _) (by omega) ?_
    intro v8 w8 hR8 _ hg8 hat8
    obtain ⟨A8, c8, rfl⟩ := Kd.R_slice hR8
    rw [List.length_append, List.length_cons, List.length_nil, Nat.zero_add] at hR8
    have hne8 := Kd.R_ne HE7.out.o HE7.out.b (by decide)
    have t1 : w8.cell? ⟨g, 36, none⟩ = some vo1 := hg8.cell t0 hne8
    have z8 : w8.frozen? ⟨g, 36, none⟩ = false := Zf (blk_grown HE7.out.b hg8 hne8) 36
    have HE8 := Za (HE7.out.grew hg8 hR8)
    have HK8 := Za ((HK7.out.of_grown hg8 (fun k hk => HS' k (HE7.out.o.1 k hk))).setCell (p := ⟨g, 36, none⟩) (.inl hSg) (.slice A8 (out1.length + 1) c8))
    clear hR8 hg8 hat8 hne8 HK7
    refine hK.out _ _ (t1) (fun hHeld => ?_)
    clear hK K
    refine n' ?_ ?_ ?_; rotate_left; (show Act.put _ (some 57) _ = _; simp only [Act.put, p1', p2', p3', w1', w2']; rfl)
    refine u' 11 58 (B' 14 4095) ?_ rfl rfl ?_ ?_ ?_ ?_; rotate_left; (intro w'; go_simp; with_reducible rfl); rotate_left; (simp only [Act.put, p1', p2', p3', w1', w2']; rfl)
    refine u' 12 59 (B' 14 8191) ?_ rfl rfl ?_ ?_ ?_ ?_; rotate_left; (intro w'; go_simp; with_reducible rfl); rotate_left; (simp only [Act.put, p1', p2', p3', w1', w2']; rfl)
    refine last_ (i := 13) (N := none) (B' 14 16383) rfl rfl (by kernel_rfl) (by decide) (fun K hK => ?_)
    refine skip_ (w1 := ?_) (by rfl) rfl ?_ ?_
    rotate_left
    · go_simp
      rfl
    refine hK.out _ _ ?_
    clear hK K
    refine done_ (by kernel_rfl) ?_
    go_wp2
    go_roundg d'
    case measure => have := HD.out; omega
    case rel => exact ⟨_, _, _, ⟨_, _, _, HE8.out⟩, HK8, HP'⟩
  · rw [decide_eq_false cc] at hs
    have HSA := Za hs
    clear hs
    have HCC := Za cc
    clear cc
    go_wp2_with (go_at_call 73; refine HSA.out.mono ?_; rintro e w6 ⟨rfl, m6, hw6⟩; have HE6 := Za (show EncRow w6 S' g kind A1 c1 st' l h vo1 out1 from hw6 ▸ HE5.out.drewN m6); have HK6 := Za (show Mods w w6 S from hw6 ▸ HK5.out.drewN m6); clear hw6)
    go_ret
    have hd := HP.out.done HCC.out
    have hE6 := HE6.out
    rw [HSS.out, HST.out] at hE6
    exact ⟨rfl, ⟨l, h, out1, ⟨_, _, _, hE6⟩, hd.1, hd.2⟩, HK6.out⟩
set_option maxHeartbeats 4000000 in
set_option maxRecDepth 100000 in
theorem put_row1 (w : World) (S : Nat → Prop) (g : Nat) (kind : Int) (b c : Nat) (st : List Int) (low high mid : Int) (vo : Value) (out : List Int) (i : Nat) (hE : EncRow w S g kind (some ⟨b, 0, none⟩) c st low high vo out) (hi : i < st.length) (hn : st.length ≤ 8192) (hs : okState kind (rd st i)) (hl0 : 0 ≤ low) (hlh : low ≤ high) (hh : high ≤ 4294967295) (hmid : midOf low high (likely kind (rd st i)) = mid) (hm0 : 0 ≤ mid) (hm1 : mid ≤ 4294967295) (hI0 : PutInv out (cutL low mid 1) (cutH high mid 1) 4 (cutL low mid 1) (cutH high mid 1) out) (hlen : out.length ≤ 1099511627776) :
 Calls Try.prog 28 #[.pointer (some ⟨g, 0, none⟩), .int .i64 i, .int .i64 1] w (PutPost w S g kind st low high mid out i 1) := by
 have HE := Za hE
 have hSg : S g := hE.g
 have h2 := hE.real
 have k1 := hE.iv.s
 have HMID := Za (hmid ▸ mid_calls w.drew g kind (some ⟨b, 0, none⟩) st.length c low high i (rd st i) hE.drew.iv ⟨_, rfl, by obtain ⟨b', hA, hc, _⟩ := hE.drew.cell hi; cases hA; rw [add_plain]; exact hc⟩ hi hn hs hl0 hlh hh)
 have HI := Za hI0
 clear hE hmid hI0
 have hi1 : (0 : Int) ≤ (i : Int) := by omega
 have hi2 : (i : Int) < (st.length : Int) := by omega
 go_enter Try.func28, Try.ntmps28
 go_wp2_with (go_at_call 70; refine (enc_none _ _ _ h2).mono ?_; rintro e w' ⟨rfl, rfl⟩)
 refine start_ (n := 11) (S := fun w' => True) (ds := []) (B' 11 0) (by kernel_rfl) rfl rfl trivial (fun hHeld => ?_)
 refine u' 0 32 (B' 11 1) ?_ rfl rfl ?_ ?_ ?_ ?_; rotate_left; (intro w'; go_simp; with_reducible rfl); rotate_left; (simp only [Act.put, p1', p2', p3', w1', w2']; rfl)
 refine u' 1 33 (B' 11 3) ?_ rfl rfl ?_ ?_ ?_ ?_; rotate_left; (intro w'; go_simp; with_reducible rfl); rotate_left; (simp only [Act.put, p1', p2', p3', w1', w2']; rfl)
 refine u' 2 34 (B' 11 7) ?_ rfl rfl ?_ ?_ ?_ ?_; rotate_left; (intro w'; go_simp; with_reducible rfl); rotate_left; (simp only [Act.put, p1', p2', p3', w1', w2']; rfl)
 refine u' 3 35 (B' 11 15) ?_ rfl rfl ?_ ?_ ?_ ?_; rotate_left; (intro w'; go_simp; with_reducible rfl); rotate_left; (simp only [Act.put, p1', p2', p3', w1', w2']; rfl)
 refine u' 4 36 (B' 11 31) ?_ rfl rfl ?_ ?_ ?_ ?_; rotate_left; (intro w'; go_simp; with_reducible rfl); rotate_left; (simp only [Act.put, p1', p2', p3', w1', w2']; rfl)
 refine u' 5 37 (B' 11 63) ?_ rfl rfl ?_ ?_ ?_ ?_; rotate_left; (intro w'; go_simp; with_reducible rfl); rotate_left; (simp only [Act.put, p1', p2', p3', w1', w2']; rfl)
 refine u' 6 38 (B' 11 127) ?_ rfl rfl ?_ ?_ ?_ ?_; rotate_left; (intro w'; go_simp; with_reducible rfl); rotate_left; (simp only [Act.put, p1', p2', p3', w1', w2']; rfl)
 refine u' 7 39 (B' 11 255) ?_ rfl rfl ?_ ?_ ?_ ?_; rotate_left; (intro w'; go_simp; with_reducible rfl); rotate_left; (simp only [Act.put, p1', p2', p3', w1', w2']; rfl)
 refine u' 8 40 (B' 11 511) ?_ rfl rfl ?_ ?_ ?_ ?_; rotate_left; (intro w'; go_simp; with_reducible rfl); rotate_left; (simp only [Act.put, p1', p2', p3', w1', w2']; rfl)
 refine one_ (i := 9) (N := some 41) (B' 11 1023) rfl rfl (by kernel_rfl) (by decide) (fun K hK => ?_)
 refine goes_ Try.func72 (by kernel_rfl) rfl #[.pointer (some ⟨g, 0, none⟩), .int .i64 i] (by rfl) rfl rfl (by simp only [List.map_toArray, List.map_cons, List.map_nil]; rfl) ?_
 with_reducible refine (HMID.out).mono ?_
 rintro e w3 ⟨rfl, hb3⟩
 refine ⟨_, rfl, ?_⟩
 have HE3 := Za (HE.out.drew.below hb3)
 have HK3 := Za ((Mods.refl w S).below (below_undrew1 hb3))
 clear hb3
 have hT := take_calls w3 g kind st.length c low high i (rd st i) mid 1 ⟨b, 0, none⟩ HE3.out.iv
 have HT := Za hT
 clear hT
 refine hK.out _ _ trivial (fun hHeld => ?_)
 clear hK K
 refine n' ?_ ?_ ?_; rotate_left; (show Act.put _ (some 41) _ = _; simp only [Act.put, p1', p2', p3', w1', w2']; rfl)
 refine one_ (i := 10) (N := some 42) (B' 11 2047) rfl rfl (by kernel_rfl) (by decide) (fun K hK => ?_)
 obtain ⟨b3, hA3, hc3, hf3, hne3⟩ := HE3.out.cell hi
 cases hA3
 refine goes_ Try.func71 (by kernel_rfl) rfl #[.pointer (some ⟨g, 0, none⟩), .int .i64 i, .int .i64 1, .int .u64 mid] (by rfl) rfl rfl (by simp only [List.map_toArray, List.map_cons, List.map_nil]; rfl) ?_
 with_reducible refine (HT.out (by rw [add_plain]; exact hc3) (by rw [add_plain]; exact hf3) hne3 hi hn hs (by decide) hm0 hm1).mono ?_
 rintro e w4 ⟨rfl, w4', hb4, hw4⟩
 refine ⟨_, rfl, ?_⟩
 rw [add_plain] at hw4
 have HE4 := Za (show EncRow w4 S g kind (some ⟨b, 0, none⟩) c (st.set i (after kind (rd st i) 1)) (cutL low mid 1) (cutH high mid 1) vo out from hw4 ▸ (((HE3.out.cut 1 mid).below (by rw [cutW_size]; exact hb4)).setst hi _))
 have hsb : S b := HE3.out.s.1 b (by simp [Value.ownBlock])
 have HK4 := Za (show Mods w w4 S from hw4 ▸ (((HK3.out.then_ (cut_kept 1 mid HE3.out.g) (fun _ h => .inl h)).below (by rw [cutW_size]; exact hb4)).setCell (.inl hsb) _))
 clear hb4 hw4 hc3 hf3 hne3
 refine hK.out _ _ trivial (fun hHeld => ?_)
 clear hK K
 refine n' ?_ ?_ ?_; rotate_left; (show Act.put _ (some 42) _ = _; simp only [Act.put, p1', p2', p3', w1', w2']; rfl)
 refine done_ (by kernel_rfl) ?_
 go_wp2
 obtain ⟨S', hS'⟩ : ∃ S' : Nat → Prop, S' = fun k => S k ∨ w.heap.size ≤ k := ⟨_, rfl⟩
 have HS' : ∀ k, S' k → S k ∨ w.heap.size ≤ k := fun k hk => by rw [hS'] at hk; exact hk
 have HSf : ∀ k, S k ∨ w.heap.size ≤ k → S' k := fun k hk => by rw [hS']; exact hk
 obtain ⟨st', hst'⟩ : ∃ st' : List Int, st' = st.set i (after kind (rd st i) 1) := ⟨_, rfl⟩
 have HST := Za hst'
 have HSS := Za hS'
 rw [← hst'] at HE4
 clear hst' hS'
 have HS2 := Za HS'
 have HS3 := Za HSf
 clear HS' HSf
 clear h2 k1
 go_loopg [] 4 (fun d wr => ∃ (l h : Int) (out1 : List Int), Aside0 (∃ A c vo, EncRow wr S' g kind A c st' l h vo out1) ∧ Aside0 (Mods w wr S) ∧ Aside0 (PutInv out (cutL low mid 1) (cutH high mid 1) d l h out1))
 case atStart => exact ⟨_, _, out, ⟨_, _, _, HE4.out.mono (fun k hk => HS3.out k (.inl hk))⟩, HK4, HI⟩
 clear HE4 HK4 HI
 case round =>
  obtain ⟨l, h, out1, ⟨A1, c1, vo1, hE5⟩, HK5, HP⟩ := hrel
  have HE5 := Za hE5
  clear hE5
  have hp0 := HP.out.l0
  have hp1 := HP.out.lh
  have hp2 := HP.out.h0
  have hs := same_calls wr g l h HE5.out.iv.l HE5.out.iv.h hp0 (by omega)
  by_cases cc : l / 16777216 = h / 16777216
  · rw [decide_eq_true cc] at hs
    have HSA := Za hs
    clear hs
    obtain ⟨d', hd', hP'⟩ := HP.out.step cc
    have HP' := Za hP'
    have hlen1 : out1.length ≤ 1099511627780 := by have := HP.out.len; omega
    have HD := Za hd'
    have HCC := Za cc
    clear hd' hP' cc
    go_wp2_with (go_at_call 73; refine HSA.out.mono ?_; rintro e w6 ⟨rfl, m6, hw6⟩; have HE6 := Za (show EncRow w6 S' g kind A1 c1 st' l h vo1 out1 from hw6 ▸ HE5.out.drewN m6); have HK6 := Za (show Mods w w6 S from hw6 ▸ HK5.out.drewN m6); clear hw6)
    have HLO := Za (lose_calls w6.drew g l h HE6.out.drew.iv.l HE6.out.drew.iv.h HE6.out.drew.iv.f hp0 (by omega) (by omega) hp2)
    have HS' := HS2.out
    have p0 := HE6.out.vo_
    clear HSA HE5 HK5
    refine start_ (n := 14) (S := fun w' => w'.cell? ⟨g, 36, none⟩ = some vo1) (ds := [13]) (B' 14 0) (by kernel_rfl) rfl rfl (p0) (fun hHeld => ?_)
    refine u' 0 47 (B' 14 1) ?_ rfl rfl ?_ ?_ ?_ ?_; rotate_left; (intro w'; go_simp; with_reducible rfl); rotate_left; (simp only [Act.put, p1', p2', p3', w1', w2']; rfl)
    refine u' 1 48 (B' 14 3) ?_ rfl rfl ?_ ?_ ?_ ?_; rotate_left; (intro w'; go_simp; with_reducible rfl); rotate_left; (simp only [Act.put, p1', p2', p3', w1', w2']; rfl)
    refine u' 2 49 (B' 14 7) ?_ rfl rfl ?_ ?_ ?_ ?_; rotate_left; (intro w'; go_simp; with_reducible rfl); rotate_left; (simp only [Act.put, p1', p2', p3', w1', w2']; rfl)
    refine u' 3 50 (B' 14 15) ?_ rfl rfl ?_ ?_ ?_ ?_; rotate_left; (intro w'; go_simp; with_reducible rfl); rotate_left; (simp only [Act.put, p1', p2', p3', w1', w2']; rfl)
    refine u' 5 52 (B' 14 47) ?_ rfl rfl ?_ ?_ ?_ ?_; rotate_left; (intro w'; go_simp; with_reducible rfl); rotate_left; (simp only [Act.put, p1', p2', p3', w1', w2']; rfl)
    refine u' 6 53 (B' 14 111) ?_ rfl rfl ?_ ?_ ?_ ?_; rotate_left; (intro w'; go_simp; with_reducible rfl); rotate_left; (simp only [Act.put, p1', p2', p3', w1', w2']; rfl)
    refine u' 7 54 (B' 14 239) ?_ rfl rfl ?_ ?_ ?_ ?_; rotate_left; (intro w'; go_simp; with_reducible rfl); rotate_left; (simp only [Act.put, p1', p2', p3', w1', w2']; rfl)
    refine t' 4 51 (B' 14 255) ?_ rfl rfl ?_ hHeld ?_ ?_ ?_; rotate_left; (intro w' s0; go_simp; with_reducible rfl); rotate_left; (simp only [Act.put, p1', p2', p3', w1', w2']; rfl)
    refine one_ (i := 8) (N := some 55) (B' 14 511) rfl rfl (by kernel_rfl) (by decide) (fun K hK => ?_)
    refine goes_ Try.func74 (by kernel_rfl) rfl #[.pointer (some ⟨g, 0, none⟩)] (by rfl) rfl rfl (by simp only [List.map_toArray, List.map_cons, List.map_nil]; rfl) ?_
    with_reducible refine (HLO.out).mono ?_
    rintro e w7 ⟨rfl, hw7⟩
    refine ⟨_, rfl, ?_⟩
    have HE7 := Za (show EncRow w7 S' g kind A1 c1 st' (l % 16777216 * 256) (h % 16777216 * 256 + 255) vo1 out1 from hw7 ▸ (HE6.out.drew.lost _ _))
    have HK7 := Za (show Mods w w7 S from hw7 ▸ ((HK6.out.drew.setCell (.inl hSg) _).setCell (.inl hSg) _))
    clear hw7
    have t0 := HE7.out.vo_
    refine hK.out _ _ (t0) (fun hHeld => ?_)
    clear hK K
    refine n' ?_ ?_ ?_; rotate_left; (show Act.put _ (some 55) _ = _; simp only [Act.put, p1', p2', p3', w1', w2']; rfl)
    refine one_ (i := 9) (N := some 56) (B' 14 1023) rfl rfl (by kernel_rfl) (by decide) (fun K hK => ?_)
    refine value_ (w1 := ?_) (v := ?_) (by rfl) rfl ?_ ?_
    rotate_left 2
    · go_simp
      constructor
      · rfl
      · rfl
    refine hK.out _ _ (pw_cell_below (b1' (Below.refl _ _) _) t0) (fun hHeld => ?_)
    clear hK K
    refine n' ?_ ?_ ?_; rotate_left; (show Act.put _ (some 56) _ = _; simp only [Act.put, p1', p2', p3', w1', w2']; rfl)
    refine one_ (i := 10) (N := some 57) (B' 14 2047) rfl rfl (by kernel_rfl) (by decide) (fun K hK => ?_)
    refine Kd.R_append_step (Kd.int .u8) 0 (by rfl) (.tmp 51) (.tmp 56) 29 5 (.int .u8 0) 1 rfl Try.underlying29 infoU8 rfl (by decide) (by decide) vo1 out1 (l / 16777216) [.int .u8 (l / 16777216)] S' (fun _ => False) rfl rfl rfl (fun _ h => h.elim) (fun k hk => HS3.out k (.inr (Nat.le_trans HK7.out.size hk))) HE7.out.o (Below.refl 0 _) (Nat.zero_le _) (by omega) ?_
    intro v8 w8 hR8 _ hg8 hat8
    obtain ⟨A8, c8, rfl⟩ := Kd.R_slice hR8
    rw [List.length_append, List.length_cons, List.length_nil, Nat.zero_add] at hR8
    have hne8 := Kd.R_ne HE7.out.o HE7.out.b (by decide)
    have t1 : w8.cell? ⟨g, 36, none⟩ = some vo1 := hg8.cell t0 hne8
    have z8 : w8.frozen? ⟨g, 36, none⟩ = false := Zf (blk_grown HE7.out.b hg8 hne8) 36
    have HE8 := Za (HE7.out.grew hg8 hR8)
    have HK8 := Za ((HK7.out.of_grown hg8 (fun k hk => HS' k (HE7.out.o.1 k hk))).setCell (p := ⟨g, 36, none⟩) (.inl hSg) (.slice A8 (out1.length + 1) c8))
    clear hR8 hg8 hat8 hne8 HK7
    refine hK.out _ _ (t1) (fun hHeld => ?_)
    clear hK K
    refine n' ?_ ?_ ?_; rotate_left; (show Act.put _ (some 57) _ = _; simp only [Act.put, p1', p2', p3', w1', w2']; rfl)
    refine u' 11 58 (B' 14 4095) ?_ rfl rfl ?_ ?_ ?_ ?_; rotate_left; (intro w'; go_simp; with_reducible rfl); rotate_left; (simp only [Act.put, p1', p2', p3', w1', w2']; rfl)
    refine u' 12 59 (B' 14 8191) ?_ rfl rfl ?_ ?_ ?_ ?_; rotate_left; (intro w'; go_simp; with_reducible rfl); rotate_left; (simp only [Act.put, p1', p2', p3', w1', w2']; rfl)
    refine last_ (i := 13) (N := none) (B' 14 16383) rfl rfl (by kernel_rfl) (by decide) (fun K hK => ?_)
    refine skip_ (w1 := ?_) (by rfl) rfl ?_ ?_
    rotate_left
    · go_simp
      rfl
    refine hK.out _ _ ?_
    clear hK K
    refine done_ (by kernel_rfl) ?_
    go_wp2
    go_roundg d'
    case measure => have := HD.out; omega
    case rel => exact ⟨_, _, _, ⟨_, _, _, HE8.out⟩, HK8, HP'⟩
  · rw [decide_eq_false cc] at hs
    have HSA := Za hs
    clear hs
    have HCC := Za cc
    clear cc
    go_wp2_with (go_at_call 73; refine HSA.out.mono ?_; rintro e w6 ⟨rfl, m6, hw6⟩; have HE6 := Za (show EncRow w6 S' g kind A1 c1 st' l h vo1 out1 from hw6 ▸ HE5.out.drewN m6); have HK6 := Za (show Mods w w6 S from hw6 ▸ HK5.out.drewN m6); clear hw6)
    go_ret
    have hd := HP.out.done HCC.out
    have hE6 := HE6.out
    rw [HSS.out, HST.out] at hE6
    exact ⟨rfl, ⟨l, h, out1, ⟨_, _, _, hE6⟩, hd.1, hd.2⟩, HK6.out⟩
end Go.Proofs.Ytkfejicdjpffcaa.Put
namespace Go.Proofs.Ytkfejicdjpffcaa.End
open Go Go.RowKit YtkfejicdjpffcaaW PrintWords PrintLast PrintMore Aid HandAid Cod1 Cod2 Cod3 Ytkfejicdjpffcaa.Mod Enc Mods EncAt Put
theorem put_calls (w : World) (S : Nat → Prop) (g : Nat) (s : ES) (i bit : Int) (hE : EncAt w S g s) (hok : s.ok) (hlen : s.out.length ≤ 1099511627776) :
 Calls Try.prog 28 #[.pointer (some ⟨g, 0, none⟩), .int .i64 i, .int .i64 bit] w fun e w' => e = .returned (.int .i64 (s.err i bit)) ∧ EncAt w' (fun k => (S k ∨ w.heap.size ≤ k) ∧ k < w'.heap.size) g (s.putI i bit) ∧ Mods w w' S := by
 obtain ⟨A, c, vo, hR⟩ := hE
 by_cases hg : s.good i bit = true
 · have e1 : s.err i bit = 0 := if_pos hg
   have e2 : s.putI i bit = s.put i.toNat bit := if_pos hg
   rw [e1, e2]
   simp only [ES.good, Bool.and_eq_true, Bool.or_eq_true, decide_eq_true_eq] at hg
   obtain ⟨⟨h0, h1⟩, hb⟩ := hg
   obtain ⟨j, rfl⟩ : ∃ j : Nat, i = (j : Int) := ⟨i.toNat, by omega⟩
   rw [Int.toNat_natCast]
   have hj : j < s.st.length := by omega
   obtain ⟨b, rfl, _⟩ := hR.cell hj
   have hm := ES.mid_ hok hj
   have hc := ES.cut_ hok hj (bit := bit)
   have := hok.l
   have := hok.h
   have hI : PutInv s.out (cutL s.low (s.mid j) bit) (cutH s.high (s.mid j) bit) 4 (cutL s.low (s.mid j) bit) (cutH s.high (s.mid j) bit) s.out := ⟨hc.1, hc.2.1, hc.2.2, by rw [show (256 : Int) ^ 4 = 4294967296 from rfl]; omega, rfl, rfl, Nat.le_refl _⟩
   have key : Calls Try.prog 28 #[.pointer (some ⟨g, 0, none⟩), .int .i64 j, .int .i64 bit] w (PutPost w S g s.kind s.st s.low s.high (s.mid j) s.out j bit) := by
    rcases hb with rfl | rfl
    · exact put_row0 w S g s.kind b c s.st s.low s.high (s.mid j) vo s.out j hR hj hok.m.2.1 (ES.at_ hok hj) hok.l hok.lh hok.h rfl (by omega) (by omega) hI hlen
    · exact put_row1 w S g s.kind b c s.st s.low s.high (s.mid j) vo s.out j hR hj hok.m.2.1 (ES.at_ hok hj) hok.l hok.lh hok.h rfl (by omega) (by omega) hI hlen
   refine key.mono ?_
   rintro e w' ⟨he, ⟨l, h, out1, hE', ho, hn⟩, hk⟩
   refine ⟨he, ?_, hk⟩
   have hE2 : EncAt w' (fun k => S k ∨ w.heap.size ≤ k) g (s.put j bit) := by
    obtain ⟨A', c', vo', h'⟩ := hE'
    refine ⟨A', c', vo', ?_⟩
    have hn' : s.norm j bit = (out1.drop s.out.length, l, h) := by
     show normE 4 _ _ = _
     rw [ho, List.drop_left, ← hn]
    simp only [ES.put]
    rw [show (s.norm j bit).2.1 = l by rw [hn'], show (s.norm j bit).2.2 = h by rw [hn'], show s.out ++ (s.norm j bit).1 = out1 from ho.symm]
    exact h'
   exact hE2.bound
 · have e1 : s.err i bit = 2 := if_neg hg
   have e2 : s.putI i bit = s := if_neg hg
   rw [e1, e2]
   have hbad : i < 0 ∨ (s.st.length : Int) ≤ i ∨ (bit ≠ 0 ∧ bit ≠ 1) := by
    simp only [ES.good, Bool.and_eq_true, Bool.or_eq_true, decide_eq_true_eq] at hg
    omega
   refine (enc_put_arg w g A s.st.length c i bit hR.iv.s hR.real hbad).mono ?_
   rintro e w' ⟨rfl, rfl⟩
   exact ⟨rfl, ⟨A, c, vo, hR.bound.mono (fun k hk => ⟨.inl hk.1, hk.2⟩)⟩, Mods.refl _ _⟩
def EndPost (w : World) (l : List Int) (e : Ending) (w' : World) : Prop := ∃ A c, e = .returned (.slice A l.length c) ∧ Kd.R (Kd.int .u8) 5 w' w.heap.size (fun _ => True) (.slice A l.length c) l ∧ Below w.heap.size w w'
set_option maxHeartbeats 4000000 in
set_option maxRecDepth 100000 in
theorem end_row (w : World) (S : Nat → Prop) (g : Nat) (kind : Int) (A : Option Addr) (c : Nat) (st : List Int) (low high : Int) (vo : Value) (out : List Int) (hE : EncRow w S g kind A c st low high vo out) (hl0 : 0 ≤ low) (hlh : low ≤ high) (hh : high ≤ 4294967295) (hlen : out.length ≤ 1099511627880) :
 Calls Try.prog 29 #[.pointer (some ⟨g, 0, none⟩)] w (EndPost w (out ++ endOf low high)) := by
 have HE := Za hE
 have h2 := hE.real
 have hh0 : 0 ≤ high := by omega
 clear hE
 have HE1 := Za (HE.out.below (b1' (Below.refl _ _) (.cells #[] 5)))
 have HB1 := Za (b1' (Below.refl w.heap.size w) (.cells #[] 5))
 have HR1 : Aside0 (Kd.R (Kd.int .u8) 5 (w.alloc (.cells #[] 5)) w.heap.size (fun _ => True) (.slice (some ⟨w.heap.size, 0, none⟩) 0 0) []) := ⟨Kd.R_of_own (enc := Value.int .u8) (World.ownsRow_lit w #[] 0 (Nat.le_refl _) (by decide) rfl) (fun _ _ => trivial)⟩
 have hcv : (w.alloc (.cells #[] 5)).cell? ⟨g, 36, none⟩ = some vo := HE1.out.vo_
 obtain ⟨Ao, co, hvo⟩ := Kd.R_slice HE.out.o
 subst hvo
 have HCo := Za (Kd.R_reads' HE1.out.o).2.2
 go_enter Try.func29, Try.ntmps29
 go_wp2_with (first
  | (go_at_call 70; refine (enc_none _ _ _ h2).mono ?_; rintro e w' ⟨rfl, rfl⟩)
  | (at_builtin; refine Kd.R_append_rows (Kd.int .u8) (w0 := w) w.heap.size (by rfl) (.tmp 9) (.tmp 13) 29 5 (.int .u8 0) 1 rfl Try.underlying29 infoU8 rfl (by decide) (by omega) (.slice (some ⟨w.heap.size, 0, none⟩) 0 0) [] out _ _ _ (fun _ => True) (fun _ => False) rfl rfl HR1.out HCo.out (fun _ _ h => h) (fun _ h => h.elim) (fun _ _ => trivial) HB1.out (Nat.le_of_lt (by simp)) (by simp only [List.length_nil]; omega) ?_; intro v3 w3 hR3 hB3 hg3 hat3; have HR3 := Za hR3; have HB3 := Za hB3; clear hR3 hB3 hg3 hat3))
 clear HR1 HB1 HE1 HCo hcv
 rw [List.nil_append] at HR3
 obtain ⟨A3, c3, hv3⟩ := Kd.R_slice HR3.out
 subst hv3
 go_loopw [3, 15] (fun o i wr => ∃ (k : Nat), k ≤ 4 ∧ i = .int .i64 k ∧ o = .slice A3 out.length c3 ∧ Aside0 (k ≤ endN low high) ∧ Aside0 (Kd.R (Kd.int .u8) 5 wr w.heap.size (fun _ => True) (.slice A3 out.length c3) out) ∧ Aside0 (Below w.heap.size w wr)) (fun _ i _ => 5 - (intOf i).toNat)
 case atStart => exact ⟨0, by omega, rfl, rfl, ⟨Nat.zero_le _⟩, HR3, HB3⟩
 clear HR3 HB3 h2
 case round =>
  obtain ⟨k, hk, rfl, rfl, HK, HR4, HB4⟩ := hrel
  have k34 := (HE.out.below HB4.out).iv.l
  have k35 := (HE.out.below HB4.out).iv.h
  have hcase : k = 0 ∨ k = 1 ∨ k = 2 ∨ k = 3 ∨ k = 4 := by omega
  rcases hcase with rfl | rfl | rfl | rfl | rfl
  · by_cases ct : low ≤ high / 4294967296 * 4294967296
    · have hEN : endN low high = 0 := by
        have := HK.out
        unfold endN at this ⊢
        repeat' split
        all_goals (first | rfl | omega | (split at this <;> omega))
      have hend : out ++ endOf low high = out ++ (hiBytes high).take 0 := by unfold endOf; rw [hEN]
      have HEND := Za hend
      clear hEN hend
      go_wp2
      go_quiet (fail)
      go_wp2
      clear k34 k35 HK
      go_loopg [3, 38] 0 (fun d o i w5 => ∃ (j : Nat), j ≤ 0 ∧ Aside0 (j + d = 0) ∧ i = .int .i64 j ∧ ∃ A5 c5, o = .slice A5 (out.length + j) c5 ∧ Aside0 (Kd.R (Kd.int .u8) 5 w5 w.heap.size (fun _ => True) (.slice A5 (out.length + j) c5) (out ++ (hiBytes high).take j)) ∧ Aside0 (Below w.heap.size w w5))
      case atStart => exact ⟨0, by omega, ⟨by omega⟩, rfl, A3, c3, rfl, ⟨by rw [List.take_zero, List.append_nil]; exact Kd.R_drewN HR4.out _⟩, ⟨b2' HB4.out _⟩⟩
      clear HR4 HB4
      case round =>
       obtain ⟨j, hj, HD, rfl, A5, c5, rfl, HR6, HB6⟩ := hrel
       have k35 := (HE.out.below HB6.out).iv.h
       have hcase : j = 0 := by omega
       subst hcase
       · go_wp2
         go_ret
         refine ⟨A5, c5, ?_, ?_, HB6.out⟩
         · rw [HEND.out]; simp [hiBytes]
         · have := HR6.out
           rw [HEND.out]
           simp [hiBytes] at this ⊢
           exact this
    · have HN : 1 ≤ endN low high := by
        have := HK.out
        unfold endN at this ⊢
        repeat' split
        all_goals (first | omega | (split at this <;> omega))
      go_wp2
      go_quiet (fail)
      go_wp2
      go_roundw
      case rel => exact ⟨1, by omega, rfl, rfl, ⟨HN⟩, ⟨Kd.R_drewN HR4.out _⟩, ⟨b2' HB4.out _⟩⟩
      case measure => simp [intOf]
  · by_cases ct : low ≤ high / 16777216 * 16777216
    · have hEN : endN low high = 1 := by
        have := HK.out
        unfold endN at this ⊢
        repeat' split
        all_goals (first | rfl | omega | (split at this <;> omega))
      have hend : out ++ endOf low high = out ++ (hiBytes high).take 1 := by unfold endOf; rw [hEN]
      have HEND := Za hend
      clear hEN hend
      go_wp2
      go_quiet (fail)
      go_wp2
      clear k34 k35 HK
      go_loopg [3, 38] 1 (fun d o i w5 => ∃ (j : Nat), j ≤ 1 ∧ Aside0 (j + d = 1) ∧ i = .int .i64 j ∧ ∃ A5 c5, o = .slice A5 (out.length + j) c5 ∧ Aside0 (Kd.R (Kd.int .u8) 5 w5 w.heap.size (fun _ => True) (.slice A5 (out.length + j) c5) (out ++ (hiBytes high).take j)) ∧ Aside0 (Below w.heap.size w w5))
      case atStart => exact ⟨0, by omega, ⟨by omega⟩, rfl, A3, c3, rfl, ⟨by rw [List.take_zero, List.append_nil]; exact Kd.R_drewN HR4.out _⟩, ⟨b2' HB4.out _⟩⟩
      clear HR4 HB4
      case round =>
       obtain ⟨j, hj, HD, rfl, A5, c5, rfl, HR6, HB6⟩ := hrel
       have k35 := (HE.out.below HB6.out).iv.h
       have hcase : j = 0 ∨ j = 1 := by omega
       rcases hcase with rfl | rfl
       · have HB7 := Za (b1' HB6.out (.cells #[.int .u8 (high / 16777216)] 5))
         have hle := HB6.out.size
         go_wp2_with (at_builtin; refine Kd.R_append (Kd.int .u8) (w0 := w) w.heap.size (by rfl) (.tmp 41) (.tmp 52) 29 5 (.int .u8 0) 1 rfl Try.underlying29 infoU8 rfl (by decide) (by decide) (.slice A5 (out.length + 0) c5) (out ++ (hiBytes high).take 0) (high / 16777216) [.int .u8 (high / 16777216)] (fun _ => True) (fun _ => False) rfl rfl rfl (fun _ h => h.elim) (fun _ _ => trivial) HR6.out HB6.out hle (by simp only [hiBytes, List.length_append, List.length_take, List.length_cons, List.length_nil]; omega) ?_; intro v8 w8 hR8 hB8 hg8 hat8; obtain ⟨A8, c8, hv8⟩ := Kd.R_slice hR8; rw [show (out ++ (hiBytes high).take 0 ++ [high / 16777216]).length = out.length + 1 by simp [hiBytes]] at hv8; subst hv8; have HR8 := Za (show Kd.R (Kd.int .u8) 5 w8 w.heap.size (fun _ => True) (.slice A8 (out.length + 1) c8) (out ++ (hiBytes high).take 1) from by simpa [hiBytes] using hR8); have HB8 := Za hB8; clear hR8 hB8 hg8 hat8)
         go_roundg 0
         case measure => have := HD.out; omega
         case rel => exact ⟨1, by omega, ⟨by omega⟩, rfl, A8, c8, rfl, HR8, HB8⟩
       · go_wp2
         go_ret
         refine ⟨A5, c5, ?_, ?_, HB6.out⟩
         · rw [HEND.out]; simp [hiBytes]
         · have := HR6.out
           rw [HEND.out]
           simp [hiBytes] at this ⊢
           exact this
    · have HN : 2 ≤ endN low high := by
        have := HK.out
        unfold endN at this ⊢
        repeat' split
        all_goals (first | omega | (split at this <;> omega))
      go_wp2
      go_quiet (fail)
      go_wp2
      go_roundw
      case rel => exact ⟨2, by omega, rfl, rfl, ⟨HN⟩, ⟨Kd.R_drewN HR4.out _⟩, ⟨b2' HB4.out _⟩⟩
      case measure => simp [intOf]
  · by_cases ct : low ≤ high / 65536 * 65536
    · have hEN : endN low high = 2 := by
        have := HK.out
        unfold endN at this ⊢
        repeat' split
        all_goals (first | rfl | omega | (split at this <;> omega))
      have hend : out ++ endOf low high = out ++ (hiBytes high).take 2 := by unfold endOf; rw [hEN]
      have HEND := Za hend
      clear hEN hend
      go_wp2
      go_quiet (fail)
      go_wp2
      clear k34 k35 HK
      go_loopg [3, 38] 2 (fun d o i w5 => ∃ (j : Nat), j ≤ 2 ∧ Aside0 (j + d = 2) ∧ i = .int .i64 j ∧ ∃ A5 c5, o = .slice A5 (out.length + j) c5 ∧ Aside0 (Kd.R (Kd.int .u8) 5 w5 w.heap.size (fun _ => True) (.slice A5 (out.length + j) c5) (out ++ (hiBytes high).take j)) ∧ Aside0 (Below w.heap.size w w5))
      case atStart => exact ⟨0, by omega, ⟨by omega⟩, rfl, A3, c3, rfl, ⟨by rw [List.take_zero, List.append_nil]; exact Kd.R_drewN HR4.out _⟩, ⟨b2' HB4.out _⟩⟩
      clear HR4 HB4
      case round =>
       obtain ⟨j, hj, HD, rfl, A5, c5, rfl, HR6, HB6⟩ := hrel
       have k35 := (HE.out.below HB6.out).iv.h
       have hcase : j = 0 ∨ j = 1 ∨ j = 2 := by omega
       rcases hcase with rfl | rfl | rfl
       · have HB7 := Za (b1' HB6.out (.cells #[.int .u8 (high / 16777216)] 5))
         have hle := HB6.out.size
         go_wp2_with (at_builtin; refine Kd.R_append (Kd.int .u8) (w0 := w) w.heap.size (by rfl) (.tmp 41) (.tmp 52) 29 5 (.int .u8 0) 1 rfl Try.underlying29 infoU8 rfl (by decide) (by decide) (.slice A5 (out.length + 0) c5) (out ++ (hiBytes high).take 0) (high / 16777216) [.int .u8 (high / 16777216)] (fun _ => True) (fun _ => False) rfl rfl rfl (fun _ h => h.elim) (fun _ _ => trivial) HR6.out HB6.out hle (by simp only [hiBytes, List.length_append, List.length_take, List.length_cons, List.length_nil]; omega) ?_; intro v8 w8 hR8 hB8 hg8 hat8; obtain ⟨A8, c8, hv8⟩ := Kd.R_slice hR8; rw [show (out ++ (hiBytes high).take 0 ++ [high / 16777216]).length = out.length + 1 by simp [hiBytes]] at hv8; subst hv8; have HR8 := Za (show Kd.R (Kd.int .u8) 5 w8 w.heap.size (fun _ => True) (.slice A8 (out.length + 1) c8) (out ++ (hiBytes high).take 1) from by simpa [hiBytes] using hR8); have HB8 := Za hB8; clear hR8 hB8 hg8 hat8)
         go_roundg 1
         case measure => have := HD.out; omega
         case rel => exact ⟨1, by omega, ⟨by omega⟩, rfl, A8, c8, rfl, HR8, HB8⟩
       · have HB7 := Za (b1' HB6.out (.cells #[.int .u8 (high / 65536 % 256)] 5))
         have hle := HB6.out.size
         go_wp2_with (at_builtin; refine Kd.R_append (Kd.int .u8) (w0 := w) w.heap.size (by rfl) (.tmp 41) (.tmp 52) 29 5 (.int .u8 0) 1 rfl Try.underlying29 infoU8 rfl (by decide) (by decide) (.slice A5 (out.length + 1) c5) (out ++ (hiBytes high).take 1) (high / 65536 % 256) [.int .u8 (high / 65536 % 256)] (fun _ => True) (fun _ => False) rfl rfl rfl (fun _ h => h.elim) (fun _ _ => trivial) HR6.out HB6.out hle (by simp only [hiBytes, List.length_append, List.length_take, List.length_cons, List.length_nil]; omega) ?_; intro v8 w8 hR8 hB8 hg8 hat8; obtain ⟨A8, c8, hv8⟩ := Kd.R_slice hR8; rw [show (out ++ (hiBytes high).take 1 ++ [high / 65536 % 256]).length = out.length + 2 by simp [hiBytes]] at hv8; subst hv8; have HR8 := Za (show Kd.R (Kd.int .u8) 5 w8 w.heap.size (fun _ => True) (.slice A8 (out.length + 2) c8) (out ++ (hiBytes high).take 2) from by simpa [hiBytes] using hR8); have HB8 := Za hB8; clear hR8 hB8 hg8 hat8)
         go_roundg 0
         case measure => have := HD.out; omega
         case rel => exact ⟨2, by omega, ⟨by omega⟩, rfl, A8, c8, rfl, HR8, HB8⟩
       · go_wp2
         go_ret
         refine ⟨A5, c5, ?_, ?_, HB6.out⟩
         · rw [HEND.out]; simp [hiBytes]
         · have := HR6.out
           rw [HEND.out]
           simp [hiBytes] at this ⊢
           exact this
    · have HN : 3 ≤ endN low high := by
        have := HK.out
        unfold endN at this ⊢
        repeat' split
        all_goals (first | omega | (split at this <;> omega))
      go_wp2
      go_quiet (fail)
      go_wp2
      go_roundw
      case rel => exact ⟨3, by omega, rfl, rfl, ⟨HN⟩, ⟨Kd.R_drewN HR4.out _⟩, ⟨b2' HB4.out _⟩⟩
      case measure => simp [intOf]
  · by_cases ct : low ≤ high / 256 * 256
    · have hEN : endN low high = 3 := by
        have := HK.out
        unfold endN at this ⊢
        repeat' split
        all_goals (first | rfl | omega | (split at this <;> omega))
      have hend : out ++ endOf low high = out ++ (hiBytes high).take 3 := by unfold endOf; rw [hEN]
      have HEND := Za hend
      clear hEN hend
      go_wp2
      go_quiet (fail)
      go_wp2
      clear k34 k35 HK
      go_loopg [3, 38] 3 (fun d o i w5 => ∃ (j : Nat), j ≤ 3 ∧ Aside0 (j + d = 3) ∧ i = .int .i64 j ∧ ∃ A5 c5, o = .slice A5 (out.length + j) c5 ∧ Aside0 (Kd.R (Kd.int .u8) 5 w5 w.heap.size (fun _ => True) (.slice A5 (out.length + j) c5) (out ++ (hiBytes high).take j)) ∧ Aside0 (Below w.heap.size w w5))
      case atStart => exact ⟨0, by omega, ⟨by omega⟩, rfl, A3, c3, rfl, ⟨by rw [List.take_zero, List.append_nil]; exact Kd.R_drewN HR4.out _⟩, ⟨b2' HB4.out _⟩⟩
      clear HR4 HB4
      case round =>
       obtain ⟨j, hj, HD, rfl, A5, c5, rfl, HR6, HB6⟩ := hrel
       have k35 := (HE.out.below HB6.out).iv.h
       have hcase : j = 0 ∨ j = 1 ∨ j = 2 ∨ j = 3 := by omega
       rcases hcase with rfl | rfl | rfl | rfl
       · have HB7 := Za (b1' HB6.out (.cells #[.int .u8 (high / 16777216)] 5))
         have hle := HB6.out.size
         go_wp2_with (at_builtin; refine Kd.R_append (Kd.int .u8) (w0 := w) w.heap.size (by rfl) (.tmp 41) (.tmp 52) 29 5 (.int .u8 0) 1 rfl Try.underlying29 infoU8 rfl (by decide) (by decide) (.slice A5 (out.length + 0) c5) (out ++ (hiBytes high).take 0) (high / 16777216) [.int .u8 (high / 16777216)] (fun _ => True) (fun _ => False) rfl rfl rfl (fun _ h => h.elim) (fun _ _ => trivial) HR6.out HB6.out hle (by simp only [hiBytes, List.length_append, List.length_take, List.length_cons, List.length_nil]; omega) ?_; intro v8 w8 hR8 hB8 hg8 hat8; obtain ⟨A8, c8, hv8⟩ := Kd.R_slice hR8; rw [show (out ++ (hiBytes high).take 0 ++ [high / 16777216]).length = out.length + 1 by simp [hiBytes]] at hv8; subst hv8; have HR8 := Za (show Kd.R (Kd.int .u8) 5 w8 w.heap.size (fun _ => True) (.slice A8 (out.length + 1) c8) (out ++ (hiBytes high).take 1) from by simpa [hiBytes] using hR8); have HB8 := Za hB8; clear hR8 hB8 hg8 hat8)
         go_roundg 2
         case measure => have := HD.out; omega
         case rel => exact ⟨1, by omega, ⟨by omega⟩, rfl, A8, c8, rfl, HR8, HB8⟩
       · have HB7 := Za (b1' HB6.out (.cells #[.int .u8 (high / 65536 % 256)] 5))
         have hle := HB6.out.size
         go_wp2_with (at_builtin; refine Kd.R_append (Kd.int .u8) (w0 := w) w.heap.size (by rfl) (.tmp 41) (.tmp 52) 29 5 (.int .u8 0) 1 rfl Try.underlying29 infoU8 rfl (by decide) (by decide) (.slice A5 (out.length + 1) c5) (out ++ (hiBytes high).take 1) (high / 65536 % 256) [.int .u8 (high / 65536 % 256)] (fun _ => True) (fun _ => False) rfl rfl rfl (fun _ h => h.elim) (fun _ _ => trivial) HR6.out HB6.out hle (by simp only [hiBytes, List.length_append, List.length_take, List.length_cons, List.length_nil]; omega) ?_; intro v8 w8 hR8 hB8 hg8 hat8; obtain ⟨A8, c8, hv8⟩ := Kd.R_slice hR8; rw [show (out ++ (hiBytes high).take 1 ++ [high / 65536 % 256]).length = out.length + 2 by simp [hiBytes]] at hv8; subst hv8; have HR8 := Za (show Kd.R (Kd.int .u8) 5 w8 w.heap.size (fun _ => True) (.slice A8 (out.length + 2) c8) (out ++ (hiBytes high).take 2) from by simpa [hiBytes] using hR8); have HB8 := Za hB8; clear hR8 hB8 hg8 hat8)
         go_roundg 1
         case measure => have := HD.out; omega
         case rel => exact ⟨2, by omega, ⟨by omega⟩, rfl, A8, c8, rfl, HR8, HB8⟩
       · have HB7 := Za (b1' HB6.out (.cells #[.int .u8 (high / 256 % 256)] 5))
         have hle := HB6.out.size
         go_wp2_with (at_builtin; refine Kd.R_append (Kd.int .u8) (w0 := w) w.heap.size (by rfl) (.tmp 41) (.tmp 52) 29 5 (.int .u8 0) 1 rfl Try.underlying29 infoU8 rfl (by decide) (by decide) (.slice A5 (out.length + 2) c5) (out ++ (hiBytes high).take 2) (high / 256 % 256) [.int .u8 (high / 256 % 256)] (fun _ => True) (fun _ => False) rfl rfl rfl (fun _ h => h.elim) (fun _ _ => trivial) HR6.out HB6.out hle (by simp only [hiBytes, List.length_append, List.length_take, List.length_cons, List.length_nil]; omega) ?_; intro v8 w8 hR8 hB8 hg8 hat8; obtain ⟨A8, c8, hv8⟩ := Kd.R_slice hR8; rw [show (out ++ (hiBytes high).take 2 ++ [high / 256 % 256]).length = out.length + 3 by simp [hiBytes]] at hv8; subst hv8; have HR8 := Za (show Kd.R (Kd.int .u8) 5 w8 w.heap.size (fun _ => True) (.slice A8 (out.length + 3) c8) (out ++ (hiBytes high).take 3) from by simpa [hiBytes] using hR8); have HB8 := Za hB8; clear hR8 hB8 hg8 hat8)
         go_roundg 0
         case measure => have := HD.out; omega
         case rel => exact ⟨3, by omega, ⟨by omega⟩, rfl, A8, c8, rfl, HR8, HB8⟩
       · go_wp2
         go_ret
         refine ⟨A5, c5, ?_, ?_, HB6.out⟩
         · rw [HEND.out]; simp [hiBytes]
         · have := HR6.out
           rw [HEND.out]
           simp [hiBytes] at this ⊢
           exact this
    · have HN : 4 ≤ endN low high := by
        have := HK.out
        unfold endN at this ⊢
        repeat' split
        all_goals (first | omega | (split at this <;> omega))
      go_wp2
      go_quiet (fail)
      go_wp2
      go_roundw
      case rel => exact ⟨4, by omega, rfl, rfl, ⟨HN⟩, ⟨Kd.R_drewN HR4.out _⟩, ⟨b2' HB4.out _⟩⟩
      case measure => simp [intOf]
  · by_cases ct : low ≤ high / 1 * 1
    · have hEN : endN low high = 4 := by
        have := HK.out
        unfold endN at this ⊢
        repeat' split
        all_goals (first | rfl | omega | (split at this <;> omega))
      have hend : out ++ endOf low high = out ++ (hiBytes high).take 4 := by unfold endOf; rw [hEN]
      have HEND := Za hend
      clear hEN hend
      go_wp2
      go_quiet (fail)
      go_wp2
      clear k34 k35 HK
      go_loopg [3, 38] 4 (fun d o i w5 => ∃ (j : Nat), j ≤ 4 ∧ Aside0 (j + d = 4) ∧ i = .int .i64 j ∧ ∃ A5 c5, o = .slice A5 (out.length + j) c5 ∧ Aside0 (Kd.R (Kd.int .u8) 5 w5 w.heap.size (fun _ => True) (.slice A5 (out.length + j) c5) (out ++ (hiBytes high).take j)) ∧ Aside0 (Below w.heap.size w w5))
      case atStart => exact ⟨0, by omega, ⟨by omega⟩, rfl, A3, c3, rfl, ⟨by rw [List.take_zero, List.append_nil]; exact Kd.R_drewN HR4.out _⟩, ⟨b2' HB4.out _⟩⟩
      clear HR4 HB4
      case round =>
       obtain ⟨j, hj, HD, rfl, A5, c5, rfl, HR6, HB6⟩ := hrel
       have k35 := (HE.out.below HB6.out).iv.h
       have hcase : j = 0 ∨ j = 1 ∨ j = 2 ∨ j = 3 ∨ j = 4 := by omega
       rcases hcase with rfl | rfl | rfl | rfl | rfl
       · have HB7 := Za (b1' HB6.out (.cells #[.int .u8 (high / 16777216)] 5))
         have hle := HB6.out.size
         go_wp2_with (at_builtin; refine Kd.R_append (Kd.int .u8) (w0 := w) w.heap.size (by rfl) (.tmp 41) (.tmp 52) 29 5 (.int .u8 0) 1 rfl Try.underlying29 infoU8 rfl (by decide) (by decide) (.slice A5 (out.length + 0) c5) (out ++ (hiBytes high).take 0) (high / 16777216) [.int .u8 (high / 16777216)] (fun _ => True) (fun _ => False) rfl rfl rfl (fun _ h => h.elim) (fun _ _ => trivial) HR6.out HB6.out hle (by simp only [hiBytes, List.length_append, List.length_take, List.length_cons, List.length_nil]; omega) ?_; intro v8 w8 hR8 hB8 hg8 hat8; obtain ⟨A8, c8, hv8⟩ := Kd.R_slice hR8; rw [show (out ++ (hiBytes high).take 0 ++ [high / 16777216]).length = out.length + 1 by simp [hiBytes]] at hv8; subst hv8; have HR8 := Za (show Kd.R (Kd.int .u8) 5 w8 w.heap.size (fun _ => True) (.slice A8 (out.length + 1) c8) (out ++ (hiBytes high).take 1) from by simpa [hiBytes] using hR8); have HB8 := Za hB8; clear hR8 hB8 hg8 hat8)
         go_roundg 3
         case measure => have := HD.out; omega
         case rel => exact ⟨1, by omega, ⟨by omega⟩, rfl, A8, c8, rfl, HR8, HB8⟩
       · have HB7 := Za (b1' HB6.out (.cells #[.int .u8 (high / 65536 % 256)] 5))
         have hle := HB6.out.size
         go_wp2_with (at_builtin; refine Kd.R_append (Kd.int .u8) (w0 := w) w.heap.size (by rfl) (.tmp 41) (.tmp 52) 29 5 (.int .u8 0) 1 rfl Try.underlying29 infoU8 rfl (by decide) (by decide) (.slice A5 (out.length + 1) c5) (out ++ (hiBytes high).take 1) (high / 65536 % 256) [.int .u8 (high / 65536 % 256)] (fun _ => True) (fun _ => False) rfl rfl rfl (fun _ h => h.elim) (fun _ _ => trivial) HR6.out HB6.out hle (by simp only [hiBytes, List.length_append, List.length_take, List.length_cons, List.length_nil]; omega) ?_; intro v8 w8 hR8 hB8 hg8 hat8; obtain ⟨A8, c8, hv8⟩ := Kd.R_slice hR8; rw [show (out ++ (hiBytes high).take 1 ++ [high / 65536 % 256]).length = out.length + 2 by simp [hiBytes]] at hv8; subst hv8; have HR8 := Za (show Kd.R (Kd.int .u8) 5 w8 w.heap.size (fun _ => True) (.slice A8 (out.length + 2) c8) (out ++ (hiBytes high).take 2) from by simpa [hiBytes] using hR8); have HB8 := Za hB8; clear hR8 hB8 hg8 hat8)
         go_roundg 2
         case measure => have := HD.out; omega
         case rel => exact ⟨2, by omega, ⟨by omega⟩, rfl, A8, c8, rfl, HR8, HB8⟩
       · have HB7 := Za (b1' HB6.out (.cells #[.int .u8 (high / 256 % 256)] 5))
         have hle := HB6.out.size
         go_wp2_with (at_builtin; refine Kd.R_append (Kd.int .u8) (w0 := w) w.heap.size (by rfl) (.tmp 41) (.tmp 52) 29 5 (.int .u8 0) 1 rfl Try.underlying29 infoU8 rfl (by decide) (by decide) (.slice A5 (out.length + 2) c5) (out ++ (hiBytes high).take 2) (high / 256 % 256) [.int .u8 (high / 256 % 256)] (fun _ => True) (fun _ => False) rfl rfl rfl (fun _ h => h.elim) (fun _ _ => trivial) HR6.out HB6.out hle (by simp only [hiBytes, List.length_append, List.length_take, List.length_cons, List.length_nil]; omega) ?_; intro v8 w8 hR8 hB8 hg8 hat8; obtain ⟨A8, c8, hv8⟩ := Kd.R_slice hR8; rw [show (out ++ (hiBytes high).take 2 ++ [high / 256 % 256]).length = out.length + 3 by simp [hiBytes]] at hv8; subst hv8; have HR8 := Za (show Kd.R (Kd.int .u8) 5 w8 w.heap.size (fun _ => True) (.slice A8 (out.length + 3) c8) (out ++ (hiBytes high).take 3) from by simpa [hiBytes] using hR8); have HB8 := Za hB8; clear hR8 hB8 hg8 hat8)
         go_roundg 1
         case measure => have := HD.out; omega
         case rel => exact ⟨3, by omega, ⟨by omega⟩, rfl, A8, c8, rfl, HR8, HB8⟩
       · have HB7 := Za (b1' HB6.out (.cells #[.int .u8 (high % 256)] 5))
         have hle := HB6.out.size
         go_wp2_with (at_builtin; refine Kd.R_append (Kd.int .u8) (w0 := w) w.heap.size (by rfl) (.tmp 41) (.tmp 52) 29 5 (.int .u8 0) 1 rfl Try.underlying29 infoU8 rfl (by decide) (by decide) (.slice A5 (out.length + 3) c5) (out ++ (hiBytes high).take 3) (high % 256) [.int .u8 (high % 256)] (fun _ => True) (fun _ => False) rfl rfl rfl (fun _ h => h.elim) (fun _ _ => trivial) HR6.out HB6.out hle (by simp only [hiBytes, List.length_append, List.length_take, List.length_cons, List.length_nil]; omega) ?_; intro v8 w8 hR8 hB8 hg8 hat8; obtain ⟨A8, c8, hv8⟩ := Kd.R_slice hR8; rw [show (out ++ (hiBytes high).take 3 ++ [high % 256]).length = out.length + 4 by simp [hiBytes]] at hv8; subst hv8; have HR8 := Za (show Kd.R (Kd.int .u8) 5 w8 w.heap.size (fun _ => True) (.slice A8 (out.length + 4) c8) (out ++ (hiBytes high).take 4) from by simpa [hiBytes] using hR8); have HB8 := Za hB8; clear hR8 hB8 hg8 hat8)
         go_roundg 0
         case measure => have := HD.out; omega
         case rel => exact ⟨4, by omega, ⟨by omega⟩, rfl, A8, c8, rfl, HR8, HB8⟩
       · go_wp2
         go_ret
         refine ⟨A5, c5, ?_, ?_, HB6.out⟩
         · rw [HEND.out]; simp [hiBytes]
         · have := HR6.out
           rw [HEND.out]
           simp [hiBytes] at this ⊢
           exact this
    · exact absurd ct (by omega)
theorem end_calls (w : World) (S : Nat → Prop) (g : Nat) (s : ES) (hE : EncAt w S g s) (hok : s.ok) (hlen : s.out.length ≤ 1099511627880) :
 Calls Try.prog 29 #[.pointer (some ⟨g, 0, none⟩)] w (EndPost w s.end_) := by
 obtain ⟨A, c, vo, hR⟩ := hE
 exact end_row w S g s.kind A c s.st s.low s.high vo s.out hR hok.l hok.lh hok.h hlen
end Go.Proofs.Ytkfejicdjpffcaa.End
namespace Go.Proofs.Ytkfejicdjpffcaa.Snc
open Go Go.RowKit YtkfejicdjpffcaaW PrintWords PrintLast PrintMore Aid HandAid Cod1 Cod2 Cod3 Ytkfejicdjpffcaa.Mod Enc Mods EncAt Put End U
/-- A new encoder's state. -/
def newES (kind : Int) (st : List Int) : ES := ⟨kind, st, 0, 4294967295, []⟩
theorem newES_ok {kind : Int} {st : List Int} (h : okModel kind st) : (newES kind st).ok := ⟨h, show (0 : Int) ≤ 0 by decide, show (0 : Int) ≤ 4294967295 by decide, show (4294967295 : Int) ≤ 4294967295 by decide, show (0 : Int) / 16777216 ≠ 4294967295 / 16777216 by decide⟩
/-- The blocks from B on, as far as they go. -/
def Since (B : Nat) (W : World) (k : Nat) : Prop := B ≤ k ∧ k < W.heap.size
theorem new_enc (A : Option Addr) (c : Nat) (kind : Int) (st : List Int) (w : World) (hC : Kd.C (Kd.int .i64) w A st.length st) (hc : st.length ≤ c) (hm : okModel kind st) :
 Calls Try.prog 23 #[.agg #[.int .i64 kind, .slice A st.length c]] w fun e w' => ∃ g, e = .returned (.tuple #[.pointer (some ⟨g, 0, none⟩), .int .i64 0]) ∧ EncAt w' (Since w.heap.size w') g (newES kind st) ∧ Below w.heap.size w w' := by
 refine (newenc_calls A c kind st w hC hc hm).mono ?_
 rintro e w' ⟨g, rfl, hE, hb⟩
 refine ⟨g, rfl, ?_, hb⟩
 obtain ⟨A', n', c', vo, hh, hs, ho⟩ := hE.ex
 obtain ⟨hn, _, _⟩ := Kd.R_reads' hs
 subst hn
 exact ⟨A', c', vo, hh, Kd.R_lower hs (Nat.zero_le _), Kd.R_lower ho (Nat.zero_le _), hE.og⟩
end Go.Proofs.Ytkfejicdjpffcaa.Snc
namespace Go.Proofs.Ytkfejicdjpffcaa.Encode
open Go Go.RowKit YtkfejicdjpffcaaW PrintWords PrintLast PrintMore Aid HandAid Cod1 Cod2 Cod3 Ytkfejicdjpffcaa.Mod Enc Mods EncAt Put End Snc U
/-- Events are put as far as they go well. -/
def putsE : ES → List S72 → ES × Int
 | s, [] => (s, 0)
 | s, x :: l => if s.err x.f0 x.f1 = 0 then putsE (s.putI x.f0 x.f1) l else (s, s.err x.f0 x.f1)
theorem putsE_ok : ∀ (l : List S72) (s : ES), s.ok → (putsE s l).1.ok
 | [], s, h => h
 | x :: l, s, h => by
   unfold putsE
   split
   · exact putsE_ok l _ (ES.putI_ok h _ _)
   · exact h
/-- What stands in Encode's loop. -/
structure EInv (w : World) (B b1 g : Nat) (s0 : ES) (l : List S72) (k : Nat) (s : ES) (W : World) : Prop where
 e : EncAt W (Since B W) g s
 o : s.ok
 n : s.out.length ≤ 4 * k
 p : putsE s (l.drop k) = putsE s0 l
 z : W.heap[b1]? = some (.cells #[.int .i64 0, .slice none 0 0] 45 (0, 0))
 b : Below w.heap.size w W
 wB : w.heap.size ≤ B
 BW : B ≤ W.heap.size
 bB : b1 < B
 wb : w.heap.size ≤ b1
theorem EInv.below {w : World} {B b1 g : Nat} {s0 : ES} {l : List S72} {k : Nat} {s : ES} {W W' : World} (h : EInv w B b1 g s0 l k s W) (hb : Below W.heap.size W W') : EInv w B b1 g s0 l k s W' :=
 ⟨(h.e.below hb).mono (fun k hk => ⟨hk.1, Nat.lt_of_lt_of_le hk.2 hb.size⟩), h.o, h.n, h.p, Zd h.z hb, below_then h.b h.b.size hb, h.wB, Nat.le_trans h.BW hb.size, h.bB, h.wb⟩
theorem EInv.put {w : World} {B b1 g : Nat} {s0 : ES} {l : List S72} {k : Nat} {s : ES} {W W' : World} (h : EInv w B b1 g s0 l k s W) {i bit : Int} (hE : EncAt W' (fun k => (Since B W k ∨ W.heap.size ≤ k) ∧ k < W'.heap.size) g (s.putI i bit)) (hm : Mods W W' (Since B W)) (hn : (s.putI i bit).out.length ≤ 4 * (k + 1)) (hp : putsE (s.putI i bit) (l.drop (k + 1)) = putsE s0 l) : EInv w B b1 g s0 l (k + 1) (s.putI i bit) W' :=
 ⟨hE.mono (fun k hk => ⟨by have := h.BW; rcases hk.1 with h1 | h1; exact h1.1; omega, hk.2⟩), ES.putI_ok h.o _ _, hn, hp, blk_mods h.z hm (fun hk => by have := hk.1; have := h.bB; omega), below_mods h.b hm (fun k hk => Nat.le_trans h.wB hk.1) h.b.size, h.wB, Nat.le_trans h.BW hm.size, h.bB, h.wb⟩
end Go.Proofs.Ytkfejicdjpffcaa.Encode
namespace Go.Proofs.Ytkfejicdjpffcaa.Dec
open Go Go.RowKit YtkfejicdjpffcaaW PrintWords PrintLast PrintMore Aid HandAid Cod1 Cod2 Cod3 Ytkfejicdjpffcaa.Mod Enc Mods EncAt Put End Snc Encode
theorem u64_orb {x y : Int} (h : 0 ≤ x) (hm : x % 256 = 0) (h' : x < 2 ^ 64) (hy : 0 ≤ y) (hy' : y < 256) : Go.bits .or .u64 x y = x + y := bits_join .u64 64 (by decide) wraps_u64 8 x y h hm h' hy (by omega) (by omega)
/-- A model's copy. -/
def MPost (w : World) (kind : Int) (st : List Int) (e : Ending) (w' : World) : Prop := ∃ A c, e = .returned (.agg #[.int .i64 kind, .slice A st.length c]) ∧ Kd.R (Kd.int .i64) 3 w' w.heap.size (fun _ => True) (.slice A st.length c) st ∧ Below w.heap.size w w'
/-- A decoder's state: how many bytes beyond the code were taken is a's business. -/
structure DS where
 kind : Int
 st : List Int
 low : Int
 high : Int
 code : List Int
 a : Nat
 value : Int
 ended : Bool
/-- A byte of the code, 0 behind its end. -/
def byteOf (code : List Int) (i : Nat) : Int := if i < code.length then rd code i else 0
/-- The value behind n shifts. -/
def shV (code : List Int) : Nat → Int → Nat → Int
 | 0, v, _ => v
 | n + 1, v, a => shV code n (v % 16777216 * 256 + byteOf code a) (a + 1)
structure DS.ok (s : DS) : Prop where
 m : okModel s.kind s.st
 l : 0 ≤ s.low
 lh : s.low ≤ s.high
 h : s.high ≤ 4294967295
 n : s.low / 16777216 ≠ s.high / 16777216
 v0 : 0 ≤ s.value
 v1 : s.value ≤ 4294967295
 by_ : Bytes s.code
 len : s.code.length ≤ 1099511627776
 be : s.a - s.code.length ≤ 4
def DS.mid (s : DS) (i : Nat) : Int := midOf s.low s.high (likely s.kind (rd s.st i))
def DS.bit (s : DS) (i : Nat) : Int := if s.value ≤ s.mid i then 1 else 0
def DS.norm (s : DS) (i : Nat) : List Int × Int × Int := normE 4 (cutL s.low (s.mid i) (s.bit i)) (cutH s.high (s.mid i) (s.bit i))
/-- The state behind a bit that is got. -/
def DS.next (s : DS) (i : Nat) : DS := ⟨s.kind, s.st.set i (after s.kind (rd s.st i) (s.bit i)), (s.norm i).2.1, (s.norm i).2.2, s.code, s.a + (s.norm i).1.length, shV s.code (s.norm i).1.length s.value s.a, false⟩
def DS.dead (s : DS) : DS := { s with ended := true }
/-- Get: the state, the bit, the error. -/
def DS.getI (s : DS) (i : Int) : DS × Int × Int :=
 if 0 ≤ i ∧ i < s.st.length then (if s.ended = true then (s, 0, 6) else if s.a + (s.norm i.toNat).1.length - s.code.length > 4 then (s.dead, 0, 6) else (s.next i.toNat, s.bit i.toNat, 0)) else (s, 0, 2)
theorem byteOf_range {code : List Int} (h : Bytes code) (i : Nat) : 0 ≤ byteOf code i ∧ byteOf code i ≤ 255 := by
 unfold byteOf
 split
 · exact bytes_rd h (by assumption)
 · omega
theorem shV_range {code : List Int} (h : Bytes code) : ∀ (n : Nat) (v : Int) (a : Nat), 0 ≤ v → v ≤ 4294967295 → 0 ≤ shV code n v a ∧ shV code n v a ≤ 4294967295
 | 0, v, a, h0, h1 => ⟨h0, h1⟩
 | n + 1, v, a, h0, h1 => by
   have := byteOf_range h a
   exact shV_range h n _ _ (by omega) (by omega)
theorem shV_succ (code : List Int) : ∀ (n : Nat) (v : Int) (a : Nat), shV code (n + 1) v a = shV code n v a % 16777216 * 256 + byteOf code (a + n)
 | 0, v, a => rfl
 | n + 1, v, a => by
   show shV code (n + 1) (v % 16777216 * 256 + byteOf code a) (a + 1) = _
   rw [shV_succ code n, show a + 1 + n = a + (n + 1) by omega]
   rfl
theorem DS.at_ {s : DS} (h : s.ok) {i : Nat} (hi : i < s.st.length) : okState s.kind (rd s.st i) := h.m.2.2 _ (rd_mem (by omega) (by omega))
theorem DS.mid_ {s : DS} (h : s.ok) {i : Nat} (hi : i < s.st.length) : s.low ≤ s.mid i ∧ s.mid i < s.high := by
 have hr := likely_range _ _ (DS.at_ h hi)
 have hm := mid_range s.low s.high _ h.lh hr.1 hr.2
 have hlt : s.low < s.high := by
  have := h.lh
  rcases Int.lt_or_le s.low s.high with c | c
  · exact c
  · exact absurd (by rw [show s.low = s.high by omega]) h.n
 exact ⟨hm.1, hm.2.1 hlt⟩
theorem DS.cut_ {s : DS} (h : s.ok) {i : Nat} (hi : i < s.st.length) : 0 ≤ cutL s.low (s.mid i) (s.bit i) ∧ cutL s.low (s.mid i) (s.bit i) ≤ cutH s.high (s.mid i) (s.bit i) ∧ cutH s.high (s.mid i) (s.bit i) ≤ 4294967295 := by
 have hm := DS.mid_ h hi
 have := h.l
 have := h.h
 unfold cutL cutH
 split <;> omega
theorem DS.bit_ (s : DS) (i : Nat) : s.bit i = 0 ∨ s.bit i = 1 := by unfold DS.bit; split <;> simp
theorem DS.getI_ok {s : DS} (h : s.ok) (i : Int) : (s.getI i).1.ok := by
 unfold DS.getI
 by_cases c : 0 ≤ i ∧ i < s.st.length
 · rw [if_pos c]
   by_cases e : s.ended = true
   · rw [if_pos e]
     exact h
   rw [if_neg e]
   by_cases b : s.a + (s.norm i.toNat).1.length - s.code.length > 4
   · rw [if_pos b]
     exact ⟨h.m, h.l, h.lh, h.h, h.n, h.v0, h.v1, h.by_, h.len, h.be⟩
   · rw [if_neg b]
     have hi : i.toNat < s.st.length := by omega
     obtain ⟨h0, h1, h2⟩ := DS.cut_ h hi
     have hd := norm_done 4 _ _ h0 h1 h2 (by rw [show (256 : Int) ^ 4 = 4294967296 from rfl]; omega)
     have hv := shV_range h.by_ (s.norm i.toNat).1.length s.value s.a h.v0 h.v1
     refine ⟨⟨h.m.1, ?_, fun x hx => ?_⟩, hd.2.1, hd.2.2.1, hd.2.2.2, hd.1, hv.1, hv.2, h.by_, h.len, by show s.a + (s.norm i.toNat).1.length - s.code.length ≤ 4; omega⟩
     · show (s.st.set _ _).length ≤ 8192
       rw [List.length_set]
       exact h.m.2.1
     · rcases List.mem_or_eq_of_mem_set hx with hx | rfl
       · exact h.m.2.2 x hx
       · exact after_ok _ _ _ (DS.at_ h hi) (DS.bit_ s _)
 · rw [if_neg c]
   exact h
/-- A decoder's cells. -/
def dec42 (kind : Int) (v : Value) (low high : Int) (vc : Value) (a value be : Int) (ended real : Bool) : Array Value := #[.int .i64 kind, v, .int .i64 2048, .int .i64 1792, .int .i64 1568, .int .i64 1372, .int .i64 1201, .int .i64 1051, .int .i64 920, .int .i64 805, .int .i64 705, .int .i64 617, .int .i64 540, .int .i64 473, .int .i64 414, .int .i64 363, .int .i64 318, .int .i64 279, .int .i64 245, .int .i64 215, .int .i64 189, .int .i64 166, .int .i64 146, .int .i64 128, .int .i64 112, .int .i64 98, .int .i64 86, .int .i64 76, .int .i64 67, .int .i64 59, .int .i64 52, .int .i64 46, .int .i64 41, .int .i64 36, .int .u64 low, .int .u64 high, vc, .int .i64 a, .int .u64 value, .int .i64 be, .bool ended, .bool real]
structure DecRow (W : World) (S : Nat → Prop) (g : Nat) (kind : Int) (A : Option Addr) (c : Nat) (st : List Int) (low high : Int) (vc : Value) (code : List Int) (a : Nat) (value : Int) (ended : Bool) : Prop where
 b : W.heap[g]? = some (.cells (dec42 kind (.slice A st.length c) low high vc a value ((a - code.length : Nat) : Int) ended true) 121 (0, 0))
 s : Kd.R (Kd.int .i64) 3 W 0 S (.slice A st.length c) st
 o : Kd.R (Kd.int .u8) 5 W 0 S vc code
 g : S g
section
variable {W W' : World} {S S' : Nat → Prop} {g : Nat} {kind : Int} {A : Option Addr} {c : Nat} {st : List Int} {low high : Int} {vc : Value} {code : List Int} {a : Nat} {value : Int} {ended : Bool}
theorem DecRow.kept (h : DecRow W S g kind A c st low high vc code a value ended) (hk : Mods W W' S') (hne : ∀ k, S k → ¬ S' k) : DecRow W' S g kind A c st low high vc code a value ended :=
 ⟨blk_kept h.b hk.kept (hne g h.g), Kd.R_kept h.s hk.kept hne, Kd.R_kept h.o hk.kept hne, h.g⟩
theorem DecRow.below (h : DecRow W S g kind A c st low high vc code a value ended) (hb : Below W.heap.size W W') : DecRow W' S g kind A c st low high vc code a value ended :=
 ⟨Zd h.b hb, Kd.R_below h.s hb, Kd.R_below h.o hb, h.g⟩
theorem DecRow.drewN (h : DecRow W S g kind A c st low high vc code a value ended) (m : Nat) : DecRow (W.drewN m) S g kind A c st low high vc code a value ended := h.below (b2' (Below.refl _ _) m)
theorem DecRow.drew (h : DecRow W S g kind A c st low high vc code a value ended) : DecRow W.drew S g kind A c st low high vc code a value ended := h.below (below_drew (Below.refl _ _))
theorem DecRow.mono (h : DecRow W S g kind A c st low high vc code a value ended) (hs : ∀ k, S k → S' k) : DecRow W S' g kind A c st low high vc code a value ended :=
 ⟨h.b, Kd.R_mono h.s hs, Kd.R_mono h.o hs, hs g h.g⟩
theorem DecRow.iv (h : DecRow W S g kind A c st low high vc code a value ended) : Iv W g kind A st.length c low high :=
 ⟨(Zc h.b 0).trans rfl, (Zc h.b 1).trans rfl, range_of (r := [.int .u64 low, .int .u64 high, vc, .int .i64 a, .int .u64 value, .int .i64 ((a - code.length : Nat) : Int), .bool ended, .bool true]) (by rw [qlist]; exact h.b), (Zc h.b 34).trans rfl, (Zc h.b 35).trans rfl, fun i => Zf h.b i⟩
theorem DecRow.c36 (h : DecRow W S g kind A c st low high vc code a value ended) : W.cell? ⟨g, 36, none⟩ = some vc := (Zc h.b 36).trans rfl
theorem DecRow.c37 (h : DecRow W S g kind A c st low high vc code a value ended) : W.cell? ⟨g, 37, none⟩ = some (.int .i64 a) := (Zc h.b 37).trans rfl
theorem DecRow.c38 (h : DecRow W S g kind A c st low high vc code a value ended) : W.cell? ⟨g, 38, none⟩ = some (.int .u64 value) := (Zc h.b 38).trans rfl
theorem DecRow.c39 (h : DecRow W S g kind A c st low high vc code a value ended) : W.cell? ⟨g, 39, none⟩ = some (.int .i64 ((a - code.length : Nat) : Int)) := (Zc h.b 39).trans rfl
theorem DecRow.c40 (h : DecRow W S g kind A c st low high vc code a value ended) : W.cell? ⟨g, 40, none⟩ = some (.bool ended) := (Zc h.b 40).trans rfl
theorem DecRow.c41 (h : DecRow W S g kind A c st low high vc code a value ended) : W.cell? ⟨g, 41, none⟩ = some (.bool true) := (Zc h.b 41).trans rfl
theorem DecRow.fz (h : DecRow W S g kind A c st low high vc code a value ended) (i : Nat) : W.frozen? ⟨g, i, none⟩ = false := Zf h.b i
theorem DecRow.cell (h : DecRow W S g kind A c st low high vc code a value ended) {i : Nat} (hi : i < st.length) : ∃ b, A = some ⟨b, 0, none⟩ ∧ W.cell? ⟨b, i, none⟩ = some (.int .i64 (rd st i)) ∧ W.frozen? ⟨b, i, none⟩ = false ∧ b ≠ g := by
 obtain ⟨b, cap, hv, _, _, cells, hc⟩ := Kd.R_form h.s (by omega)
 injection hv with hA _ hcap
 subst hA hcap
 have h1 := Kd.R_cell (0 : Int) h.s (i : Int) (by omega) (by omega)
 have hne : b ≠ g := blk_ne hc h.b (by decide)
 exact ⟨b, rfl, h1.1, h1.2, hne⟩
theorem DecRow.put (h : DecRow W S g kind A c st low high vc code a value ended) (j : Nat) (u : Value) {kind' low' high' value' : Int} {a' : Nat} {ended' : Bool} (e : (dec42 kind (.slice A st.length c) low high vc a value ((a - code.length : Nat) : Int) ended true).setIfInBounds j u = dec42 kind' (.slice A st.length c) low' high' vc a' value' ((a' - code.length : Nat) : Int) ended' true) : DecRow (W.setCell ⟨g, j, none⟩ u) S g kind' A c st low' high' vc code a' value' ended' :=
 ⟨blk_put h.b j u e, Kd.R_set h.s h.b (by decide) _ _, Kd.R_set h.o h.b (by decide) _ _, h.g⟩
theorem DecRow.cut (h : DecRow W S g kind A c st low high vc code a value ended) (bit mid : Int) : DecRow (cutW W g bit mid) S g kind A c st (cutL low mid bit) (cutH high mid bit) vc code a value ended := by
 unfold cutW cutL cutH
 split
 · exact h.put 35 _ rfl
 · exact h.put 34 _ rfl
theorem DecRow.lost (h : DecRow W S g kind A c st low high vc code a value ended) (l' h' : Int) : DecRow ((W.setCell ⟨g, 34, none⟩ (.int .u64 l')).setCell ⟨g, 35, none⟩ (.int .u64 h')) S g kind A c st l' h' vc code a value ended :=
 DecRow.put (h.put (low' := l') 34 (.int .u64 l') rfl) 35 _ rfl
theorem DecRow.setst {b : Nat} (h : DecRow W S g kind (some ⟨b, 0, none⟩) c st low high vc code a value ended) {i : Nat} (hi : i < st.length) (x : Int) : DecRow (W.setCell ⟨b, i, none⟩ (.int .i64 x)) S g kind (some ⟨b, 0, none⟩) c (st.set i x) low high vc code a value ended := by
 obtain ⟨b', hA, _, _, hne⟩ := h.cell hi
 injection hA with hA
 injection hA with hA _ _
 subst hA
 obtain ⟨cells, hty⟩ := Kd.R_typed h.s b (by simp [Value.ownBlock])
 have hp := (Kd.R_put (enc := Value.int .i64) h.s (i : Int) x).1
 rw [Int.toNat_natCast] at hp
 have hl : (st.set i x).length = st.length := List.length_set
 refine ⟨?_, ?_, Kd.R_set h.o hty (by decide) _ _, h.g⟩
 · rw [hl]
   exact blk_far h.b (Ne.symm hne) _
 · rw [hl]
   exact hp
/-- A shift, where the code goes on. -/
theorem DecRow.adv (h : DecRow W S g kind A c st low high vc code a value ended) (ha : a < code.length) (v : Int) : DecRow ((W.setCell ⟨g, 37, none⟩ (.int .i64 ((a : Int) + 1))).setCell ⟨g, 38, none⟩ (.int .u64 v)) S g kind A c st low high vc code (a + 1) v ended := by
 have e1 : a + 1 - code.length = a - code.length := by omega
 exact DecRow.put (h.put (a' := a + 1) 37 (.int .i64 ((a : Int) + 1)) (by rw [e1]; rfl)) 38 _ rfl
/-- A shift behind the code's end. -/
theorem DecRow.advB (h : DecRow W S g kind A c st low high vc code a value ended) (ha : ¬ a < code.length) (v : Int) : DecRow (((W.setCell ⟨g, 39, none⟩ (.int .i64 (((a - code.length : Nat) : Int) + 1))).setCell ⟨g, 37, none⟩ (.int .i64 ((a : Int) + 1))).setCell ⟨g, 38, none⟩ (.int .u64 v)) S g kind A c st low high vc code (a + 1) v ended := by
 have e1 : ((a + 1 - code.length : Nat) : Int) = ((a - code.length : Nat) : Int) + 1 := by omega
 have h1 : (W.setCell ⟨g, 39, none⟩ (.int .i64 (((a - code.length : Nat) : Int) + 1))).heap[g]? = some (.cells (dec42 kind (.slice A st.length c) low high vc a value (((a - code.length : Nat) : Int) + 1) ended true) 121 (0, 0)) := blk_put h.b 39 _ rfl
 have h2 := blk_put (cs' := dec42 kind (.slice A st.length c) low high vc ((a : Int) + 1) value (((a - code.length : Nat) : Int) + 1) ended true) h1 37 (.int .i64 ((a : Int) + 1)) rfl
 have h3 := blk_put (cs' := dec42 kind (.slice A st.length c) low high vc ((a : Int) + 1) v (((a - code.length : Nat) : Int) + 1) ended true) h2 38 (.int .u64 v) rfl
 refine ⟨?_, Kd.R_set (Kd.R_set (Kd.R_set h.s h.b (by decide) _ _) h1 (by decide) _ _) h2 (by decide) _ _, Kd.R_set (Kd.R_set (Kd.R_set h.o h.b (by decide) _ _) h1 (by decide) _ _) h2 (by decide) _ _, h.g⟩
 rw [e1]
 exact h3
end
def ShiftPost (w : World) (S : Nat → Prop) (g : Nat) (kind : Int) (A : Option Addr) (c : Nat) (st : List Int) (low high : Int) (vc : Value) (code : List Int) (a : Nat) (value : Int) (ended : Bool) (e : Ending) (w' : World) : Prop :=
 e = .returned (.tuple #[]) ∧ DecRow w' S g kind A c st low high vc code (a + 1) (value % 16777216 * 256 + byteOf code a) ended ∧ Mods w w' S
set_option maxHeartbeats 2000000 in
theorem shift_row (w : World) (S : Nat → Prop) (g : Nat) (kind : Int) (A : Option Addr) (c : Nat) (st : List Int) (low high : Int) (vc : Value) (code : List Int) (a : Nat) (value : Int) (ended : Bool) (hE : DecRow w S g kind A c st low high vc code a value ended) (hv0 : 0 ≤ value) (hv1 : value ≤ 4294967295) (hby : Bytes code) (hlen : code.length ≤ 1099511627776) (ha : a ≤ 2199023255552) :
 Calls Try.prog 78 #[.pointer (some ⟨g, 0, none⟩)] w (ShiftPost w S g kind A c st low high vc code a value ended) := by
 have HE := Za hE
 have hSg : S g := hE.g
 obtain ⟨Ac, cc, hvc⟩ := Kd.R_slice hE.o
 subst hvc
 have k36 := hE.c36
 have k37 := hE.c37
 have k38 := hE.c38
 have f37 := hE.fz 37
 have f38 := hE.fz 38
 have f39 := hE.fz 39
 have hbr := byteOf_range hby a
 have e1 : Go.bits .and .u64 (value * 256) 4294967295 = value % 16777216 * 256 := (u64_low32 (x := value * 256) (by omega) (by omega)).trans (by omega)
 by_cases hlt : a < code.length
 · have hb : byteOf code a = rd code a := if_pos hlt
   rw [hb] at hbr
   obtain ⟨ad, hA, hx⟩ := Kd.at_int (Kd.R_reads' hE.o).2.2 (a : Int) (by omega) (by omega)
   subst hA
   rw [Int.toNat_natCast] at hx
   have e2 : Go.bits .or .u64 (value % 16777216 * 256) (rd code a) = value % 16777216 * 256 + rd code a := u64_orb (by omega) (by omega) (by omega) hbr.1 (by omega)
   have hi : (a : Int) < (code.length : Int) := by omega
   have HL := Za hlt
   have HBB := Za hb
   clear hE hby hb hlt
   go_enter Try.func78, Try.ntmps78
   go_wp2
   go_quiet (fail)
   go_wp2
   go_quiet (fail)
   go_wp2
   go_end0
   refine ⟨rfl, ?_, ?_⟩
   · rw [HBB.out]
     exact (HE.out.adv HL.out _).drewN _
   · exact (((Mods.refl w S).setCell (.inl hSg) _).setCell (.inl hSg) _).drewN _
 · have hb : byteOf code a = 0 := if_neg hlt
   have k39 := hE.c39
   have hi : ¬ (a : Int) < (code.length : Int) := by omega
   obtain ⟨d, hd⟩ : ∃ d : Nat, a - code.length = d := ⟨_, rfl⟩
   rw [hd] at k39
   have hdd : (d : Int) ≤ 2199023255552 := by omega
   have HD := Za hd
   have e2 : Go.bits .or .u64 (value % 16777216 * 256) 0 = value % 16777216 * 256 := (u64_orb (x := value % 16777216 * 256) (y := 0) (by omega) (by omega) (by omega) (by omega) (by omega)).trans (by omega)
   have HL := Za hlt
   have HBB := Za hb
   clear hE hby hb hlt hd hbr
   go_enter Try.func78, Try.ntmps78
   go_wp2
   go_quiet (fail)
   go_wp2
   go_end0
   refine ⟨rfl, ?_, ?_⟩
   · rw [HBB.out, Int.add_zero]
     have h9 := HE.out.advB HL.out (value % 16777216 * 256)
     rw [HD.out] at h9
     exact h9.drewN _
   · exact ((((Mods.refl w S).setCell (.inl hSg) _).setCell (.inl hSg) _).setCell (.inl hSg) _).drewN _
theorem dec_none_nil (w : World) : Calls Try.prog 79 #[.pointer none] w fun e w' => e = .returned (.bool true) ∧ w = w' := by
 go_enter Try.func79, Try.ntmps79
 go_wp2
 go_ret
 exact ⟨rfl, rfl⟩
theorem dec_none (w : World) (g : Nat) (real : Bool) (h2 : w.cell? ⟨g, 41, none⟩ = some (.bool real)) : Calls Try.prog 79 #[.pointer (some ⟨g, 0, none⟩)] w fun e w' => e = .returned (.bool (!real)) ∧ w = w' := by
 go_enter Try.func79, Try.ntmps79
 go_wp2
 go_ret
 exact ⟨rfl, rfl⟩
end Go.Proofs.Ytkfejicdjpffcaa.Dec
namespace Go.Proofs.Ytkfejicdjpffcaa.Get
open Go Go.RowKit YtkfejicdjpffcaaW PrintWords PrintLast PrintMore Aid HandAid Cod1 Cod2 Cod3 Ytkfejicdjpffcaa.Mod Enc Mods EncAt Put End Snc Encode Dec
theorem exec_load_row {P : Program} {o : Oper} {a : Act} {w : World} (ty : TypeId) (x : Operand) (ho : o.op = .load ty x)
 (g : Nat) (hx : a.eval x = .pointer (some ⟨g, 0, none⟩)) (t : TypeId) (cs : Array Value) (fr : Nat × Nat) (d : TypeDesc) (hg : w.heap[g]? = some (.cells cs t fr))
 (hu : P.underlying ty = some d) (hd : (match d with | .struct _ | .array _ _ => true | _ => false) = true) (hi : (P.info? ty).map (·.size) = some cs.size) : (execOp a.eval o).run P w = .ok (.value (.agg cs)) w := by
 unfold execOp
 simp only [ho, hx, Instr.loadAt, Instr.sureAddr, Sem.run_bind, Sem.run_pure, Result.andThen_ok, run_loadVar_row w g t ty cs fr d hg hu hd hi]
theorem exec_store_row {P : Program} {o : Oper} {a : Act} {w : World} (ty : TypeId) (x y : Operand) (ho : o.op = .store ty x y)
 (g : Nat) (cells : Array Value) (hx : a.eval x = .pointer (some ⟨g, 0, none⟩)) (hy : a.eval y = .agg cells)
 (t : TypeId) (old : Array Value) (hg : w.heap[g]? = some (.cells old t (0, 0))) (hi : (P.info? ty).map (·.size) = some cells.size)
 (hold : old.size = cells.size) (h1 : cells.all (·.oneCell') = true) : (execOp a.eval o).run P w = .ok .skip (w.setRow g cells) := by
 unfold execOp
 simp only [ho, hx, hy, Instr.storeAt, Instr.sureAddr, Sem.run_bind, Sem.run_pure, Result.andThen_ok, run_storeVar_row w g t ty old cells hg hi hold h1]
theorem info42 {row : Array Value} (h : row.size = 42) : (Try.prog.info? 121).map (·.size) = some row.size := by rw [h]; kernel_rfl
theorem dec42_size (kind : Int) (v : Value) (low high : Int) (vc : Value) (a value be : Int) (ended real : Bool) : (dec42 kind v low high vc a value be ended real).size = 42 := rfl
theorem one42 (kind : Int) (A : Option Addr) (n c : Nat) (low high : Int) (Ac : Option Addr) (nc cc : Nat) (a value be : Int) (ended real : Bool) : (dec42 kind (.slice A n c) low high (.slice Ac nc cc) a value be ended real).all (·.oneCell') = true := by simp [dec42, Value.oneCell']
def z42 : Array Value := #[.int .i64 0, .slice none 0 0, .int .i64 0, .int .i64 0, .int .i64 0, .int .i64 0, .int .i64 0, .int .i64 0, .int .i64 0, .int .i64 0, .int .i64 0, .int .i64 0, .int .i64 0, .int .i64 0, .int .i64 0, .int .i64 0, .int .i64 0, .int .i64 0, .int .i64 0, .int .i64 0, .int .i64 0, .int .i64 0, .int .i64 0, .int .i64 0, .int .i64 0, .int .i64 0, .int .i64 0, .int .i64 0, .int .i64 0, .int .i64 0, .int .i64 0, .int .i64 0, .int .i64 0, .int .i64 0, .int .u64 0, .int .u64 0, .slice none 0 0, .int .i64 0, .int .u64 0, .int .i64 0, .bool false, .bool false]
theorem z42_def : z42 = #[.int .i64 0, .slice none 0 0, .int .i64 0, .int .i64 0, .int .i64 0, .int .i64 0, .int .i64 0, .int .i64 0, .int .i64 0, .int .i64 0, .int .i64 0, .int .i64 0, .int .i64 0, .int .i64 0, .int .i64 0, .int .i64 0, .int .i64 0, .int .i64 0, .int .i64 0, .int .i64 0, .int .i64 0, .int .i64 0, .int .i64 0, .int .i64 0, .int .i64 0, .int .i64 0, .int .i64 0, .int .i64 0, .int .i64 0, .int .i64 0, .int .i64 0, .int .i64 0, .int .i64 0, .int .i64 0, .int .u64 0, .int .u64 0, .slice none 0 0, .int .i64 0, .int .u64 0, .int .i64 0, .bool false, .bool false] := rfl
theorem set_back {st : List Int} {i : Nat} (y : Int) (hi : i < st.length) : (st.set i y).set i (rd st i) = st := by
 rw [List.set_set]
 apply List.ext_getElem?
 intro k
 rw [List.getElem?_set]
 by_cases hk : i = k
 · subst hk
   rw [if_pos rfl, if_pos hi, List.getElem?_eq_getElem hi]
   simp [rd, List.getD_eq_getElem?_getD, List.getElem?_eq_getElem hi]
 · rw [if_neg hk]
theorem setRow_size (W : World) (g : Nat) (cs : Array Value) : (W.setRow g cs).heap.size = W.heap.size := by
 simp [World.setRow]
theorem mods_setRow {w W : World} {S : Nat → Prop} (h : Mods w W S) {g : Nat} (hg : S g) (cs : Array Value) : Mods w (W.setRow g cs) S :=
 h.then_ (S2 := fun k => k = g) ⟨rfl, rfl, rfl, by rw [setRow_size]; exact Nat.le_refl _, fun i _ hn => setRow_other _ _ _ _ hn⟩ (fun k hk => by rw [hk]; exact .inl hg)
theorem dec_setRow {W : World} {S : Nat → Prop} {g : Nat} {kind : Int} {A : Option Addr} {c : Nat} {st : List Int} {low high : Int} {vc : Value} {code : List Int} {a : Nat} {value : Int} {ended : Bool} (h : DecRow W S g kind A c st low high vc code a value ended) {st' : List Int} (hst : st'.length = st.length) (kind' low' high' : Int) (a' : Nat) (value' : Int) (ended' : Bool) : DecRow (W.setRow g (dec42 kind' (.slice A st'.length c) low' high' vc a' value' ((a' - code.length : Nat) : Int) ended' true)) S g kind' A c st low' high' vc code a' value' ended' :=
 ⟨hst ▸ setRow_heap W g _ _ _ _ h.b, Kd.R_mono (Kd.R_step (Kd.R_types h.s h.b (by decide)) fun k hk _ => setRow_other _ _ _ _ hk.2) (fun _ hk => hk.1), Kd.R_mono (Kd.R_step (Kd.R_types h.o h.b (by decide)) fun k hk _ => setRow_other _ _ _ _ hk.2) (fun _ hk => hk.1), h.g⟩
/-- What a Get that takes a bit leaves. -/
def GetPost (w : World) (S : Nat → Prop) (g : Nat) (kind : Int) (b c : Nat) (st : List Int) (low high mid : Int) (vc : Value) (code : List Int) (a : Nat) (value : Int) (i : Nat) (bit : Int) (e : Ending) (w' : World) : Prop :=
 (∃ l h n, normE 4 (cutL low mid bit) (cutH high mid bit) = (n, l, h) ∧ ((a + n.length - code.length > 4 ∧ e = .returned (.tuple #[.int .i64 0, .int .i64 6]) ∧ DecRow w' S g kind (some ⟨b, 0, none⟩) c st low high vc code a value true) ∨ (¬ a + n.length - code.length > 4 ∧ e = .returned (.tuple #[.int .i64 bit, .int .i64 0]) ∧ DecRow w' S g kind (some ⟨b, 0, none⟩) c (st.set i (after kind (rd st i) bit)) l h vc code (a + n.length) (shV code n.length value a) false))) ∧ Mods w w' S
set_option maxHeartbeats 4000000 in
set_option maxRecDepth 100000 in
theorem get_row0 (w : World) (S : Nat → Prop) (g : Nat) (kind : Int) (b c : Nat) (st : List Int) (low high mid : Int) (vc : Value) (code : List Int) (a : Nat) (value : Int) (i : Nat) (hE : DecRow w S g kind (some ⟨b, 0, none⟩) c st low high vc code a value false) (hSb : ∀ k, S k → k < w.heap.size) (hi : i < st.length) (hn : st.length ≤ 8192) (hs : okState kind (rd st i)) (hl0 : 0 ≤ low) (hlh : low ≤ high) (hh : high ≤ 4294967295) (hmid : midOf low high (likely kind (rd st i)) = mid) (hm0 : 0 ≤ mid) (hm1 : mid ≤ 4294967295) (hI0 : PutInv [] (cutL low mid 0) (cutH high mid 0) 4 (cutL low mid 0) (cutH high mid 0) []) (hv0 : 0 ≤ value) (hv1 : value ≤ 4294967295) (hby : Bytes code) (hlen : code.length ≤ 1099511627776) (ha : a - code.length ≤ 4) (hvb : ¬ value ≤ mid) :
 Calls Try.prog 35 #[.pointer (some ⟨g, 0, none⟩), .int .i64 i] w (GetPost w S g kind b c st low high mid vc code a value i 0) := by
 have HE := Za hE
 have hSg : S g := hE.g
 obtain ⟨Ac, cc, hvc⟩ := Kd.R_slice hE.o
 subst hvc
 have h2 := hE.c41
 have k40 := hE.c40
 have k1 := hE.iv.s
 have HMID := Za (hmid ▸ mid_calls w g kind (some ⟨b, 0, none⟩) st.length c low high i (rd st i) hE.iv ⟨_, rfl, by obtain ⟨b', hA, hc, _⟩ := hE.cell hi; cases hA; rw [add_plain]; exact hc⟩ hi hn hs hl0 hlh hh)
 have HI := Za hI0
 have HBY := Za hby
 have HSB := Za hSb
 clear hE hmid hI0 hby hSb
 have hi1 : (0 : Int) ≤ (i : Int) := by omega
 have hi2 : (i : Int) < (st.length : Int) := by omega
 go_enter Try.func35, Try.ntmps35
 go_wp2_with (first
  | (go_at_call 79; refine (dec_none _ _ _ h2).mono ?_; rintro e w' ⟨rfl, rfl⟩)
  | (go_at_call 72; refine HMID.out.mono ?_; rintro e w3 ⟨rfl, hb3⟩; have HE3 := Za (HE.out.below hb3); have HK3 := Za ((Mods.refl w S).below hb3); clear hb3; have k38 := HE3.out.c38))
 clear h2 k40 k1 k38
 obtain ⟨row, hrow⟩ : ∃ row, (dec42 kind (.slice (some ⟨b, 0, none⟩) st.length c) low high (.slice Ac code.length cc) a value ((a - code.length : Nat) : Int) false true) = row := ⟨_, rfl⟩
 have hsz : row.size = 42 := by rw [← hrow]; rfl
 have hone : row.all (·.oneCell') = true := by rw [← hrow]; exact one42 _ _ _ _ _ _ _ _ _ _ _ _ _ _
 have p0 : w3.drew.heap[g]? = some (.cells row 121 (0, 0)) := by rw [← hrow]; exact HE3.out.b
 have p1 := HE3.out.drew.iv.s
 have p2 : w3.drew.cell? ⟨b, i, none⟩ = some (.int .i64 (rd st i)) := by
  obtain ⟨b3, hA3, hc3, _⟩ := HE3.out.cell hi
  cases hA3
  exact hc3
 have HROW := Za hrow
 have HE3 := Za HE3.out.drew
 have HK3 := Za HK3.out.drew
 clear hrow
 refine start_ (n := 15) (S := fun w' => w'.heap[g]? = some (.cells row 121 (0, 0)) ∧ w'.cell? ⟨g, 1, none⟩ = some (.slice (some ⟨b, 0, none⟩) st.length c) ∧ w'.cell? ⟨b, i, none⟩ = some (.int .i64 (rd st i))) (ds := []) (B' 15 0) (by kernel_rfl) rfl rfl ⟨p0, p1, p2⟩ (fun hHeld => ?_)
 generalize w3.drew = wd at p0 p1 p2 HE3 HK3 hHeld ⊢
 refine u' 0 43 (B' 15 1) ?_ rfl rfl ?_ ?_ ?_ ?_; rotate_left; (intro w'; go_simp; with_reducible rfl); rotate_left; (simp only [Act.put, p1', p2', p3', w1', w2']; rfl)
 refine u' 1 44 (B' 15 3) ?_ rfl rfl ?_ ?_ ?_ ?_; rotate_left; (intro w'; go_simp; with_reducible rfl); rotate_left; (simp only [Act.put, p1', p2', p3', w1', w2']; rfl)
 refine u' 3 46 (B' 15 11) ?_ rfl rfl ?_ ?_ ?_ ?_; rotate_left; (intro w'; go_simp; with_reducible rfl); rotate_left; (simp only [Act.put, p1', p2', p3', w1', w2']; rfl)
 refine u' 4 47 (B' 15 27) ?_ rfl rfl ?_ ?_ ?_ ?_; rotate_left; (intro w'; go_simp; with_reducible rfl); rotate_left; (simp only [Act.put, p1', p2', p3', w1', w2']; rfl)
 refine u' 5 48 (B' 15 59) ?_ rfl rfl ?_ ?_ ?_ ?_; rotate_left; (intro w'; go_simp; with_reducible rfl); rotate_left; (simp only [Act.put, p1', p2', p3', w1', w2']; rfl)
 refine u' 6 49 (B' 15 123) ?_ rfl rfl ?_ ?_ ?_ ?_; rotate_left; (intro w'; go_simp; with_reducible rfl); rotate_left; (simp only [Act.put, p1', p2', p3', w1', w2']; rfl)
 refine u' 7 50 (B' 15 251) ?_ rfl rfl ?_ ?_ ?_ ?_; rotate_left; (intro w'; go_simp; with_reducible rfl); rotate_left; (simp only [Act.put, p1', p2', p3', w1', w2']; rfl)
 refine u' 9 52 (B' 15 763) ?_ rfl rfl ?_ ?_ ?_ ?_; rotate_left; (intro w'; go_simp; with_reducible rfl); rotate_left; (simp only [Act.put, p1', p2', p3', w1', w2']; rfl)
 refine take_ (i := 2) (N := some 45) (v := ?_) (a' := ?_) (B' 15 767) rfl rfl (by kernel_rfl) (fun _ _ _ h => h) (Or.inl ⟨by rfl, ?_⟩) hHeld ?_ ?_
 rotate_left
 · rintro w' ⟨s0, s1, s2⟩
   refine exec_load_row _ (.tmp 44) ?_ g ?_ 121 row (0, 0) _ s0 Try.underlying121 rfl (info42 hsz)
   · rfl
   · rfl
 rotate_left
 · simp only [Act.put, p1', p2', p3', w1', w2']
   rfl
 refine t' 8 51 (B' 15 1023) ?_ rfl rfl ?_ hHeld ?_ ?_ ?_; rotate_left; (rintro w' ⟨s0, s1, s2⟩; go_simp; with_reducible rfl); rotate_left; (simp only [Act.put, p1', p2', p3', w1', w2']; rfl)
 refine u' 10 53 (B' 15 2047) ?_ rfl rfl ?_ ?_ ?_ ?_; rotate_left; (intro w'; go_simp; with_reducible rfl); rotate_left; (simp only [Act.put, p1', p2', p3', w1', w2']; rfl)
 refine t' 11 54 (B' 15 4095) ?_ rfl rfl ?_ hHeld ?_ ?_ ?_; rotate_left; (rintro w' ⟨s0, s1, s2⟩; go_simp; with_reducible rfl); rotate_left; (simp only [Act.put, p1', p2', p3', w1', w2']; rfl)
 refine one_ (i := 12) (N := some 8) (B' 15 8191) rfl rfl (by kernel_rfl) (by decide) (fun K hK => ?_)
 refine value_ (w1 := ?_) (v := ?_) (by rfl) rfl ?_ ?_
 rotate_left 2
 · go_simp
   constructor
   · rfl
   · rfl
 refine hK.out _ _ ⟨k3' p0 _, pw_cell_below (b1' (Below.refl _ _) _) p1, pw_cell_below (b1' (Below.refl _ _) _) p2⟩ (fun hHeld => ?_)
 clear hK K
 refine n' ?_ ?_ ?_; rotate_left; (show Act.put _ (some 8) _ = _; simp only [Act.put, p1', p2', p3', w1', w2']; rfl)
 refine one_ (i := 13) (N := none) (B' 15 16383) rfl rfl (by kernel_rfl) (by decide) (fun K hK => ?_)
 refine skip_ (w1 := ?_) (by rfl) rfl ?_ ?_
 rotate_left
 · refine exec_store_row _ (.tmp 8) (.tmp 45) ?_ wd.heap.size row ?_ ?_ 121 _ (heap_new wd _) (info42 hsz) ?_ hone
   · rfl
   · rfl
   · rfl
   · exact hsz.symm
 refine hK.out _ _ ⟨Zd p0 (below_setRow (b1' (Below.refl _ _) _) (Nat.le_refl _) _), pw_cell_below (below_setRow (b1' (Below.refl _ _) _) (Nat.le_refl _) _) p1, pw_cell_below (below_setRow (b1' (Below.refl _ _) _) (Nat.le_refl _) _) p2⟩ (fun hHeld => ?_)
 clear hK K
 refine u' 14 9 (B' 15 32767) ?_ rfl rfl ?_ ?_ ?_ ?_; rotate_left; (intro w'; go_simp; with_reducible rfl); rotate_left; (simp only [Act.put, p1', p2', p3', w1', w2']; rfl)
 refine done_ (by kernel_rfl) ?_
 rw [← z42_def]
 obtain ⟨q, hq⟩ : ∃ q, wd.heap.size = q := ⟨_, rfl⟩
 have HQ0 := Za (setRow_heap (wd.alloc (.cells z42 121)) wd.heap.size z42 row 121 (0, 0) (heap_new wd _))
 have HB0 := Za (below_setRow (b1' (Below.refl wd.heap.size wd) (.cells z42 121)) (Nat.le_refl _) row)
 generalize hW5 : (wd.alloc (.cells z42 121)).setRow wd.heap.size row = w5 at HQ0 HB0 ⊢
 rw [hq] at HQ0 ⊢
 have HE5 := Za (HE3.out.below HB0.out)
 have HK5 := Za (HK3.out.below HB0.out)
 have HQS := Za (show ¬ S q from fun hk => by have h1 := HSB.out q hk; have h2 := HK3.out.size; omega)
 clear hW5 hq HB0 HE3 HK3 p0 p1 p2
 have HT := Za (take_calls w5 g kind st.length c low high i (rd st i) mid 0 ⟨b, 0, none⟩ HE5.out.iv)
 go_wp2_with (go_at_call 71; obtain ⟨b3, hA3, hc3, hf3, hne3⟩ := HE5.out.cell hi; cases hA3; refine (HT.out (by rw [add_plain]; exact hc3) (by rw [add_plain]; exact hf3) hne3 hi hn hs (by decide) hm0 hm1).mono ?_; rintro e w4 ⟨rfl, w4', hb4, hw4⟩; rw [add_plain] at hw4; have HE4 := Za (show DecRow w4 S g kind (some ⟨b, 0, none⟩) c (st.set i (after kind (rd st i) 0)) (cutL low mid 0) (cutH high mid 0) (.slice Ac code.length cc) code a value false from hw4 ▸ (((HE5.out.cut 0 mid).below (by rw [cutW_size]; exact hb4)).setst hi _)); have hsb : S b := HE5.out.s.1 b (by simp [Value.ownBlock]); have HK4 := Za (show Mods w5 w4 S from hw4 ▸ ((((Mods.refl w5 S).then_ (cut_kept 0 mid HE5.out.g) (fun _ h => .inl h)).below (by rw [cutW_size]; exact hb4)).setCell (.inl hsb) _)); clear hb4 hw4 hc3 hf3 hne3)
 clear HT HE5
 obtain ⟨st', hst'⟩ : ∃ st' : List Int, st.set i (after kind (rd st i) 0) = st' := ⟨_, rfl⟩
 have HST := Za hst'
 have HSL := Za (show st'.length = st.length by rw [← hst']; exact List.length_set)
 rw [hst'] at HE4
 clear hst'
 go_loopg [] 4 (fun d wr => ∃ (l h : Int) (n : List Int), Aside0 (DecRow wr S g kind (some ⟨b, 0, none⟩) c st' l h (.slice Ac code.length cc) code (a + n.length) (shV code n.length value a) false) ∧ Aside0 (Mods w5 wr S) ∧ Aside0 (PutInv [] (cutL low mid 0) (cutH high mid 0) d l h n))
 case atStart => exact ⟨_, _, [], HE4, HK4, HI⟩
 clear HE4 HK4 HI
 case round =>
  obtain ⟨l, h, n, HE6, HK6, HP⟩ := hrel
  have hp0 := HP.out.l0
  have hp1 := HP.out.lh
  have hp2 := HP.out.h0
  have hp3 := HP.out.len
  rw [List.length_nil] at hp3
  have hs6 := same_calls wr g l h HE6.out.iv.l HE6.out.iv.h hp0 (by omega)
  by_cases cx : l / 16777216 = h / 16777216
  · rw [decide_eq_true cx] at hs6
    have HSA := Za hs6
    clear hs6
    obtain ⟨d', hd', hP'⟩ := HP.out.step cx
    have HP' := Za hP'
    have HD := Za hd'
    have hv := shV_range HBY.out n.length value a hv0 hv1
    have HV := Za hv
    have hap : a + n.length ≤ 2199023255552 := by omega
    clear hd' hP' cx hv
    go_wp2_with (first
     | (go_at_call 73; refine HSA.out.mono ?_; rintro e w6 ⟨rfl, m6, hw6⟩; have HE7 := Za (show DecRow w6 S g kind (some ⟨b, 0, none⟩) c st' l h (.slice Ac code.length cc) code (a + n.length) (shV code n.length value a) false from hw6 ▸ HE6.out.drewN m6); have HK7 := Za (show Mods w5 w6 S from hw6 ▸ HK6.out.drewN m6); clear hw6; have HLO := Za (lose_calls w6 g l h HE7.out.iv.l HE7.out.iv.h HE7.out.iv.f hp0 (by omega) (by omega) hp2))
     | (go_at_call 74; refine HLO.out.mono ?_; rintro e w7 ⟨rfl, hw7⟩; have HE8 := Za (show DecRow w7 S g kind (some ⟨b, 0, none⟩) c st' (l % 16777216 * 256) (h % 16777216 * 256 + 255) (.slice Ac code.length cc) code (a + n.length) (shV code n.length value a) false from hw7 ▸ HE7.out.lost _ _); have HK8 := Za (show Mods w5 w7 S from hw7 ▸ ((HK7.out.setCell (.inl hSg) _).setCell (.inl hSg) _)); clear hw7)
     | (go_at_call 78; refine (shift_row _ S g kind _ c st' _ _ _ code _ _ false HE8.out HV.out.1 HV.out.2 HBY.out hlen hap).mono ?_; rintro e w8 ⟨rfl, hE9, hK9⟩; have HE9 := Za hE9; have HK9 := Za (HK8.out.then_ hK9 (fun _ h => .inl h)); clear hE9 hK9))
    go_roundg d'
    case measure => have := HD.out; omega
    case rel =>
     refine ⟨_, _, _, ⟨?_⟩, HK9, HP'⟩
     have h9 := HE9.out
     rw [← shV_succ] at h9
     rw [List.length_append, List.length_cons, List.length_nil, Nat.zero_add]
     exact h9
  · rw [decide_eq_false cx] at hs6
    have HSA := Za hs6
    clear hs6
    have HCC := Za (HP.out.done cx)
    clear cx
    obtain ⟨be, hbe⟩ : ∃ be : Nat, a + n.length - code.length = be := ⟨_, rfl⟩
    have HBE := Za hbe
    clear hbe
    have HN := Za (show normE 4 (cutL low mid 0) (cutH high mid 0) = (n, l, h) from by
     have h1 := HCC.out
     rw [List.nil_append] at h1
     exact Prod.ext h1.1.symm h1.2)
    by_cases hb4 : (be : Int) > 4
    · have HB4 := Za hb4
      go_wp2_with (first
       | (go_at_call 73; refine HSA.out.mono ?_; rintro e w6 ⟨rfl, m6, hw6⟩; have HE7 := Za (show DecRow w6 S g kind (some ⟨b, 0, none⟩) c st' l h (.slice Ac code.length cc) code (a + n.length) (shV code n.length value a) false from hw6 ▸ HE6.out.drewN m6); have HK7 := Za (show Mods w5 w6 S from hw6 ▸ HK6.out.drewN m6); clear hw6; have k39 := HE7.out.c39; rw [HBE.out] at k39; have HQ7 := Za (blk_mods HQ0.out HK7.out HQS.out))
       | (with_reducible refine wpList_load_row rfl _ _ rfl _ rfl _ _ _ _ HQ7.out Try.underlying121 rfl (info42 hsz) ?_)
       | (with_reducible refine wpList_store_row rfl _ _ _ rfl _ row rfl rfl _ _ HE7.out.b (info42 hsz) ((dec42_size _ _ _ _ _ _ _ _ _ _).trans hsz.symm) hone ?_; have HE8 := Za (show DecRow (w6.setRow g row) S g kind (some ⟨b, 0, none⟩) c st' low high (.slice Ac code.length cc) code a value false from HROW.out ▸ dec_setRow (st' := st) HE7.out HSL.out.symm kind low high a value false); have HK8 := Za (mods_setRow HK7.out hSg row); generalize w6.setRow g row = w8 at HE8 HK8 ⊢; have q1 := HE8.out.iv.s; rw [HSL.out] at q1; obtain ⟨b8, hA8, q2, q3, q4⟩ := HE8.out.cell (i := i) (by rw [HSL.out]; exact hi); cases hA8; have q5 := HE8.out.fz 40; have q6 := HE8.out.c40))
      go_ret2
      refine ⟨⟨l, h, n, HN.out, .inl ⟨by rw [HBE.out]; have := HB4.out; omega, rfl, ?_⟩⟩, (HK5.out.then_ HK8.out (fun _ h => .inl h)).setCell (.inl (HE8.out.s.1 b (by simp [Value.ownBlock]))) _ |>.setCell (.inl hSg) _⟩
      have h9 := HE8.out.setst (i := i) (by rw [HSL.out]; exact hi) (rd st i)
      rw [← HST.out, set_back _ hi] at h9
      exact h9.put 40 (.bool true) rfl
    · have HB4 := Za hb4
      go_wp2_with (go_at_call 73; refine HSA.out.mono ?_; rintro e w6 ⟨rfl, m6, hw6⟩; have HE7 := Za (show DecRow w6 S g kind (some ⟨b, 0, none⟩) c st' l h (.slice Ac code.length cc) code (a + n.length) (shV code n.length value a) false from hw6 ▸ HE6.out.drewN m6); have HK7 := Za (show Mods w5 w6 S from hw6 ▸ HK6.out.drewN m6); clear hw6; have k39 := HE7.out.c39; rw [HBE.out] at k39)
      go_ret2
      refine ⟨⟨l, h, n, HN.out, .inr ⟨by rw [HBE.out]; have := HB4.out; omega, rfl, ?_⟩⟩, HK5.out.then_ HK7.out (fun _ h => .inl h)⟩
      rw [HST.out]
      exact HE7.out
set_option maxHeartbeats 4000000 in
set_option maxRecDepth 100000 in
theorem get_row1 (w : World) (S : Nat → Prop) (g : Nat) (kind : Int) (b c : Nat) (st : List Int) (low high mid : Int) (vc : Value) (code : List Int) (a : Nat) (value : Int) (i : Nat) (hE : DecRow w S g kind (some ⟨b, 0, none⟩) c st low high vc code a value false) (hSb : ∀ k, S k → k < w.heap.size) (hi : i < st.length) (hn : st.length ≤ 8192) (hs : okState kind (rd st i)) (hl0 : 0 ≤ low) (hlh : low ≤ high) (hh : high ≤ 4294967295) (hmid : midOf low high (likely kind (rd st i)) = mid) (hm0 : 0 ≤ mid) (hm1 : mid ≤ 4294967295) (hI0 : PutInv [] (cutL low mid 1) (cutH high mid 1) 4 (cutL low mid 1) (cutH high mid 1) []) (hv0 : 0 ≤ value) (hv1 : value ≤ 4294967295) (hby : Bytes code) (hlen : code.length ≤ 1099511627776) (ha : a - code.length ≤ 4) (hvb : value ≤ mid) :
 Calls Try.prog 35 #[.pointer (some ⟨g, 0, none⟩), .int .i64 i] w (GetPost w S g kind b c st low high mid vc code a value i 1) := by
 have HE := Za hE
 have hSg : S g := hE.g
 obtain ⟨Ac, cc, hvc⟩ := Kd.R_slice hE.o
 subst hvc
 have h2 := hE.c41
 have k40 := hE.c40
 have k1 := hE.iv.s
 have HMID := Za (hmid ▸ mid_calls w g kind (some ⟨b, 0, none⟩) st.length c low high i (rd st i) hE.iv ⟨_, rfl, by obtain ⟨b', hA, hc, _⟩ := hE.cell hi; cases hA; rw [add_plain]; exact hc⟩ hi hn hs hl0 hlh hh)
 have HI := Za hI0
 have HBY := Za hby
 have HSB := Za hSb
 clear hE hmid hI0 hby hSb
 have hi1 : (0 : Int) ≤ (i : Int) := by omega
 have hi2 : (i : Int) < (st.length : Int) := by omega
 go_enter Try.func35, Try.ntmps35
 go_wp2_with (first
  | (go_at_call 79; refine (dec_none _ _ _ h2).mono ?_; rintro e w' ⟨rfl, rfl⟩)
  | (go_at_call 72; refine HMID.out.mono ?_; rintro e w3 ⟨rfl, hb3⟩; have HE3 := Za (HE.out.below hb3); have HK3 := Za ((Mods.refl w S).below hb3); clear hb3; have k38 := HE3.out.c38))
 clear h2 k40 k1 k38
 obtain ⟨row, hrow⟩ : ∃ row, (dec42 kind (.slice (some ⟨b, 0, none⟩) st.length c) low high (.slice Ac code.length cc) a value ((a - code.length : Nat) : Int) false true) = row := ⟨_, rfl⟩
 have hsz : row.size = 42 := by rw [← hrow]; rfl
 have hone : row.all (·.oneCell') = true := by rw [← hrow]; exact one42 _ _ _ _ _ _ _ _ _ _ _ _ _ _
 have p0 : w3.drew.heap[g]? = some (.cells row 121 (0, 0)) := by rw [← hrow]; exact HE3.out.b
 have p1 := HE3.out.drew.iv.s
 have p2 : w3.drew.cell? ⟨b, i, none⟩ = some (.int .i64 (rd st i)) := by
  obtain ⟨b3, hA3, hc3, _⟩ := HE3.out.cell hi
  cases hA3
  exact hc3
 have HROW := Za hrow
 have HE3 := Za HE3.out.drew
 have HK3 := Za HK3.out.drew
 clear hrow
 refine start_ (n := 15) (S := fun w' => w'.heap[g]? = some (.cells row 121 (0, 0)) ∧ w'.cell? ⟨g, 1, none⟩ = some (.slice (some ⟨b, 0, none⟩) st.length c) ∧ w'.cell? ⟨b, i, none⟩ = some (.int .i64 (rd st i))) (ds := []) (B' 15 0) (by kernel_rfl) rfl rfl ⟨p0, p1, p2⟩ (fun hHeld => ?_)
 generalize w3.drew = wd at p0 p1 p2 HE3 HK3 hHeld ⊢
 refine u' 0 43 (B' 15 1) ?_ rfl rfl ?_ ?_ ?_ ?_; rotate_left; (intro w'; go_simp; with_reducible rfl); rotate_left; (simp only [Act.put, p1', p2', p3', w1', w2']; rfl)
 refine u' 1 44 (B' 15 3) ?_ rfl rfl ?_ ?_ ?_ ?_; rotate_left; (intro w'; go_simp; with_reducible rfl); rotate_left; (simp only [Act.put, p1', p2', p3', w1', w2']; rfl)
 refine u' 3 46 (B' 15 11) ?_ rfl rfl ?_ ?_ ?_ ?_; rotate_left; (intro w'; go_simp; with_reducible rfl); rotate_left; (simp only [Act.put, p1', p2', p3', w1', w2']; rfl)
 refine u' 4 47 (B' 15 27) ?_ rfl rfl ?_ ?_ ?_ ?_; rotate_left; (intro w'; go_simp; with_reducible rfl); rotate_left; (simp only [Act.put, p1', p2', p3', w1', w2']; rfl)
 refine u' 5 48 (B' 15 59) ?_ rfl rfl ?_ ?_ ?_ ?_; rotate_left; (intro w'; go_simp; with_reducible rfl); rotate_left; (simp only [Act.put, p1', p2', p3', w1', w2']; rfl)
 refine u' 6 49 (B' 15 123) ?_ rfl rfl ?_ ?_ ?_ ?_; rotate_left; (intro w'; go_simp; with_reducible rfl); rotate_left; (simp only [Act.put, p1', p2', p3', w1', w2']; rfl)
 refine u' 7 50 (B' 15 251) ?_ rfl rfl ?_ ?_ ?_ ?_; rotate_left; (intro w'; go_simp; with_reducible rfl); rotate_left; (simp only [Act.put, p1', p2', p3', w1', w2']; rfl)
 refine u' 9 52 (B' 15 763) ?_ rfl rfl ?_ ?_ ?_ ?_; rotate_left; (intro w'; go_simp; with_reducible rfl); rotate_left; (simp only [Act.put, p1', p2', p3', w1', w2']; rfl)
 refine take_ (i := 2) (N := some 45) (v := ?_) (a' := ?_) (B' 15 767) rfl rfl (by kernel_rfl) (fun _ _ _ h => h) (Or.inl ⟨by rfl, ?_⟩) hHeld ?_ ?_
 rotate_left
 · rintro w' ⟨s0, s1, s2⟩
   refine exec_load_row _ (.tmp 44) ?_ g ?_ 121 row (0, 0) _ s0 Try.underlying121 rfl (info42 hsz)
   · rfl
   · rfl
 rotate_left
 · simp only [Act.put, p1', p2', p3', w1', w2']
   rfl
 refine t' 8 51 (B' 15 1023) ?_ rfl rfl ?_ hHeld ?_ ?_ ?_; rotate_left; (rintro w' ⟨s0, s1, s2⟩; go_simp; with_reducible rfl); rotate_left; (simp only [Act.put, p1', p2', p3', w1', w2']; rfl)
 refine u' 10 53 (B' 15 2047) ?_ rfl rfl ?_ ?_ ?_ ?_; rotate_left; (intro w'; go_simp; with_reducible rfl); rotate_left; (simp only [Act.put, p1', p2', p3', w1', w2']; rfl)
 refine t' 11 54 (B' 15 4095) ?_ rfl rfl ?_ hHeld ?_ ?_ ?_; rotate_left; (rintro w' ⟨s0, s1, s2⟩; go_simp; with_reducible rfl); rotate_left; (simp only [Act.put, p1', p2', p3', w1', w2']; rfl)
 refine one_ (i := 12) (N := some 8) (B' 15 8191) rfl rfl (by kernel_rfl) (by decide) (fun K hK => ?_)
 refine value_ (w1 := ?_) (v := ?_) (by rfl) rfl ?_ ?_
 rotate_left 2
 · go_simp
   constructor
   · rfl
   · rfl
 refine hK.out _ _ ⟨k3' p0 _, pw_cell_below (b1' (Below.refl _ _) _) p1, pw_cell_below (b1' (Below.refl _ _) _) p2⟩ (fun hHeld => ?_)
 clear hK K
 refine n' ?_ ?_ ?_; rotate_left; (show Act.put _ (some 8) _ = _; simp only [Act.put, p1', p2', p3', w1', w2']; rfl)
 refine one_ (i := 13) (N := none) (B' 15 16383) rfl rfl (by kernel_rfl) (by decide) (fun K hK => ?_)
 refine skip_ (w1 := ?_) (by rfl) rfl ?_ ?_
 rotate_left
 · refine exec_store_row _ (.tmp 8) (.tmp 45) ?_ wd.heap.size row ?_ ?_ 121 _ (heap_new wd _) (info42 hsz) ?_ hone
   · rfl
   · rfl
   · rfl
   · exact hsz.symm
 refine hK.out _ _ ⟨Zd p0 (below_setRow (b1' (Below.refl _ _) _) (Nat.le_refl _) _), pw_cell_below (below_setRow (b1' (Below.refl _ _) _) (Nat.le_refl _) _) p1, pw_cell_below (below_setRow (b1' (Below.refl _ _) _) (Nat.le_refl _) _) p2⟩ (fun hHeld => ?_)
 clear hK K
 refine u' 14 9 (B' 15 32767) ?_ rfl rfl ?_ ?_ ?_ ?_; rotate_left; (intro w'; go_simp; with_reducible rfl); rotate_left; (simp only [Act.put, p1', p2', p3', w1', w2']; rfl)
 refine done_ (by kernel_rfl) ?_
 rw [← z42_def]
 obtain ⟨q, hq⟩ : ∃ q, wd.heap.size = q := ⟨_, rfl⟩
 have HQ0 := Za (setRow_heap (wd.alloc (.cells z42 121)) wd.heap.size z42 row 121 (0, 0) (heap_new wd _))
 have HB0 := Za (below_setRow (b1' (Below.refl wd.heap.size wd) (.cells z42 121)) (Nat.le_refl _) row)
 generalize hW5 : (wd.alloc (.cells z42 121)).setRow wd.heap.size row = w5 at HQ0 HB0 ⊢
 rw [hq] at HQ0 ⊢
 have HE5 := Za (HE3.out.below HB0.out)
 have HK5 := Za (HK3.out.below HB0.out)
 have HQS := Za (show ¬ S q from fun hk => by have h1 := HSB.out q hk; have h2 := HK3.out.size; omega)
 clear hW5 hq HB0 HE3 HK3 p0 p1 p2
 have HT := Za (take_calls w5 g kind st.length c low high i (rd st i) mid 1 ⟨b, 0, none⟩ HE5.out.iv)
 go_wp2_with (go_at_call 71; obtain ⟨b3, hA3, hc3, hf3, hne3⟩ := HE5.out.cell hi; cases hA3; refine (HT.out (by rw [add_plain]; exact hc3) (by rw [add_plain]; exact hf3) hne3 hi hn hs (by decide) hm0 hm1).mono ?_; rintro e w4 ⟨rfl, w4', hb4, hw4⟩; rw [add_plain] at hw4; have HE4 := Za (show DecRow w4 S g kind (some ⟨b, 0, none⟩) c (st.set i (after kind (rd st i) 1)) (cutL low mid 1) (cutH high mid 1) (.slice Ac code.length cc) code a value false from hw4 ▸ (((HE5.out.cut 1 mid).below (by rw [cutW_size]; exact hb4)).setst hi _)); have hsb : S b := HE5.out.s.1 b (by simp [Value.ownBlock]); have HK4 := Za (show Mods w5 w4 S from hw4 ▸ ((((Mods.refl w5 S).then_ (cut_kept 1 mid HE5.out.g) (fun _ h => .inl h)).below (by rw [cutW_size]; exact hb4)).setCell (.inl hsb) _)); clear hb4 hw4 hc3 hf3 hne3)
 clear HT HE5
 obtain ⟨st', hst'⟩ : ∃ st' : List Int, st.set i (after kind (rd st i) 1) = st' := ⟨_, rfl⟩
 have HST := Za hst'
 have HSL := Za (show st'.length = st.length by rw [← hst']; exact List.length_set)
 rw [hst'] at HE4
 clear hst'
 go_loopg [] 4 (fun d wr => ∃ (l h : Int) (n : List Int), Aside0 (DecRow wr S g kind (some ⟨b, 0, none⟩) c st' l h (.slice Ac code.length cc) code (a + n.length) (shV code n.length value a) false) ∧ Aside0 (Mods w5 wr S) ∧ Aside0 (PutInv [] (cutL low mid 1) (cutH high mid 1) d l h n))
 case atStart => exact ⟨_, _, [], HE4, HK4, HI⟩
 clear HE4 HK4 HI
 case round =>
  obtain ⟨l, h, n, HE6, HK6, HP⟩ := hrel
  have hp0 := HP.out.l0
  have hp1 := HP.out.lh
  have hp2 := HP.out.h0
  have hp3 := HP.out.len
  rw [List.length_nil] at hp3
  have hs6 := same_calls wr g l h HE6.out.iv.l HE6.out.iv.h hp0 (by omega)
  by_cases cx : l / 16777216 = h / 16777216
  · rw [decide_eq_true cx] at hs6
    have HSA := Za hs6
    clear hs6
    obtain ⟨d', hd', hP'⟩ := HP.out.step cx
    have HP' := Za hP'
    have HD := Za hd'
    have hv := shV_range HBY.out n.length value a hv0 hv1
    have HV := Za hv
    have hap : a + n.length ≤ 2199023255552 := by omega
    clear hd' hP' cx hv
    go_wp2_with (first
     | (go_at_call 73; refine HSA.out.mono ?_; rintro e w6 ⟨rfl, m6, hw6⟩; have HE7 := Za (show DecRow w6 S g kind (some ⟨b, 0, none⟩) c st' l h (.slice Ac code.length cc) code (a + n.length) (shV code n.length value a) false from hw6 ▸ HE6.out.drewN m6); have HK7 := Za (show Mods w5 w6 S from hw6 ▸ HK6.out.drewN m6); clear hw6; have HLO := Za (lose_calls w6 g l h HE7.out.iv.l HE7.out.iv.h HE7.out.iv.f hp0 (by omega) (by omega) hp2))
     | (go_at_call 74; refine HLO.out.mono ?_; rintro e w7 ⟨rfl, hw7⟩; have HE8 := Za (show DecRow w7 S g kind (some ⟨b, 0, none⟩) c st' (l % 16777216 * 256) (h % 16777216 * 256 + 255) (.slice Ac code.length cc) code (a + n.length) (shV code n.length value a) false from hw7 ▸ HE7.out.lost _ _); have HK8 := Za (show Mods w5 w7 S from hw7 ▸ ((HK7.out.setCell (.inl hSg) _).setCell (.inl hSg) _)); clear hw7)
     | (go_at_call 78; refine (shift_row _ S g kind _ c st' _ _ _ code _ _ false HE8.out HV.out.1 HV.out.2 HBY.out hlen hap).mono ?_; rintro e w8 ⟨rfl, hE9, hK9⟩; have HE9 := Za hE9; have HK9 := Za (HK8.out.then_ hK9 (fun _ h => .inl h)); clear hE9 hK9))
    go_roundg d'
    case measure => have := HD.out; omega
    case rel =>
     refine ⟨_, _, _, ⟨?_⟩, HK9, HP'⟩
     have h9 := HE9.out
     rw [← shV_succ] at h9
     rw [List.length_append, List.length_cons, List.length_nil, Nat.zero_add]
     exact h9
  · rw [decide_eq_false cx] at hs6
    have HSA := Za hs6
    clear hs6
    have HCC := Za (HP.out.done cx)
    clear cx
    obtain ⟨be, hbe⟩ : ∃ be : Nat, a + n.length - code.length = be := ⟨_, rfl⟩
    have HBE := Za hbe
    clear hbe
    have HN := Za (show normE 4 (cutL low mid 1) (cutH high mid 1) = (n, l, h) from by
     have h1 := HCC.out
     rw [List.nil_append] at h1
     exact Prod.ext h1.1.symm h1.2)
    by_cases hb4 : (be : Int) > 4
    · have HB4 := Za hb4
      go_wp2_with (first
       | (go_at_call 73; refine HSA.out.mono ?_; rintro e w6 ⟨rfl, m6, hw6⟩; have HE7 := Za (show DecRow w6 S g kind (some ⟨b, 0, none⟩) c st' l h (.slice Ac code.length cc) code (a + n.length) (shV code n.length value a) false from hw6 ▸ HE6.out.drewN m6); have HK7 := Za (show Mods w5 w6 S from hw6 ▸ HK6.out.drewN m6); clear hw6; have k39 := HE7.out.c39; rw [HBE.out] at k39; have HQ7 := Za (blk_mods HQ0.out HK7.out HQS.out))
       | (with_reducible refine wpList_load_row rfl _ _ rfl _ rfl _ _ _ _ HQ7.out Try.underlying121 rfl (info42 hsz) ?_)
       | (with_reducible refine wpList_store_row rfl _ _ _ rfl _ row rfl rfl _ _ HE7.out.b (info42 hsz) ((dec42_size _ _ _ _ _ _ _ _ _ _).trans hsz.symm) hone ?_; have HE8 := Za (show DecRow (w6.setRow g row) S g kind (some ⟨b, 0, none⟩) c st' low high (.slice Ac code.length cc) code a value false from HROW.out ▸ dec_setRow (st' := st) HE7.out HSL.out.symm kind low high a value false); have HK8 := Za (mods_setRow HK7.out hSg row); generalize w6.setRow g row = w8 at HE8 HK8 ⊢; have q1 := HE8.out.iv.s; rw [HSL.out] at q1; obtain ⟨b8, hA8, q2, q3, q4⟩ := HE8.out.cell (i := i) (by rw [HSL.out]; exact hi); cases hA8; have q5 := HE8.out.fz 40; have q6 := HE8.out.c40))
      go_ret2
      refine ⟨⟨l, h, n, HN.out, .inl ⟨by rw [HBE.out]; have := HB4.out; omega, rfl, ?_⟩⟩, (HK5.out.then_ HK8.out (fun _ h => .inl h)).setCell (.inl (HE8.out.s.1 b (by simp [Value.ownBlock]))) _ |>.setCell (.inl hSg) _⟩
      have h9 := HE8.out.setst (i := i) (by rw [HSL.out]; exact hi) (rd st i)
      rw [← HST.out, set_back _ hi] at h9
      exact h9.put 40 (.bool true) rfl
    · have HB4 := Za hb4
      go_wp2_with (go_at_call 73; refine HSA.out.mono ?_; rintro e w6 ⟨rfl, m6, hw6⟩; have HE7 := Za (show DecRow w6 S g kind (some ⟨b, 0, none⟩) c st' l h (.slice Ac code.length cc) code (a + n.length) (shV code n.length value a) false from hw6 ▸ HE6.out.drewN m6); have HK7 := Za (show Mods w5 w6 S from hw6 ▸ HK6.out.drewN m6); clear hw6; have k39 := HE7.out.c39; rw [HBE.out] at k39)
      go_ret2
      refine ⟨⟨l, h, n, HN.out, .inr ⟨by rw [HBE.out]; have := HB4.out; omega, rfl, ?_⟩⟩, HK5.out.then_ HK7.out (fun _ h => .inl h)⟩
      rw [HST.out]
      exact HE7.out
/-- A decoder in memory. -/
def DecAt (W : World) (S : Nat → Prop) (g : Nat) (s : DS) : Prop := ∃ A c vc, DecRow W S g s.kind A c s.st s.low s.high vc s.code s.a s.value s.ended
theorem DecAt.kept {W W' : World} {S S' : Nat → Prop} {g : Nat} {s : DS} (h : DecAt W S g s) (hk : Mods W W' S') (hne : ∀ k, S k → ¬ S' k) : DecAt W' S g s := by
 obtain ⟨A, c, vo, h⟩ := h
 exact ⟨A, c, vo, h.kept hk hne⟩
theorem DecAt.below {W W' : World} {S : Nat → Prop} {g : Nat} {s : DS} (h : DecAt W S g s) (hb : Below W.heap.size W W') : DecAt W' S g s := by
 obtain ⟨A, c, vo, h⟩ := h
 exact ⟨A, c, vo, h.below hb⟩
theorem DecAt.mono {W : World} {S S' : Nat → Prop} {g : Nat} {s : DS} (h : DecAt W S g s) (hs : ∀ k, S k → S' k) : DecAt W S' g s := by
 obtain ⟨A, c, vo, h⟩ := h
 exact ⟨A, c, vo, h.mono hs⟩
theorem get_end (w : World) (g : Nat) (i : Nat) (n : Nat) (A : Option Addr) (c : Nat) (hi : i < n) (h1 : w.cell? ⟨g, 1, none⟩ = some (.slice A n c)) (h2 : w.cell? ⟨g, 41, none⟩ = some (.bool true)) (h3 : w.cell? ⟨g, 40, none⟩ = some (.bool true)) :
 Calls Try.prog 35 #[.pointer (some ⟨g, 0, none⟩), .int .i64 i] w fun e w' => e = .returned (.tuple #[.int .i64 0, .int .i64 6]) ∧ w = w' := by
 have hi1 : (0 : Int) ≤ (i : Int) := by omega
 have hi2 : (i : Int) < (n : Int) := by omega
 go_enter Try.func35, Try.ntmps35
 go_wp2_with (go_at_call 79; refine (dec_none _ _ _ h2).mono ?_; rintro e w' ⟨rfl, rfl⟩)
 go_ret2
 exact ⟨rfl, rfl⟩
theorem get_bad (w : World) (g : Nat) (i : Int) (n : Nat) (A : Option Addr) (c : Nat) (hi : ¬ (0 ≤ i ∧ i < n)) (h1 : w.cell? ⟨g, 1, none⟩ = some (.slice A n c)) (h2 : w.cell? ⟨g, 41, none⟩ = some (.bool true)) :
 Calls Try.prog 35 #[.pointer (some ⟨g, 0, none⟩), .int .i64 i] w fun e w' => e = .returned (.tuple #[.int .i64 0, .int .i64 2]) ∧ w = w' := by
 have hi' : i < 0 ∨ (i ≥ n ∧ ¬ i < 0) := by omega
 clear hi
 rcases hi' with h | ⟨h, h0⟩
 · go_enter Try.func35, Try.ntmps35
   go_wp2_with (go_at_call 79; refine (dec_none _ _ _ h2).mono ?_; rintro e w' ⟨rfl, rfl⟩)
   go_ret2
   exact ⟨rfl, rfl⟩
 · go_enter Try.func35, Try.ntmps35
   go_wp2_with (go_at_call 79; refine (dec_none _ _ _ h2).mono ?_; rintro e w' ⟨rfl, rfl⟩)
   go_ret2
   exact ⟨rfl, rfl⟩
theorem get_nil (w : World) (i : Int) : Calls Try.prog 35 #[.pointer none, .int .i64 i] w fun e w' => e = .returned (.tuple #[.int .i64 0, .int .i64 7]) ∧ w = w' := by
 go_enter Try.func35, Try.ntmps35
 go_wp2_with (go_at_call 79; refine (dec_none_nil _).mono ?_; rintro e w' ⟨rfl, rfl⟩)
 go_ret2
 exact ⟨rfl, rfl⟩
theorem get_calls (w : World) (S : Nat → Prop) (g : Nat) (s : DS) (i : Int) (hE : DecAt w S g s) (hS : ∀ k, S k → k < w.heap.size) (hok : s.ok) :
 Calls Try.prog 35 #[.pointer (some ⟨g, 0, none⟩), .int .i64 i] w fun e w' => e = .returned (.tuple #[.int .i64 (s.getI i).2.1, .int .i64 (s.getI i).2.2]) ∧ DecAt w' S g (s.getI i).1 ∧ Mods w w' S := by
 obtain ⟨A, c, vo, hR⟩ := hE
 unfold DS.getI
 by_cases hi : 0 ≤ i ∧ i < s.st.length
 · rw [if_pos hi]
   obtain ⟨j, rfl⟩ : ∃ j : Nat, i = (j : Int) := ⟨i.toNat, by omega⟩
   rw [Int.toNat_natCast]
   have hj : j < s.st.length := by omega
   by_cases he : s.ended = true
   · rw [if_pos he]
     have h40 := hR.c40
     rw [he] at h40
     refine (get_end w g j s.st.length A c hj hR.iv.s hR.c41 h40).mono ?_
     rintro e w' ⟨rfl, rfl⟩
     exact ⟨rfl, ⟨A, c, vo, hR⟩, Mods.refl _ _⟩
   · rw [if_neg he]
     have hef : s.ended = false := by simpa using he
     obtain ⟨b, rfl, _⟩ := hR.cell hj
     have hm := DS.mid_ hok hj
     have hc := DS.cut_ hok hj
     have hl := hok.l
     have hh := hok.h
     have hI : PutInv [] (cutL s.low (s.mid j) (s.bit j)) (cutH s.high (s.mid j) (s.bit j)) 4 (cutL s.low (s.mid j) (s.bit j)) (cutH s.high (s.mid j) (s.bit j)) [] := ⟨hc.1, hc.2.1, hc.2.2, by rw [show (256 : Int) ^ 4 = 4294967296 from rfl]; omega, rfl, rfl, Nat.le_refl _⟩
     have key : Calls Try.prog 35 #[.pointer (some ⟨g, 0, none⟩), .int .i64 j] w (GetPost w S g s.kind b c s.st s.low s.high (s.mid j) vo s.code s.a s.value j (s.bit j)) := by
      rw [hef] at hR
      by_cases hv : s.value ≤ s.mid j
      · have hb : s.bit j = 1 := if_pos hv
        rw [hb] at hI ⊢
        exact get_row1 w S g s.kind b c s.st s.low s.high (s.mid j) vo s.code s.a s.value j hR hS hj hok.m.2.1 (DS.at_ hok hj) hl hok.lh hh rfl (by omega) (by omega) hI hok.v0 hok.v1 hok.by_ hok.len hok.be hv
      · have hb : s.bit j = 0 := if_neg hv
        rw [hb] at hI ⊢
        exact get_row0 w S g s.kind b c s.st s.low s.high (s.mid j) vo s.code s.a s.value j hR hS hj hok.m.2.1 (DS.at_ hok hj) hl hok.lh hh rfl (by omega) (by omega) hI hok.v0 hok.v1 hok.by_ hok.len hok.be hv
     refine key.mono ?_
     rintro e w' ⟨⟨l, h, n, hn, hq⟩, hk⟩
     have hn' : s.norm j = (n, l, h) := hn
     rw [hn']
     rcases hq with ⟨hb, rfl, hD⟩ | ⟨hb, rfl, hD⟩
     · rw [if_pos hb]
       exact ⟨rfl, ⟨_, c, vo, hD⟩, hk⟩
     · rw [if_neg hb]
       refine ⟨rfl, ⟨some ⟨b, 0, none⟩, c, vo, ?_⟩, hk⟩
       have e1 : s.next j = ⟨s.kind, s.st.set j (after s.kind (rd s.st j) (s.bit j)), l, h, s.code, s.a + n.length, shV s.code n.length s.value s.a, false⟩ := by
        unfold DS.next
        rw [hn']
       rw [e1]
       exact hD
 · rw [if_neg hi]
   refine (get_bad w g i s.st.length A c hi hR.iv.s hR.c41).mono ?_
   rintro e w' ⟨rfl, rfl⟩
   exact ⟨rfl, ⟨A, c, vo, hR⟩, Mods.refl _ _⟩
end Go.Proofs.Ytkfejicdjpffcaa.Get
namespace Go.Proofs.Ytkfejicdjpffcaa.DecNew
open Go Go.RowKit YtkfejicdjpffcaaW PrintWords PrintLast PrintMore Aid HandAid Cod1 Cod2 Cod3 Ytkfejicdjpffcaa.Mod Enc Mods EncAt Put End Snc Encode Dec Get
/-- A fresh decoder. -/
def newDS (kind : Int) (st code : List Int) : DS := ⟨kind, st, 0, 4294967295, code, 4, shV code 4 0 0, false⟩
theorem newDS_ok {kind : Int} {st code : List Int} (h : okModel kind st) (hb : Bytes code) (hl : code.length ≤ 1099511627776) : (newDS kind st code).ok := by
 have hv := shV_range hb 4 0 0 (by omega) (by omega)
 exact ⟨h, show (0 : Int) ≤ 0 by decide, show (0 : Int) ≤ 4294967295 by decide, show (4294967295 : Int) ≤ 4294967295 by decide, show (0 : Int) / 16777216 ≠ 4294967295 / 16777216 by decide, hv.1, hv.2, hb, hl, show 4 - code.length ≤ 4 by omega⟩
theorem dec42_new (kind : Int) (v vc : Value) : dec42 kind v 0 4294967295 vc 0 0 0 false true = #[.int .i64 kind, v, .int .i64 2048, .int .i64 1792, .int .i64 1568, .int .i64 1372, .int .i64 1201, .int .i64 1051, .int .i64 920, .int .i64 805, .int .i64 705, .int .i64 617, .int .i64 540, .int .i64 473, .int .i64 414, .int .i64 363, .int .i64 318, .int .i64 279, .int .i64 245, .int .i64 215, .int .i64 189, .int .i64 166, .int .i64 146, .int .i64 128, .int .i64 112, .int .i64 98, .int .i64 86, .int .i64 76, .int .i64 67, .int .i64 59, .int .i64 52, .int .i64 46, .int .i64 41, .int .i64 36, .int .u64 0, .int .u64 4294967295, vc, .int .i64 0, .int .u64 0, .int .i64 0, .bool false, .bool true] := rfl
def NewDecPost (w : World) (kind : Int) (st code : List Int) (e : Ending) (w' : World) : Prop := ∃ g, e = .returned (.tuple #[.pointer (some ⟨g, 0, none⟩), .int .i64 0]) ∧ DecAt w' (Since w.heap.size w') g (newDS kind st code) ∧ Below w.heap.size w w'
set_option maxHeartbeats 4000000 in
set_option maxRecDepth 100000 in
theorem new_dec (A : Option Addr) (c : Nat) (kind : Int) (st : List Int) (Ac : Option Addr) (cc : Nat) (code : List Int) (w : World) (hC : Kd.C (Kd.int .i64) w A st.length st) (hc : st.length ≤ c) (hm : okModel kind st) (hCc : Kd.C (Kd.int .u8) w Ac code.length code) (hcc : code.length ≤ cc) (hby : Bytes code) (hlen : code.length ≤ 1099511627776) :
 Calls Try.prog 34 #[.agg #[.int .i64 kind, .slice A st.length c], .slice Ac code.length cc] w (NewDecPost w kind st code) := by
 have HC := Za hC
 have HCc := Za hCc
 have hv := valid_calls A c kind st
 rw [decide_eq_true hm] at hv
 have HV := Za hv
 have HM := Za hm
 have HBY := Za hby
 have hl := hm.2.1
 clear hC hv hm hCc hby
 have hb0 := Za (b1' (Below.refl w.heap.size w) (.cells #[.int .i64 kind, .slice A st.length c] 45))
 have hq0 : Aside0 ((w.alloc (.cells #[.int .i64 kind, .slice A st.length c] 45)).heap[w.heap.size]? = some (.cells #[.int .i64 kind, .slice A st.length c] 45 (0, 0))) := ⟨heap_new _ _⟩
 go_enter Try.func34, Try.ntmps34
 go_wp2_with (first
  | (go_at_call 51; refine (HV.out _ (Kd.C_below HC.out hb0.out) hc).mono ?_; rintro e w1 ⟨rfl, hB⟩; have HB := Za (below_then hb0.out hb0.out.size hB); have hq1 : Aside0 (w1.heap[w.heap.size]? = some (.cells #[.int .i64 kind, .slice A st.length c] 45 (0, 0))) := ⟨(hB.block _ (blk_lt hq0.out)).trans hq0.out⟩; have k0 : w1.cell? ⟨w.heap.size, 0, none⟩ = some (.int .i64 kind) := (Zc hq1.out 0).trans rfl; have k1 : w1.cell? ⟨w.heap.size, 1, none⟩ = some (.slice A st.length c) := (Zc hq1.out 1).trans rfl; clear hB)
  | (go_at_call 52; refine (begin_calls A c kind st _ (Kd.C_below HC.out HB.out) hc (by omega)).mono ?_; rintro e w2 ⟨A2, c2, rfl, hR, hB⟩; have HB2 := Za (below_then HB.out HB.out.size hB); have HR := Za (Kd.R_alloc (Kd.R_lower hR HB.out.size) (.cells #[] 5)); have HR1 : Aside0 (Kd.R (Kd.int .u8) 5 (w2.alloc (.cells #[] 5)) w.heap.size (fun _ => True) (.slice (some ⟨w2.heap.size, 0, none⟩) 0 0) []) := ⟨Kd.R_of_own (enc := Value.int .u8) (World.ownsRow_lit w2 #[] 0 HB2.out.size (by decide) rfl) (fun _ _ => trivial)⟩; have HB2' := Za (b1' HB2.out (.cells #[] 5)); have HCo := Za (Kd.C_below HCc.out HB2'.out); clear hR hB; unfold iv36)
  | (at_builtin; refine Kd.R_append_rows (Kd.int .u8) (w0 := w) w.heap.size (by rfl) (.tmp 12) (.tmp 13) 29 5 (.int .u8 0) 1 rfl Try.underlying29 infoU8 rfl (by decide) (by omega) (.slice (some ⟨w2.heap.size, 0, none⟩) 0 0) [] code _ _ _ (fun _ => True) (fun _ => False) rfl rfl HR1.out HCo.out (fun _ _ h => h) (fun _ h => h.elim) (fun _ _ => trivial) HB2'.out HB2'.out.size (by simp only [List.length_nil]; omega) ?_; intro v3 w3 hR3 hB3 hg3 hat3; rw [List.nil_append] at hR3; obtain ⟨A3, c3, hv3⟩ := Kd.R_slice hR3; subst hv3; have HS3 := Za (Kd.R_over HR.out HR1.out (by decide) hg3); have HR3 := Za hR3; have HB3 := Za hB3; clear hR3 hB3 hg3 hat3))
 clear HR1 HR HCo HB2' HV
 rw [← dec42_new]
 have HR0 := Za (heap_new w3 (.cells (dec42 kind (.slice A2 st.length c2) 0 4294967295 (.slice A3 code.length c3) 0 0 0 false true) 121))
 have HB4 := Za (b1' HB3.out (.cells (dec42 kind (.slice A2 st.length c2) 0 4294967295 (.slice A3 code.length c3) 0 0 0 false true) 121))
 have HRS := Za (Kd.R_alloc HS3.out (.cells (dec42 kind (.slice A2 st.length c2) 0 4294967295 (.slice A3 code.length c3) 0 0 0 false true) 121))
 have HRO := Za (Kd.R_alloc HR3.out (.cells (dec42 kind (.slice A2 st.length c2) 0 4294967295 (.slice A3 code.length c3) 0 0 0 false true) 121))
 generalize w3.alloc (.cells (dec42 kind (.slice A2 st.length c2) 0 4294967295 (.slice A3 code.length c3) 0 0 0 false true) 121) = w4 at HR0 HB4 HRS HRO ⊢
 have HQ3 := Za HB3.out.size
 obtain ⟨q, hq⟩ : ∃ q, w3.heap.size = q := ⟨_, rfl⟩
 rw [hq] at HR0 HQ3 ⊢
 obtain ⟨S, hS⟩ : ∃ S : Nat → Prop, S = Since w.heap.size w4 := ⟨_, rfl⟩
 have HE0 : Aside0 (DecRow w4 S q kind A2 c2 st 0 4294967295 (.slice A3 code.length c3) code 0 0 false) := ⟨by
  subst hS
  refine ⟨?_, Kd.R_lower (Kd.R_mono (Kd.R_bound HRS.out) fun k hk => ⟨hk.2.1, hk.2.2.1⟩) (Nat.zero_le _), Kd.R_lower (Kd.R_mono (Kd.R_bound HRO.out) fun k hk => ⟨hk.2.1, hk.2.2.1⟩) (Nat.zero_le _), ⟨HQ3.out, blk_lt HR0.out⟩⟩
  rw [Nat.zero_sub]
  exact HR0.out⟩
 have HS := Za hS
 clear hS HR0 HRS HRO HS3 HR3 HB3 HB2 HB hq hq0 hq1 hb0 k0 k1
 go_loopw [17] (fun i wr => ∃ (k : Nat), k ≤ 4 ∧ i = .int .i64 k ∧ Aside0 (DecRow wr S q kind A2 c2 st 0 4294967295 (.slice A3 code.length c3) code k (shV code k 0 0) false) ∧ Aside0 (Mods w4 wr S)) (fun i _ => 5 - (intOf i).toNat)
 case atStart => exact ⟨0, by omega, rfl, HE0, ⟨Mods.refl _ _⟩⟩
 clear HE0
 case round =>
  obtain ⟨k, hk, rfl, HE, HK⟩ := hrel
  by_cases h4 : (k : Int) < 4
  · have HV := Za (shV_range HBY.out k 0 0 (by omega) (by omega))
    go_wp2_with (go_at_call 78; refine (shift_row _ S q kind _ c2 st _ _ _ code _ _ false HE.out HV.out.1 HV.out.2 HBY.out hlen (by omega)).mono ?_; rintro e w8 ⟨rfl, hE9, hK9⟩; have HE9 := Za hE9; have HK9 := Za (HK.out.then_ hK9 (fun _ h => .inl h)); clear hE9 hK9)
    go_roundw
    case measure => simp only [intOf]; omega
    case rel =>
     refine ⟨k + 1, by omega, rfl, ⟨?_⟩, HK9⟩
     have h9 := HE9.out
     have e9 := shV_succ code k 0 0
     rw [Nat.zero_add] at e9
     rw [e9]
     exact h9
  · have e4 : k = 4 := by omega
    subst e4
    go_wp2
    go_ret2
    have hb := below_mods HB4.out HK.out (fun k hk => by rw [HS.out] at hk; exact hk.1) HB4.out.size
    refine ⟨q, rfl, ⟨A2, c2, .slice A3 code.length c3, HE.out.mono fun k hk => ?_⟩, hb⟩
    rw [HS.out] at hk
    exact ⟨hk.1, Nat.lt_of_lt_of_le hk.2 HK.out.size⟩
set_option maxRecDepth 100000 in
theorem dec_model_calls (w : World) (S : Nat → Prop) (g : Nat) (s : DS) (hE : DecAt w S g s) (hok : s.ok) :
 Calls Try.prog 81 #[.pointer (some ⟨g, 0, none⟩)] w (MPost w s.kind s.st) := by
 obtain ⟨A, c, vo, hR⟩ := hE
 have HE := Za (hR.below (b1' (Below.refl _ _) (.cells #[.int .i64 0, .slice none 0 0] 45)))
 have HB := Za (b1' (Below.refl w.heap.size w) (.cells #[.int .i64 0, .slice none 0 0] 45))
 have HZ := Za (heap_new w (.cells #[.int .i64 0, .slice none 0 0] 45))
 have hu := Try.underlying45
 have h2 := HE.out.c41
 have k0 := HE.out.iv.k
 have k1 := HE.out.iv.s
 have hl := hok.m.2.1
 obtain ⟨hn, hc, hC⟩ := Kd.R_reads' HE.out.s
 have HC := Za hC
 obtain ⟨b2, hb2⟩ : ∃ b2, w.heap.size = b2 := ⟨_, rfl⟩
 have HSZ := Za hb2
 rw [hb2] at HZ
 clear hR hn hC
 go_enter Try.func81, Try.ntmps81
 go_wp2_with (first
  | (go_at_call 79; refine (dec_none _ _ _ h2).mono ?_; rintro e w' ⟨rfl, rfl⟩)
  | (go_at_call 77; refine (clone_calls A c s.kind s.st _ HC.out hc (by omega)).mono ?_; rintro e w4 ⟨A4, c4, rfl, hR4, hB4⟩; have HR4 := Za (Kd.R_lower hR4 HB.out.size); have HB4 := Za (below_then HB.out HB.out.size hB4); have HZ4 := Za (Zd HZ.out hB4); have z0 : w4.cell? ⟨b2, 0, none⟩ = some (.int .i64 0) := (Zc HZ4.out 0).trans rfl; have z1 : w4.cell? ⟨b2, 1, none⟩ = some (.slice none 0 0) := (Zc HZ4.out 1).trans rfl; have zf0 := Zf HZ4.out 0; have zf1 := Zf HZ4.out 1; clear hR4 hB4))
 have hz2 : (w4.setCell ⟨b2, 0, none⟩ (.int .i64 s.kind)).heap[b2]? = some (.cells #[.int .i64 s.kind, .slice none 0 0] 45 (0, 0)) := blk_put (cs := #[.int .i64 0, .slice none 0 0]) HZ4.out 0 _ rfl
 refine bodyPost_ret (results_cell_row rfl _ _ b2 45 #[.int .i64 s.kind, .slice A4 s.st.length c4] (0, 0) _ rfl (blk_put (cs := #[.int .i64 s.kind, .slice none 0 0]) hz2 1 _ rfl) Try.underlying45 rfl (by kernel_rfl)) rfl ?_
 have hwb : w.heap.size ≤ b2 := by rw [HSZ.out]; exact Nat.le_refl _
 exact ⟨A4, c4, rfl, Kd.R_set (Kd.R_set HR4.out HZ4.out (by decide) _ _) hz2 (by decide) _ _, (HB4.out.setCell hwb _).setCell hwb _⟩
end Go.Proofs.Ytkfejicdjpffcaa.DecNew
namespace Go.Proofs.Ytkfejicdjpffcaa.RefAt
open Go Go.RowKit YtkfejicdjpffcaaW PrintWords PrintLast PrintMore Aid HandAid Cod1 Cod2 Cod3 Ytkfejicdjpffcaa.Mod Enc Mods EncAt Put U
/-- The reference's encoder: its cells. -/
def ref5 (kind : Int) (v : Value) (low high : Int) (o : Value) : Array Value := #[.int .i64 kind, v, .int .u64 low, .int .u64 high, o]
structure RefRow (W : World) (S : Nat → Prop) (g : Nat) (kind : Int) (A : Option Addr) (c : Nat) (st : List Int) (low high : Int) (vo : Value) (out : List Int) : Prop where
 b : W.heap[g]? = some (.cells (ref5 kind (.slice A st.length c) low high vo) 99 (0, 0))
 s : Kd.R (Kd.int .i64) 3 W 0 S (.slice A st.length c) st
 o : Kd.R (Kd.int .u8) 5 W 0 S vo out
 g : S g
section
variable {W W' : World} {S S' : Nat → Prop} {g : Nat} {kind : Int} {A : Option Addr} {c : Nat} {st : List Int} {low high : Int} {vo : Value} {out : List Int}
theorem RefRow.kept (h : RefRow W S g kind A c st low high vo out) (hk : Mods W W' S') (hne : ∀ k, S k → ¬ S' k) : RefRow W' S g kind A c st low high vo out :=
 ⟨blk_kept h.b hk.kept (hne g h.g), Kd.R_kept h.s hk.kept hne, Kd.R_kept h.o hk.kept hne, h.g⟩
theorem RefRow.below (h : RefRow W S g kind A c st low high vo out) (hb : Below W.heap.size W W') : RefRow W' S g kind A c st low high vo out :=
 ⟨Zd h.b hb, Kd.R_below h.s hb, Kd.R_below h.o hb, h.g⟩
theorem RefRow.drewN (h : RefRow W S g kind A c st low high vo out) (m : Nat) : RefRow (W.drewN m) S g kind A c st low high vo out := h.below (b2' (Below.refl _ _) m)
theorem RefRow.drew (h : RefRow W S g kind A c st low high vo out) : RefRow W.drew S g kind A c st low high vo out := h.below (below_drew (Below.refl _ _))
theorem RefRow.mono (h : RefRow W S g kind A c st low high vo out) (hs : ∀ k, S k → S' k) : RefRow W S' g kind A c st low high vo out :=
 ⟨h.b, Kd.R_mono h.s hs, Kd.R_mono h.o hs, hs g h.g⟩
theorem RefRow.bound (h : RefRow W S g kind A c st low high vo out) : RefRow W (fun k => S k ∧ k < W.heap.size) g kind A c st low high vo out :=
 ⟨h.b, Kd.R_mono (Kd.R_bound h.s) (fun _ hk => ⟨hk.1, hk.2.2.1⟩), Kd.R_mono (Kd.R_bound h.o) (fun _ hk => ⟨hk.1, hk.2.2.1⟩), h.g, blk_lt h.b⟩
theorem RefRow.c0 (h : RefRow W S g kind A c st low high vo out) : W.cell? ⟨g, 0, none⟩ = some (.int .i64 kind) := (Zc h.b 0).trans rfl
theorem RefRow.c1 (h : RefRow W S g kind A c st low high vo out) : W.cell? ⟨g, 1, none⟩ = some (.slice A st.length c) := (Zc h.b 1).trans rfl
theorem RefRow.c2 (h : RefRow W S g kind A c st low high vo out) : W.cell? ⟨g, 2, none⟩ = some (.int .u64 low) := (Zc h.b 2).trans rfl
theorem RefRow.c3 (h : RefRow W S g kind A c st low high vo out) : W.cell? ⟨g, 3, none⟩ = some (.int .u64 high) := (Zc h.b 3).trans rfl
theorem RefRow.c4 (h : RefRow W S g kind A c st low high vo out) : W.cell? ⟨g, 4, none⟩ = some vo := (Zc h.b 4).trans rfl
theorem RefRow.fz (h : RefRow W S g kind A c st low high vo out) (i : Nat) : W.frozen? ⟨g, i, none⟩ = false := Zf h.b i
theorem RefRow.cell (h : RefRow W S g kind A c st low high vo out) {i : Nat} (hi : i < st.length) : ∃ b, A = some ⟨b, 0, none⟩ ∧ W.cell? ⟨b, i, none⟩ = some (.int .i64 (rd st i)) ∧ W.frozen? ⟨b, i, none⟩ = false ∧ b ≠ g := by
 obtain ⟨b, cap, hv, _, _, cells, hc⟩ := Kd.R_form h.s (by omega)
 injection hv with hA _ hcap
 subst hA hcap
 have h1 := Kd.R_cell (0 : Int) h.s (i : Int) (by omega) (by omega)
 have hne : b ≠ g := blk_ne hc h.b (by decide)
 exact ⟨b, rfl, h1.1, h1.2, hne⟩
theorem RefRow.cut (h : RefRow W S g kind A c st low high vo out) (l' h' : Int) : RefRow ((W.setCell ⟨g, 2, none⟩ (.int .u64 l')).setCell ⟨g, 3, none⟩ (.int .u64 h')) S g kind A c st l' h' vo out := by
 have h1 : (W.setCell ⟨g, 2, none⟩ (.int .u64 l')).heap[g]? = some (.cells (ref5 kind (.slice A st.length c) l' high vo) 99 (0, 0)) := blk_put h.b 2 _ rfl
 exact ⟨blk_put h1 3 _ rfl, Kd.R_set (Kd.R_set h.s h.b (by decide) _ _) h1 (by decide) _ _, Kd.R_set (Kd.R_set h.o h.b (by decide) _ _) h1 (by decide) _ _, h.g⟩
theorem RefRow.setst {b : Nat} (h : RefRow W S g kind (some ⟨b, 0, none⟩) c st low high vo out) {i : Nat} (hi : i < st.length) (x : Int) : RefRow (W.setCell ⟨b, i, none⟩ (.int .i64 x)) S g kind (some ⟨b, 0, none⟩) c (st.set i x) low high vo out := by
 obtain ⟨b', hA, _, _, hne⟩ := h.cell hi
 injection hA with hA
 injection hA with hA _ _
 subst hA
 obtain ⟨cells, hty⟩ := Kd.R_typed h.s b (by simp [Value.ownBlock])
 have hp := (Kd.R_put (enc := Value.int .i64) h.s (i : Int) x).1
 rw [Int.toNat_natCast] at hp
 have hl : (st.set i x).length = st.length := List.length_set
 refine ⟨?_, ?_, Kd.R_set h.o hty (by decide) _ _, h.g⟩
 · rw [hl]
   exact blk_far h.b (Ne.symm hne) _
 · rw [hl]
   exact hp
theorem RefRow.grew {v1 : Value} {out1 : List Int} (h : RefRow W S g kind A c st low high vo out) (hg : W.grownBy W' vo.ownBlock) (hR : Kd.R (Kd.int .u8) 5 W' 0 S v1 out1) : RefRow (W'.setCell ⟨g, 4, none⟩ v1) S g kind A c st low high v1 out1 := by
 have hb : W'.heap[g]? = some (.cells (ref5 kind (.slice A st.length c) low high vo) 99 (0, 0)) := blk_grown h.b hg (Kd.R_ne h.o h.b (by decide))
 have hs := Kd.R_over h.s h.o (by decide) hg
 exact ⟨blk_put hb 4 _ rfl, Kd.R_set hs hb (by decide) _ _, Kd.R_set hR hb (by decide) _ _, h.g⟩
end
def RefAt (W : World) (S : Nat → Prop) (g : Nat) (s : ES) : Prop := ∃ A c vo, RefRow W S g s.kind A c s.st s.low s.high vo s.out
theorem RefAt.kept {W W' : World} {S S' : Nat → Prop} {g : Nat} {s : ES} (h : RefAt W S g s) (hk : Mods W W' S') (hne : ∀ k, S k → ¬ S' k) : RefAt W' S g s := by
 obtain ⟨A, c, vo, h⟩ := h
 exact ⟨A, c, vo, h.kept hk hne⟩
theorem RefAt.below {W W' : World} {S : Nat → Prop} {g : Nat} {s : ES} (h : RefAt W S g s) (hb : Below W.heap.size W W') : RefAt W' S g s := by
 obtain ⟨A, c, vo, h⟩ := h
 exact ⟨A, c, vo, h.below hb⟩
theorem RefAt.mono {W : World} {S S' : Nat → Prop} {g : Nat} {s : ES} (h : RefAt W S g s) (hs : ∀ k, S k → S' k) : RefAt W S' g s := by
 obtain ⟨A, c, vo, h⟩ := h
 exact ⟨A, c, vo, h.mono hs⟩
theorem RefAt.bound {W : World} {S : Nat → Prop} {g : Nat} {s : ES} (h : RefAt W S g s) : RefAt W (fun k => S k ∧ k < W.heap.size) g s := by
 obtain ⟨A, c, vo, h⟩ := h
 exact ⟨A, c, vo, h.bound⟩
theorem u64_id {x : Int} (h : 0 ≤ x) (h' : x < 18446744073709551616) : IntKind.u64.wrap x = x := wraps_u64 x h (by omega)
theorem mid_eq (low high p : Int) (h0 : 0 ≤ low) (h1 : low ≤ high) (h2 : high ≤ 4294967295) (h3 : 1 ≤ p) (h4 : p ≤ 4095) : incunableref02_Interval_Mid.f low high p = some (midOf low high p) := by
 have ha : (high - low) / 4096 * p ≤ (high - low) / 4096 * 4095 := Int.mul_le_mul_of_nonneg_left (by omega) (by omega)
 have hb : (high - low) % 4096 * p ≤ (high - low) % 4096 * 4095 := Int.mul_le_mul_of_nonneg_left (by omega) (by omega)
 have hc : 0 ≤ (high - low) / 4096 * p := Int.mul_nonneg (by omega) (by omega)
 have hd : 0 ≤ (high - low) % 4096 * p := Int.mul_nonneg (by omega) (by omega)
 unfold incunableref02_Interval_Mid.f midOf
 rw [u64_id (x := high - low) (by omega) (by omega), Int.tdiv_eq_ediv_of_nonneg (by omega), Int.tmod_eq_emod_of_nonneg (by omega), u64_id (x := p) (by omega) (by omega), u64_id (x := (high - low) / 4096) (by omega) (by omega), u64_id (x := (high - low) / 4096 * p) hc (by omega), u64_id (x := (high - low) % 4096 * p) hd (by omega), Int.tdiv_eq_ediv_of_nonneg hd, u64_id (x := (high - low) % 4096 * p / 4096) (by omega) (by omega), u64_id (x := low + (high - low) / 4096 * p) (by omega) (by omega), u64_id (by omega) (by omega)]
theorem part_eq (low high p bit : Int) (h0 : 0 ≤ low) (h1 : low ≤ high) (h2 : high ≤ 4294967295) (h3 : 1 ≤ p) (h4 : p ≤ 4095) : incunableref02_Interval_Part.f low high p bit = some (cutL low (midOf low high p) bit, cutH high (midOf low high p) bit) := by
 have hm := mid_range low high p h1 h3 h4
 unfold incunableref02_Interval_Part.f cutL cutH
 rw [mid_eq low high p h0 h1 h2 h3 h4]
 simp only [Option.bind_some]
 by_cases c : bit = 1
 · rw [if_pos c, if_pos c, if_pos c]
 · rw [if_neg c, if_neg c, if_neg c, u64_id (by omega) (by omega)]
theorem part_calls (low high p bit : Int) (w : World) (h0 : 0 ≤ low) (h1 : low ≤ high) (h2 : high ≤ 4294967295) (h3 : 1 ≤ p) (h4 : p ≤ 4095) : Calls Try.prog 64 #[.agg #[.int .u64 low, .int .u64 high], .int .i64 p, .int .i64 bit] w fun e w' => e = .returned (.agg #[.int .u64 (cutL low (midOf low high p) bit), .int .u64 (cutH high (midOf low high p) bit)]) ∧ Below w.heap.size w w' :=
 incunableref02_Interval_Part.calls low high p bit _ _ w (part_eq low high p bit h0 h1 h2 h3 h4)
theorem fixed_calls (low high : Int) (w : World) : Calls Try.prog 66 #[.agg #[.int .u64 low, .int .u64 high]] w fun e w' => e = .returned (.bool (decide (low / 16777216 = high / 16777216))) ∧ Below w.heap.size w w' :=
 incunableref02_Interval_Fixed.calls low high _ w rfl
theorem shift_calls (low high : Int) (w : World) (h0 : 0 ≤ low) (h1 : low ≤ 4294967295) (h2 : 0 ≤ high) (h3 : high ≤ 4294967295) : Calls Try.prog 67 #[.agg #[.int .u64 low, .int .u64 high]] w fun e w' => e = .returned (.agg #[.int .u64 (low % 16777216 * 256), .int .u64 (high % 16777216 * 256 + 255)]) ∧ Below w.heap.size w w' :=
 incunableref02_Interval_Shifted.calls low high _ _ w (by
  unfold incunableref02_Interval_Shifted.f
  rw [Int.tmod_eq_emod_of_nonneg h0, Int.tmod_eq_emod_of_nonneg h2, u64_id (x := low % 16777216 * 256) (by omega) (by omega), u64_id (x := high % 16777216 * 256) (by omega) (by omega), u64_id (by omega) (by omega)])
theorem likelyB (kind s : Int) (w : World) (hs : okState kind s) : Calls Try.prog 63 #[.int .i64 kind, .int .i64 s] w fun e w' => e = .returned (.int .i64 (likely kind s)) ∧ Below w.heap.size w w' :=
 (ref_likely kind s w hs).mono (fun e w' h => ⟨h.1, h.2 ▸ Below.refl _ _⟩)
end Go.Proofs.Ytkfejicdjpffcaa.RefAt
namespace Go.Proofs.Ytkfejicdjpffcaa.RefPut
open Go Go.RowKit YtkfejicdjpffcaaW PrintWords PrintLast PrintMore Aid HandAid Cod1 Cod2 Cod3 Ytkfejicdjpffcaa.Mod Enc Mods EncAt Put U RefAt
/-- What a good Put of the reference leaves. -/
def RefPost (w : World) (S : Nat → Prop) (g : Nat) (kind : Int) (st : List Int) (low high mid : Int) (out : List Int) (i : Nat) (bit : Int) (e : Ending) (w' : World) : Prop :=
 e = .returned (.int .i64 0) ∧ (∃ l h out1, (∃ A c vo, RefRow w' (fun k => S k ∨ w.heap.size ≤ k) g kind A c (st.set i (after kind (rd st i) bit)) l h vo out1) ∧ out1 = out ++ (normE 4 (cutL low mid bit) (cutH high mid bit)).1 ∧ (normE 4 (cutL low mid bit) (cutH high mid bit)).2 = (l, h)) ∧ Mods w w' S
theorem ref_put_arg (w : World) (g : Nat) (A : Option Addr) (n c : Nat) (i b : Int) (h1 : w.cell? ⟨g, 1, none⟩ = some (.slice A n c)) (hbad : i < 0 ∨ n ≤ i ∨ (b ≠ 0 ∧ b ≠ 1)) :
 Calls Try.prog 26 #[.pointer (some ⟨g, 0, none⟩), .int .i64 i, .int .i64 b] w fun e w' => e = .returned (.int .i64 2) ∧ w = w' := by
 by_cases c1 : i < 0
 · go_enter Try.func26, Try.ntmps26
   go_wp2
   go_ret
   exact ⟨rfl, rfl⟩
 by_cases c2 : (n : Int) ≤ i
 · go_enter Try.func26, Try.ntmps26
   go_wp2
   go_ret
   exact ⟨rfl, rfl⟩
 have hb0 : b ≠ 0 := by rcases hbad with h | h | h <;> omega
 have hb1 : b ≠ 1 := by rcases hbad with h | h | h <;> omega
 have e0 : (b != 0) = true := by simpa using hb0
 have e1 : (b != 1) = true := by simpa using hb1
 go_enter Try.func26, Try.ntmps26
 go_wp2
 go_ret
 exact ⟨rfl, rfl⟩
set_option maxHeartbeats 4000000 in
set_option maxRecDepth 100000 in
theorem ref_row0 (w : World) (S : Nat → Prop) (g : Nat) (kind : Int) (b c : Nat) (st : List Int) (low high mid : Int) (vo : Value) (out : List Int) (i : Nat) (hE : RefRow w S g kind (some ⟨b, 0, none⟩) c st low high vo out) (hi : i < st.length) (hn : st.length ≤ 8192) (hs : okState kind (rd st i)) (hl0 : 0 ≤ low) (hlh : low ≤ high) (hh : high ≤ 4294967295) (hmid : midOf low high (likely kind (rd st i)) = mid) (hI0 : PutInv out (cutL low mid 0) (cutH high mid 0) 4 (cutL low mid 0) (cutH high mid 0) out) (hlen : out.length ≤ 1099511627776) :
 Calls Try.prog 26 #[.pointer (some ⟨g, 0, none⟩), .int .i64 i, .int .i64 0] w (RefPost w S g kind st low high mid out i 0) := by
 have HE := Za hE
 have hSg : S g := hE.g
 have hSb : S b := hE.s.1 b (by simp [Value.ownBlock])
 have k0 := hE.c0
 have k1 := hE.c1
 have ks : w.cell? ⟨b, i, none⟩ = some (.int .i64 (rd st i)) := by obtain ⟨b', hA, hc, _⟩ := hE.cell hi; cases hA; exact hc
 have hlk := likely_range kind (rd st i) hs
 have HP := fun W => Za (hmid ▸ part_calls low high (likely kind (rd st i)) 0 W hl0 hlh hh hlk.1 hlk.2)
 have HI := Za hI0
 have hu := Try.underlying96
 clear hE hmid hI0
 have hi1 : (0 : Int) ≤ (i : Int) := by omega
 have hi2 : (i : Int) < (st.length : Int) := by omega
 go_enter Try.func26, Try.ntmps26
 go_wp2
 refine start_ (n := 15) (S := fun w' => w'.cell? ⟨g, 0, none⟩ = some (.int .i64 kind) ∧ w'.cell? ⟨g, 1, none⟩ = some (.slice (some ⟨b, 0, none⟩) st.length c) ∧ w'.cell? ⟨b, i, none⟩ = some (.int .i64 (rd st i))) (ds := []) (B' 15 0) (by kernel_rfl) rfl rfl ⟨k0, k1, ks⟩ (fun hHeld => ?_)
 refine u' 0 30 (B' 15 1) ?_ rfl rfl ?_ ?_ ?_ ?_; rotate_left; (intro w'; go_simp; with_reducible rfl); rotate_left; (simp only [Act.put, p1', p2', p3', w1', w2']; rfl)
 refine u' 1 31 (B' 15 3) ?_ rfl rfl ?_ ?_ ?_ ?_; rotate_left; (intro w'; go_simp; with_reducible rfl); rotate_left; (simp only [Act.put, p1', p2', p3', w1', w2']; rfl)
 refine u' 2 32 (B' 15 7) ?_ rfl rfl ?_ ?_ ?_ ?_; rotate_left; (intro w'; go_simp; with_reducible rfl); rotate_left; (simp only [Act.put, p1', p2', p3', w1', w2']; rfl)
 refine u' 3 33 (B' 15 15) ?_ rfl rfl ?_ ?_ ?_ ?_; rotate_left; (intro w'; go_simp; with_reducible rfl); rotate_left; (simp only [Act.put, p1', p2', p3', w1', w2']; rfl)
 refine u' 5 35 (B' 15 47) ?_ rfl rfl ?_ ?_ ?_ ?_; rotate_left; (intro w'; go_simp; with_reducible rfl); rotate_left; (simp only [Act.put, p1', p2', p3', w1', w2']; rfl)
 refine u' 6 36 (B' 15 111) ?_ rfl rfl ?_ ?_ ?_ ?_; rotate_left; (intro w'; go_simp; with_reducible rfl); rotate_left; (simp only [Act.put, p1', p2', p3', w1', w2']; rfl)
 refine u' 7 37 (B' 15 239) ?_ rfl rfl ?_ ?_ ?_ ?_; rotate_left; (intro w'; go_simp; with_reducible rfl); rotate_left; (simp only [Act.put, p1', p2', p3', w1', w2']; rfl)
 refine u' 8 38 (B' 15 495) ?_ rfl rfl ?_ ?_ ?_ ?_; rotate_left; (intro w'; go_simp; with_reducible rfl); rotate_left; (simp only [Act.put, p1', p2', p3', w1', w2']; rfl)
 refine u' 10 40 (B' 15 1519) ?_ rfl rfl ?_ ?_ ?_ ?_; rotate_left; (intro w'; go_simp; with_reducible rfl); rotate_left; (simp only [Act.put, p1', p2', p3', w1', w2']; rfl)
 refine t' 4 34 (B' 15 1535) ?_ rfl rfl ?_ hHeld ?_ ?_ ?_; rotate_left; (rintro w' ⟨s0, s1, s2⟩; go_simp; with_reducible rfl); rotate_left; (simp only [Act.put, p1', p2', p3', w1', w2']; rfl)
 refine t' 9 39 (B' 15 2047) ?_ rfl rfl ?_ hHeld ?_ ?_ ?_; rotate_left; (rintro w' ⟨s0, s1, s2⟩; go_simp; with_reducible rfl); rotate_left; (simp only [Act.put, p1', p2', p3', w1', w2']; rfl)
 refine u' 11 41 (B' 15 4095) ?_ rfl rfl ?_ ?_ ?_ ?_; rotate_left; (intro w'; go_simp; with_reducible rfl); rotate_left; (simp only [Act.put, p1', p2', p3', w1', w2']; rfl)
 refine t' 12 42 (B' 15 8191) ?_ rfl rfl ?_ hHeld ?_ ?_ ?_; rotate_left; (rintro w' ⟨s0, s1, s2⟩; go_simp; with_reducible rfl); rotate_left; (simp only [Act.put, p1', p2', p3', w1', w2']; rfl)
 refine one_ (i := 13) (N := some 43) (B' 15 16383) rfl rfl (by kernel_rfl) (by decide) (fun K hK => ?_)
 refine goes_ Try.func63 (by kernel_rfl) rfl #[.int .i64 kind, .int .i64 (rd st i)] (by rfl) rfl rfl (by simp only [List.map_toArray, List.map_cons, List.map_nil]; rfl) ?_
 with_reducible refine (likelyB kind (rd st i) _ hs).mono ?_
 rintro e w3 ⟨rfl, hb3⟩
 refine ⟨_, rfl, ?_⟩
 have hb3' := below_undrew1 hb3
 have HE3 := Za (HE.out.below hb3')
 have HM3 := Za ((Mods.refl w S).below hb3')
 clear hb3 hb3'
 refine hK.out _ _ ⟨HE3.out.c0, HE3.out.c1, by obtain ⟨b', hA, hc, _⟩ := HE3.out.cell hi; cases hA; exact hc⟩ (fun hHeld => ?_)
 clear hK K
 refine n' ?_ ?_ ?_; rotate_left; (show Act.put _ (some 43) _ = _; simp only [Act.put, p1', p2', p3', w1', w2']; rfl)
 refine u' 14 7 (B' 15 32767) ?_ rfl rfl ?_ ?_ ?_ ?_; rotate_left; (intro w'; go_simp; with_reducible rfl); rotate_left; (simp only [Act.put, p1', p2', p3', w1', w2']; rfl)
 refine done_ (by kernel_rfl) ?_
 clear k0 k1 ks HE
 have k2 := HE3.out.c2
 have k3 := HE3.out.c3
 have f2 := HE3.out.fz 2
 have f3 := HE3.out.fz 3
 go_wp2_with (go_at_call 64; refine (HP _).out.mono ?_; rintro e w4 ⟨rfl, hb4⟩; have HE4 := Za (HE3.out.below hb4); have HM4 := Za (HM3.out.below hb4); have k2 := HE4.out.c2; have k3 := HE4.out.c3; have f2 := HE4.out.fz 2; have f3 := HE4.out.fz 3; clear hb4)
 clear k2 k3 f2 f3
 obtain ⟨w5, hw5⟩ : ∃ w5, w5 = (w4.setCell ⟨g, 2, none⟩ (.int .u64 (cutL low mid 0))).setCell ⟨g, 3, none⟩ (.int .u64 (cutH high mid 0)) := ⟨_, rfl⟩
 rw [← hw5]
 have HE5 := Za (show RefRow w5 S g kind (some ⟨b, 0, none⟩) c st (cutL low mid 0) (cutH high mid 0) vo out from hw5 ▸ HE4.out.cut _ _)
 have HM5 := Za (show Mods w w5 S from hw5 ▸ ((HM4.out.setCell (.inl hSg) _).setCell (.inl hSg) _))
 have k0 := HE5.out.c0
 have k1 := HE5.out.c1
 have ks : w5.cell? ⟨b, i, none⟩ = some (.int .i64 (rd st i)) := by obtain ⟨b', hA, hc, _⟩ := HE5.out.cell hi; cases hA; exact hc
 clear hw5 HE3 HE4 HM3 HM4
 refine start_ (n := 23) (S := fun w' => w'.cell? ⟨g, 0, none⟩ = some (.int .i64 kind) ∧ w'.cell? ⟨g, 1, none⟩ = some (.slice (some ⟨b, 0, none⟩) st.length c) ∧ w'.cell? ⟨b, i, none⟩ = some (.int .i64 (rd st i))) (ds := [22]) (B' 23 0) (by kernel_rfl) rfl rfl ⟨k0, k1, ks⟩ (fun hHeld => ?_)
 refine u' 0 54 (B' 23 1) ?_ rfl rfl ?_ ?_ ?_ ?_; rotate_left; (intro w'; go_simp; with_reducible rfl); rotate_left; (simp only [Act.put, p1', p2', p3', w1', w2']; rfl)
 refine u' 1 55 (B' 23 3) ?_ rfl rfl ?_ ?_ ?_ ?_; rotate_left; (intro w'; go_simp; with_reducible rfl); rotate_left; (simp only [Act.put, p1', p2', p3', w1', w2']; rfl)
 refine u' 2 56 (B' 23 7) ?_ rfl rfl ?_ ?_ ?_ ?_; rotate_left; (intro w'; go_simp; with_reducible rfl); rotate_left; (simp only [Act.put, p1', p2', p3', w1', w2']; rfl)
 refine u' 3 57 (B' 23 15) ?_ rfl rfl ?_ ?_ ?_ ?_; rotate_left; (intro w'; go_simp; with_reducible rfl); rotate_left; (simp only [Act.put, p1', p2', p3', w1', w2']; rfl)
 refine u' 5 59 (B' 23 47) ?_ rfl rfl ?_ ?_ ?_ ?_; rotate_left; (intro w'; go_simp; with_reducible rfl); rotate_left; (simp only [Act.put, p1', p2', p3', w1', w2']; rfl)
 refine u' 6 60 (B' 23 111) ?_ rfl rfl ?_ ?_ ?_ ?_; rotate_left; (intro w'; go_simp; with_reducible rfl); rotate_left; (simp only [Act.put, p1', p2', p3', w1', w2']; rfl)
 refine u' 7 61 (B' 23 239) ?_ rfl rfl ?_ ?_ ?_ ?_; rotate_left; (intro w'; go_simp; with_reducible rfl); rotate_left; (simp only [Act.put, p1', p2', p3', w1', w2']; rfl)
 refine u' 8 62 (B' 23 495) ?_ rfl rfl ?_ ?_ ?_ ?_; rotate_left; (intro w'; go_simp; with_reducible rfl); rotate_left; (simp only [Act.put, p1', p2', p3', w1', w2']; rfl)
 refine u' 9 63 (B' 23 1007) ?_ rfl rfl ?_ ?_ ?_ ?_; rotate_left; (intro w'; go_simp; with_reducible rfl); rotate_left; (simp only [Act.put, p1', p2', p3', w1', w2']; rfl)
 refine u' 11 65 (B' 23 3055) ?_ rfl rfl ?_ ?_ ?_ ?_; rotate_left; (intro w'; go_simp; with_reducible rfl); rotate_left; (simp only [Act.put, p1', p2', p3', w1', w2']; rfl)
 refine u' 12 66 (B' 23 7151) ?_ rfl rfl ?_ ?_ ?_ ?_; rotate_left; (intro w'; go_simp; with_reducible rfl); rotate_left; (simp only [Act.put, p1', p2', p3', w1', w2']; rfl)
 refine u' 13 67 (B' 23 15343) ?_ rfl rfl ?_ ?_ ?_ ?_; rotate_left; (intro w'; go_simp; with_reducible rfl); rotate_left; (simp only [Act.put, p1', p2', p3', w1', w2']; rfl)
 refine u' 14 68 (B' 23 31727) ?_ rfl rfl ?_ ?_ ?_ ?_; rotate_left; (intro w'; go_simp; with_reducible rfl); rotate_left; (simp only [Act.put, p1', p2', p3', w1', w2']; rfl)
 refine u' 16 70 (B' 23 97263) ?_ rfl rfl ?_ ?_ ?_ ?_; rotate_left; (intro w'; go_simp; with_reducible rfl); rotate_left; (simp only [Act.put, p1', p2', p3', w1', w2']; rfl)
 refine u' 19 73 (B' 23 621551) ?_ rfl rfl ?_ ?_ ?_ ?_; rotate_left; (intro w'; go_simp; with_reducible rfl); rotate_left; (simp only [Act.put, p1', p2', p3', w1', w2']; rfl)
 refine t' 4 58 (B' 23 621567) ?_ rfl rfl ?_ hHeld ?_ ?_ ?_; rotate_left; (rintro w' ⟨s0, s1, s2⟩; go_simp; with_reducible rfl); rotate_left; (simp only [Act.put, p1', p2', p3', w1', w2']; rfl)
 refine t' 10 64 (B' 23 622591) ?_ rfl rfl ?_ hHeld ?_ ?_ ?_; rotate_left; (rintro w' ⟨s0, s1, s2⟩; go_simp; with_reducible rfl); rotate_left; (simp only [Act.put, p1', p2', p3', w1', w2']; rfl)
 refine t' 15 69 (B' 23 655359) ?_ rfl rfl ?_ hHeld ?_ ?_ ?_; rotate_left; (rintro w' ⟨s0, s1, s2⟩; go_simp; with_reducible rfl); rotate_left; (simp only [Act.put, p1', p2', p3', w1', w2']; rfl)
 refine u' 17 71 (B' 23 786431) ?_ rfl rfl ?_ ?_ ?_ ?_; rotate_left; (intro w'; go_simp; with_reducible rfl); rotate_left; (simp only [Act.put, p1', p2', p3', w1', w2']; rfl)
 refine t' 18 72 (B' 23 1048575) ?_ rfl rfl ?_ hHeld ?_ ?_ ?_; rotate_left; (rintro w' ⟨s0, s1, s2⟩; go_simp; with_reducible rfl); rotate_left; (simp only [Act.put, p1', p2', p3', w1', w2']; rfl)
 refine one_ (i := 20) (N := some 74) (B' 23 2097151) rfl rfl (by kernel_rfl) (by decide) (fun K hK => ?_)
 refine goes_ Try.func65 (by kernel_rfl) rfl #[.int .i64 kind, .int .i64 (rd st i), .int .i64 0] (by rfl) rfl rfl (by simp only [List.map_toArray, List.map_cons, List.map_nil]; rfl) ?_
 with_reducible refine (ref_after kind (rd st i) 0 _ hs (by decide)).mono ?_
 rintro e w6 ⟨rfl, hb6⟩
 refine ⟨_, rfl, ?_⟩
 have hb6' := below_undrew1 hb6
 have HE6 := Za (HE5.out.below hb6')
 have HM6 := Za (HM5.out.below hb6')
 have c6 : w6.cell? ⟨b, i, none⟩ = some (.int .i64 (rd st i)) := by obtain ⟨b', hA, hc, _⟩ := HE6.out.cell hi; cases hA; exact hc
 have f6 : w6.frozen? ⟨b, i, none⟩ = false := by obtain ⟨b', hA, _, hf, _⟩ := HE6.out.cell hi; cases hA; exact hf
 clear hb6 hb6'
 refine hK.out _ _ ⟨HE6.out.c0, HE6.out.c1, c6⟩ (fun hHeld => ?_)
 clear hK K
 refine n' ?_ ?_ ?_; rotate_left; (show Act.put _ (some 74) _ = _; simp only [Act.put, p1', p2', p3', w1', w2']; rfl)
 refine u' 21 75 (B' 23 4194303) ?_ rfl rfl ?_ ?_ ?_ ?_; rotate_left; (intro w'; go_simp; with_reducible rfl); rotate_left; (simp only [Act.put, p1', p2', p3', w1', w2']; rfl)
 refine last_ (i := 22) (N := none) (B' 23 8388607) rfl rfl (by kernel_rfl) (by decide) (fun K hK => ?_)
 refine skip_ (w1 := ?_) (by rfl) rfl ?_ ?_
 rotate_left
 · go_simp
   rfl
 refine hK.out _ _ ?_
 clear hK K
 refine done_ (by kernel_rfl) ?_
 go_wp2
 obtain ⟨w0, hw0⟩ : ∃ w0, w0 = w6.setCell ⟨b, i, none⟩ (.int .i64 (after kind (rd st i) 0)) := ⟨_, rfl⟩
 rw [← hw0]
 obtain ⟨S', hS'⟩ : ∃ S' : Nat → Prop, S' = fun k => S k ∨ w.heap.size ≤ k := ⟨_, rfl⟩
 have HS2 := Za (show ∀ k, S' k → S k ∨ w.heap.size ≤ k from fun k hk => by rw [hS'] at hk; exact hk)
 have HS3 := Za (show ∀ k, S k ∨ w.heap.size ≤ k → S' k from fun k hk => by rw [hS']; exact hk)
 have HSS := Za hS'
 obtain ⟨st', hst'⟩ : ∃ st' : List Int, st' = st.set i (after kind (rd st i) 0) := ⟨_, rfl⟩
 have HST := Za hst'
 have HE4 := Za (show RefRow w0 S' g kind (some ⟨b, 0, none⟩) c st' (cutL low mid 0) (cutH high mid 0) vo out from hst' ▸ hw0 ▸ ((HE6.out.setst hi _).mono (fun k hk => HS3.out k (.inl hk))))
 have HM4 := Za (show Mods w w0 S from hw0 ▸ (HM6.out.setCell (.inl hSb) _))
 clear hw0 hS' hst' k0 k1 ks HE5 HE6 HM5 HM6 c6 f6
 go_loopg [] 4 (fun d wr => ∃ (l h : Int) (out1 : List Int), Aside0 (∃ A c vo, RefRow wr S' g kind A c st' l h vo out1) ∧ Aside0 (Mods w wr S) ∧ Aside0 (PutInv out (cutL low mid 0) (cutH high mid 0) d l h out1))
 case atStart => exact ⟨_, _, out, ⟨_, _, _, HE4.out⟩, HM4, HI⟩
 clear HE4 HM4 HI
 case round =>
  obtain ⟨l, h, out1, ⟨A1, c1, vo1, hE5⟩, HM5, HPI⟩ := hrel
  have HE5 := Za hE5
  clear hE5
  have hp0 := HPI.out.l0
  have hp1 := HPI.out.lh
  have hp2 := HPI.out.h0
  have hs := fixed_calls l h
  have k2 := HE5.out.c2
  have k3 := HE5.out.c3
  by_cases cc : l / 16777216 = h / 16777216
  · rw [decide_eq_true cc] at hs
    have HSA := Za hs
    clear hs
    obtain ⟨d', hd', hP'⟩ := HPI.out.step cc
    rw [cc] at hP'
    have HP' := Za hP'
    have hlen1 : out1.length ≤ 1099511627780 := by have := HPI.out.len; omega
    have HD := Za hd'
    clear hd' hP' cc
    have hb1 : 0 ≤ h / 16777216 ∧ h / 16777216 ≤ 255 := by omega
    go_wp2_with (go_at_call 66; refine (HSA.out _).mono ?_; rintro e w7 ⟨rfl, hb7⟩; have HE7 := Za (HE5.out.below hb7); have HM7 := Za (HM5.out.below hb7); clear hb7)
    have HE7 := Za HE7.out.drew
    have HM7 := Za HM7.out.drew
    have p4 := HE7.out.c4
    have p3 := HE7.out.c3
    clear HE5 HM5 k2 k3 HSA
    refine start_ (n := 17) (S := fun w' => w'.cell? ⟨g, 4, none⟩ = some vo1 ∧ w'.cell? ⟨g, 3, none⟩ = some (.int .u64 h)) (ds := [16]) (B' 17 0) (by kernel_rfl) rfl rfl ⟨p4, p3⟩ (fun hHeld => ?_)
    generalize w7.drew = w11 at p4 p3 HE7 HM7 hHeld ⊢
    refine u' 0 81 (B' 17 1) ?_ rfl rfl ?_ ?_ ?_ ?_; rotate_left; (intro w'; go_simp; with_reducible rfl); rotate_left; (simp only [Act.put, p1', p2', p3', w1', w2']; rfl)
    refine u' 1 82 (B' 17 3) ?_ rfl rfl ?_ ?_ ?_ ?_; rotate_left; (intro w'; go_simp; with_reducible rfl); rotate_left; (simp only [Act.put, p1', p2', p3', w1', w2']; rfl)
    refine u' 2 83 (B' 17 7) ?_ rfl rfl ?_ ?_ ?_ ?_; rotate_left; (intro w'; go_simp; with_reducible rfl); rotate_left; (simp only [Act.put, p1', p2', p3', w1', w2']; rfl)
    refine u' 3 84 (B' 17 15) ?_ rfl rfl ?_ ?_ ?_ ?_; rotate_left; (intro w'; go_simp; with_reducible rfl); rotate_left; (simp only [Act.put, p1', p2', p3', w1', w2']; rfl)
    refine u' 5 86 (B' 17 47) ?_ rfl rfl ?_ ?_ ?_ ?_; rotate_left; (intro w'; go_simp; with_reducible rfl); rotate_left; (simp only [Act.put, p1', p2', p3', w1', w2']; rfl)
    refine u' 6 87 (B' 17 111) ?_ rfl rfl ?_ ?_ ?_ ?_; rotate_left; (intro w'; go_simp; with_reducible rfl); rotate_left; (simp only [Act.put, p1', p2', p3', w1', w2']; rfl)
    refine u' 7 88 (B' 17 239) ?_ rfl rfl ?_ ?_ ?_ ?_; rotate_left; (intro w'; go_simp; with_reducible rfl); rotate_left; (simp only [Act.put, p1', p2', p3', w1', w2']; rfl)
    refine u' 8 89 (B' 17 495) ?_ rfl rfl ?_ ?_ ?_ ?_; rotate_left; (intro w'; go_simp; with_reducible rfl); rotate_left; (simp only [Act.put, p1', p2', p3', w1', w2']; rfl)
    refine t' 4 85 (B' 17 511) ?_ rfl rfl ?_ hHeld ?_ ?_ ?_; rotate_left; (rintro w' ⟨s0, s1⟩; go_simp; with_reducible rfl); rotate_left; (simp only [Act.put, p1', p2', p3', w1', w2']; rfl)
    refine t' 9 90 (B' 17 1023) ?_ rfl rfl ?_ hHeld ?_ ?_ ?_; rotate_left; (rintro w' ⟨s0, s1⟩; go_simp; with_reducible rfl); rotate_left; (simp only [Act.put, p1', p2', p3', w1', w2']; rfl)
    refine u' 10 91 (B' 17 2047) ?_ rfl rfl ?_ ?_ ?_ ?_; rotate_left; (intro w'; go_simp; with_reducible rfl); rotate_left; (simp only [Act.put, p1', p2', p3', w1', w2']; rfl)
    refine u' 11 92 (B' 17 4095) ?_ rfl rfl ?_ ?_ ?_ ?_; rotate_left; (intro w'; go_simp; with_reducible rfl); rotate_left; (simp only [Act.put, p1', p2', p3', w1', w2']; rfl)
    refine one_ (i := 12) (N := some 93) (B' 17 8191) rfl rfl (by kernel_rfl) (by decide) (fun K hK => ?_)
    refine value_ (w1 := ?_) (v := ?_) (by rfl) rfl ?_ ?_
    rotate_left 2
    · go_simp
      constructor
      · rfl
      · rfl
    refine hK.out _ _ ⟨pw_cell_below (b1' (Below.refl _ _) _) p4, pw_cell_below (b1' (Below.refl _ _) _) p3⟩ (fun hHeld => ?_)
    clear hK K
    refine n' ?_ ?_ ?_; rotate_left; (show Act.put _ (some 93) _ = _; simp only [Act.put, p1', p2', p3', w1', w2']; rfl)
    refine one_ (i := 13) (N := some 94) (B' 17 16383) rfl rfl (by kernel_rfl) (by decide) (fun K hK => ?_)
    refine Kd.R_append_step (Kd.int .u8) 0 (by rfl) (.tmp 85) (.tmp 93) 29 5 (.int .u8 0) 1 rfl Try.underlying29 infoU8 rfl (by decide) (by decide) vo1 out1 (IntKind.u8.wrap (h / 16777216)) [.int .u8 (IntKind.u8.wrap (h / 16777216))] S' (fun _ => False) rfl rfl rfl (fun _ h => h.elim) (fun k hk => HS3.out k (.inr (Nat.le_trans HM7.out.size hk))) HE7.out.o (Below.refl 0 _) (Nat.zero_le _) (by omega) ?_
    intro v8 w8 hR8 _ hg8 hat8
    obtain ⟨A8, c8, rfl⟩ := Kd.R_slice hR8
    rw [List.length_append, List.length_cons, List.length_nil, Nat.zero_add, wraps_u8 (h / 16777216) (by omega) (by omega)] at hR8
    have hne8 := Kd.R_ne HE7.out.o HE7.out.b (by decide)
    have t4 : w8.cell? ⟨g, 4, none⟩ = some vo1 := hg8.cell p4 hne8
    have t3 : w8.cell? ⟨g, 3, none⟩ = some (.int .u64 h) := hg8.cell p3 hne8
    have z8 : w8.frozen? ⟨g, 4, none⟩ = false := Zf (blk_grown HE7.out.b hg8 hne8) 4
    have HE8 := Za (HE7.out.grew hg8 hR8)
    have HM8 := Za ((HM7.out.of_grown hg8 (fun k hk => HS2.out k (HE7.out.o.1 k hk))).setCell (p := ⟨g, 4, none⟩) (.inl hSg) (.slice A8 (out1.length + 1) c8))
    clear hR8 hg8 hat8 hne8 HM7
    refine hK.out _ _ ⟨t4, t3⟩ (fun hHeld => ?_)
    clear hK K
    refine n' ?_ ?_ ?_; rotate_left; (show Act.put _ (some 94) _ = _; simp only [Act.put, p1', p2', p3', w1', w2']; rfl)
    refine u' 14 95 (B' 17 32767) ?_ rfl rfl ?_ ?_ ?_ ?_; rotate_left; (intro w'; go_simp; with_reducible rfl); rotate_left; (simp only [Act.put, p1', p2', p3', w1', w2']; rfl)
    refine u' 15 96 (B' 17 65535) ?_ rfl rfl ?_ ?_ ?_ ?_; rotate_left; (intro w'; go_simp; with_reducible rfl); rotate_left; (simp only [Act.put, p1', p2', p3', w1', w2']; rfl)
    refine last_ (i := 16) (N := none) (B' 17 131071) rfl rfl (by kernel_rfl) (by decide) (fun K hK => ?_)
    refine skip_ (w1 := ?_) (by rfl) rfl ?_ ?_
    rotate_left
    · go_simp
      rfl
    refine hK.out _ _ ?_
    clear hK K
    refine done_ (by kernel_rfl) ?_
    have k2 := HE8.out.c2
    have k3 := HE8.out.c3
    obtain ⟨w9, hw9⟩ : ∃ w9, w9 = w8.setCell ⟨g, 4, none⟩ (.slice A8 (out1.length + 1) c8) := ⟨_, rfl⟩
    rw [← hw9] at HE8 HM8 k2 k3 ⊢
    clear hw9 p4 p3 t4 t3 z8
    go_wp2_with (fail)
    refine (shift_calls l h _ hp0 (by omega) (by omega) hp2).mono ?_
    rintro e w10 ⟨rfl, hb10⟩
    have HE10 := Za (HE8.out.below hb10)
    have HM10 := Za (HM8.out.below hb10)
    have k2 := HE10.out.c2
    have k3 := HE10.out.c3
    have f2 := HE10.out.fz 2
    have f3 := HE10.out.fz 3
    clear hb10 HE8 HM8
    go_wp2
    go_roundg d'
    case measure => have := HD.out; omega
    case rel => exact ⟨_, _, _, ⟨_, _, _, HE10.out.cut _ _⟩, ⟨(HM10.out.setCell (.inl hSg) _).setCell (.inl hSg) _⟩, HP'⟩
  · rw [decide_eq_false cc] at hs
    have HSA := Za hs
    clear hs
    have HCC := Za cc
    clear cc
    go_wp2_with (go_at_call 66; refine (HSA.out _).mono ?_; rintro e w7 ⟨rfl, hb7⟩; have HE7 := Za (HE5.out.below hb7); have HM7 := Za (HM5.out.below hb7); clear hb7)
    go_ret
    have hd := HPI.out.done HCC.out
    have hE7 := HE7.out
    rw [HSS.out, HST.out] at hE7
    exact ⟨rfl, ⟨l, h, out1, ⟨_, _, _, hE7⟩, hd.1, hd.2⟩, HM7.out⟩
set_option maxHeartbeats 4000000 in
set_option maxRecDepth 100000 in
theorem ref_row1 (w : World) (S : Nat → Prop) (g : Nat) (kind : Int) (b c : Nat) (st : List Int) (low high mid : Int) (vo : Value) (out : List Int) (i : Nat) (hE : RefRow w S g kind (some ⟨b, 0, none⟩) c st low high vo out) (hi : i < st.length) (hn : st.length ≤ 8192) (hs : okState kind (rd st i)) (hl0 : 0 ≤ low) (hlh : low ≤ high) (hh : high ≤ 4294967295) (hmid : midOf low high (likely kind (rd st i)) = mid) (hI0 : PutInv out (cutL low mid 1) (cutH high mid 1) 4 (cutL low mid 1) (cutH high mid 1) out) (hlen : out.length ≤ 1099511627776) :
 Calls Try.prog 26 #[.pointer (some ⟨g, 0, none⟩), .int .i64 i, .int .i64 1] w (RefPost w S g kind st low high mid out i 1) := by
 have HE := Za hE
 have hSg : S g := hE.g
 have hSb : S b := hE.s.1 b (by simp [Value.ownBlock])
 have k0 := hE.c0
 have k1 := hE.c1
 have ks : w.cell? ⟨b, i, none⟩ = some (.int .i64 (rd st i)) := by obtain ⟨b', hA, hc, _⟩ := hE.cell hi; cases hA; exact hc
 have hlk := likely_range kind (rd st i) hs
 have HP := fun W => Za (hmid ▸ part_calls low high (likely kind (rd st i)) 1 W hl0 hlh hh hlk.1 hlk.2)
 have HI := Za hI0
 have hu := Try.underlying96
 clear hE hmid hI0
 have hi1 : (0 : Int) ≤ (i : Int) := by omega
 have hi2 : (i : Int) < (st.length : Int) := by omega
 go_enter Try.func26, Try.ntmps26
 go_wp2
 refine start_ (n := 15) (S := fun w' => w'.cell? ⟨g, 0, none⟩ = some (.int .i64 kind) ∧ w'.cell? ⟨g, 1, none⟩ = some (.slice (some ⟨b, 0, none⟩) st.length c) ∧ w'.cell? ⟨b, i, none⟩ = some (.int .i64 (rd st i))) (ds := []) (B' 15 0) (by kernel_rfl) rfl rfl ⟨k0, k1, ks⟩ (fun hHeld => ?_)
 refine u' 0 30 (B' 15 1) ?_ rfl rfl ?_ ?_ ?_ ?_; rotate_left; (intro w'; go_simp; with_reducible rfl); rotate_left; (simp only [Act.put, p1', p2', p3', w1', w2']; rfl)
 refine u' 1 31 (B' 15 3) ?_ rfl rfl ?_ ?_ ?_ ?_; rotate_left; (intro w'; go_simp; with_reducible rfl); rotate_left; (simp only [Act.put, p1', p2', p3', w1', w2']; rfl)
 refine u' 2 32 (B' 15 7) ?_ rfl rfl ?_ ?_ ?_ ?_; rotate_left; (intro w'; go_simp; with_reducible rfl); rotate_left; (simp only [Act.put, p1', p2', p3', w1', w2']; rfl)
 refine u' 3 33 (B' 15 15) ?_ rfl rfl ?_ ?_ ?_ ?_; rotate_left; (intro w'; go_simp; with_reducible rfl); rotate_left; (simp only [Act.put, p1', p2', p3', w1', w2']; rfl)
 refine u' 5 35 (B' 15 47) ?_ rfl rfl ?_ ?_ ?_ ?_; rotate_left; (intro w'; go_simp; with_reducible rfl); rotate_left; (simp only [Act.put, p1', p2', p3', w1', w2']; rfl)
 refine u' 6 36 (B' 15 111) ?_ rfl rfl ?_ ?_ ?_ ?_; rotate_left; (intro w'; go_simp; with_reducible rfl); rotate_left; (simp only [Act.put, p1', p2', p3', w1', w2']; rfl)
 refine u' 7 37 (B' 15 239) ?_ rfl rfl ?_ ?_ ?_ ?_; rotate_left; (intro w'; go_simp; with_reducible rfl); rotate_left; (simp only [Act.put, p1', p2', p3', w1', w2']; rfl)
 refine u' 8 38 (B' 15 495) ?_ rfl rfl ?_ ?_ ?_ ?_; rotate_left; (intro w'; go_simp; with_reducible rfl); rotate_left; (simp only [Act.put, p1', p2', p3', w1', w2']; rfl)
 refine u' 10 40 (B' 15 1519) ?_ rfl rfl ?_ ?_ ?_ ?_; rotate_left; (intro w'; go_simp; with_reducible rfl); rotate_left; (simp only [Act.put, p1', p2', p3', w1', w2']; rfl)
 refine t' 4 34 (B' 15 1535) ?_ rfl rfl ?_ hHeld ?_ ?_ ?_; rotate_left; (rintro w' ⟨s0, s1, s2⟩; go_simp; with_reducible rfl); rotate_left; (simp only [Act.put, p1', p2', p3', w1', w2']; rfl)
 refine t' 9 39 (B' 15 2047) ?_ rfl rfl ?_ hHeld ?_ ?_ ?_; rotate_left; (rintro w' ⟨s0, s1, s2⟩; go_simp; with_reducible rfl); rotate_left; (simp only [Act.put, p1', p2', p3', w1', w2']; rfl)
 refine u' 11 41 (B' 15 4095) ?_ rfl rfl ?_ ?_ ?_ ?_; rotate_left; (intro w'; go_simp; with_reducible rfl); rotate_left; (simp only [Act.put, p1', p2', p3', w1', w2']; rfl)
 refine t' 12 42 (B' 15 8191) ?_ rfl rfl ?_ hHeld ?_ ?_ ?_; rotate_left; (rintro w' ⟨s0, s1, s2⟩; go_simp; with_reducible rfl); rotate_left; (simp only [Act.put, p1', p2', p3', w1', w2']; rfl)
 refine one_ (i := 13) (N := some 43) (B' 15 16383) rfl rfl (by kernel_rfl) (by decide) (fun K hK => ?_)
 refine goes_ Try.func63 (by kernel_rfl) rfl #[.int .i64 kind, .int .i64 (rd st i)] (by rfl) rfl rfl (by simp only [List.map_toArray, List.map_cons, List.map_nil]; rfl) ?_
 with_reducible refine (likelyB kind (rd st i) _ hs).mono ?_
 rintro e w3 ⟨rfl, hb3⟩
 refine ⟨_, rfl, ?_⟩
 have hb3' := below_undrew1 hb3
 have HE3 := Za (HE.out.below hb3')
 have HM3 := Za ((Mods.refl w S).below hb3')
 clear hb3 hb3'
 refine hK.out _ _ ⟨HE3.out.c0, HE3.out.c1, by obtain ⟨b', hA, hc, _⟩ := HE3.out.cell hi; cases hA; exact hc⟩ (fun hHeld => ?_)
 clear hK K
 refine n' ?_ ?_ ?_; rotate_left; (show Act.put _ (some 43) _ = _; simp only [Act.put, p1', p2', p3', w1', w2']; rfl)
 refine u' 14 7 (B' 15 32767) ?_ rfl rfl ?_ ?_ ?_ ?_; rotate_left; (intro w'; go_simp; with_reducible rfl); rotate_left; (simp only [Act.put, p1', p2', p3', w1', w2']; rfl)
 refine done_ (by kernel_rfl) ?_
 clear k0 k1 ks HE
 have k2 := HE3.out.c2
 have k3 := HE3.out.c3
 have f2 := HE3.out.fz 2
 have f3 := HE3.out.fz 3
 go_wp2_with (go_at_call 64; refine (HP _).out.mono ?_; rintro e w4 ⟨rfl, hb4⟩; have HE4 := Za (HE3.out.below hb4); have HM4 := Za (HM3.out.below hb4); have k2 := HE4.out.c2; have k3 := HE4.out.c3; have f2 := HE4.out.fz 2; have f3 := HE4.out.fz 3; clear hb4)
 clear k2 k3 f2 f3
 obtain ⟨w5, hw5⟩ : ∃ w5, w5 = (w4.setCell ⟨g, 2, none⟩ (.int .u64 (cutL low mid 1))).setCell ⟨g, 3, none⟩ (.int .u64 (cutH high mid 1)) := ⟨_, rfl⟩
 rw [← hw5]
 have HE5 := Za (show RefRow w5 S g kind (some ⟨b, 0, none⟩) c st (cutL low mid 1) (cutH high mid 1) vo out from hw5 ▸ HE4.out.cut _ _)
 have HM5 := Za (show Mods w w5 S from hw5 ▸ ((HM4.out.setCell (.inl hSg) _).setCell (.inl hSg) _))
 have k0 := HE5.out.c0
 have k1 := HE5.out.c1
 have ks : w5.cell? ⟨b, i, none⟩ = some (.int .i64 (rd st i)) := by obtain ⟨b', hA, hc, _⟩ := HE5.out.cell hi; cases hA; exact hc
 clear hw5 HE3 HE4 HM3 HM4
 refine start_ (n := 23) (S := fun w' => w'.cell? ⟨g, 0, none⟩ = some (.int .i64 kind) ∧ w'.cell? ⟨g, 1, none⟩ = some (.slice (some ⟨b, 0, none⟩) st.length c) ∧ w'.cell? ⟨b, i, none⟩ = some (.int .i64 (rd st i))) (ds := [22]) (B' 23 0) (by kernel_rfl) rfl rfl ⟨k0, k1, ks⟩ (fun hHeld => ?_)
 refine u' 0 54 (B' 23 1) ?_ rfl rfl ?_ ?_ ?_ ?_; rotate_left; (intro w'; go_simp; with_reducible rfl); rotate_left; (simp only [Act.put, p1', p2', p3', w1', w2']; rfl)
 refine u' 1 55 (B' 23 3) ?_ rfl rfl ?_ ?_ ?_ ?_; rotate_left; (intro w'; go_simp; with_reducible rfl); rotate_left; (simp only [Act.put, p1', p2', p3', w1', w2']; rfl)
 refine u' 2 56 (B' 23 7) ?_ rfl rfl ?_ ?_ ?_ ?_; rotate_left; (intro w'; go_simp; with_reducible rfl); rotate_left; (simp only [Act.put, p1', p2', p3', w1', w2']; rfl)
 refine u' 3 57 (B' 23 15) ?_ rfl rfl ?_ ?_ ?_ ?_; rotate_left; (intro w'; go_simp; with_reducible rfl); rotate_left; (simp only [Act.put, p1', p2', p3', w1', w2']; rfl)
 refine u' 5 59 (B' 23 47) ?_ rfl rfl ?_ ?_ ?_ ?_; rotate_left; (intro w'; go_simp; with_reducible rfl); rotate_left; (simp only [Act.put, p1', p2', p3', w1', w2']; rfl)
 refine u' 6 60 (B' 23 111) ?_ rfl rfl ?_ ?_ ?_ ?_; rotate_left; (intro w'; go_simp; with_reducible rfl); rotate_left; (simp only [Act.put, p1', p2', p3', w1', w2']; rfl)
 refine u' 7 61 (B' 23 239) ?_ rfl rfl ?_ ?_ ?_ ?_; rotate_left; (intro w'; go_simp; with_reducible rfl); rotate_left; (simp only [Act.put, p1', p2', p3', w1', w2']; rfl)
 refine u' 8 62 (B' 23 495) ?_ rfl rfl ?_ ?_ ?_ ?_; rotate_left; (intro w'; go_simp; with_reducible rfl); rotate_left; (simp only [Act.put, p1', p2', p3', w1', w2']; rfl)
 refine u' 9 63 (B' 23 1007) ?_ rfl rfl ?_ ?_ ?_ ?_; rotate_left; (intro w'; go_simp; with_reducible rfl); rotate_left; (simp only [Act.put, p1', p2', p3', w1', w2']; rfl)
 refine u' 11 65 (B' 23 3055) ?_ rfl rfl ?_ ?_ ?_ ?_; rotate_left; (intro w'; go_simp; with_reducible rfl); rotate_left; (simp only [Act.put, p1', p2', p3', w1', w2']; rfl)
 refine u' 12 66 (B' 23 7151) ?_ rfl rfl ?_ ?_ ?_ ?_; rotate_left; (intro w'; go_simp; with_reducible rfl); rotate_left; (simp only [Act.put, p1', p2', p3', w1', w2']; rfl)
 refine u' 13 67 (B' 23 15343) ?_ rfl rfl ?_ ?_ ?_ ?_; rotate_left; (intro w'; go_simp; with_reducible rfl); rotate_left; (simp only [Act.put, p1', p2', p3', w1', w2']; rfl)
 refine u' 14 68 (B' 23 31727) ?_ rfl rfl ?_ ?_ ?_ ?_; rotate_left; (intro w'; go_simp; with_reducible rfl); rotate_left; (simp only [Act.put, p1', p2', p3', w1', w2']; rfl)
 refine u' 16 70 (B' 23 97263) ?_ rfl rfl ?_ ?_ ?_ ?_; rotate_left; (intro w'; go_simp; with_reducible rfl); rotate_left; (simp only [Act.put, p1', p2', p3', w1', w2']; rfl)
 refine u' 19 73 (B' 23 621551) ?_ rfl rfl ?_ ?_ ?_ ?_; rotate_left; (intro w'; go_simp; with_reducible rfl); rotate_left; (simp only [Act.put, p1', p2', p3', w1', w2']; rfl)
 refine t' 4 58 (B' 23 621567) ?_ rfl rfl ?_ hHeld ?_ ?_ ?_; rotate_left; (rintro w' ⟨s0, s1, s2⟩; go_simp; with_reducible rfl); rotate_left; (simp only [Act.put, p1', p2', p3', w1', w2']; rfl)
 refine t' 10 64 (B' 23 622591) ?_ rfl rfl ?_ hHeld ?_ ?_ ?_; rotate_left; (rintro w' ⟨s0, s1, s2⟩; go_simp; with_reducible rfl); rotate_left; (simp only [Act.put, p1', p2', p3', w1', w2']; rfl)
 refine t' 15 69 (B' 23 655359) ?_ rfl rfl ?_ hHeld ?_ ?_ ?_; rotate_left; (rintro w' ⟨s0, s1, s2⟩; go_simp; with_reducible rfl); rotate_left; (simp only [Act.put, p1', p2', p3', w1', w2']; rfl)
 refine u' 17 71 (B' 23 786431) ?_ rfl rfl ?_ ?_ ?_ ?_; rotate_left; (intro w'; go_simp; with_reducible rfl); rotate_left; (simp only [Act.put, p1', p2', p3', w1', w2']; rfl)
 refine t' 18 72 (B' 23 1048575) ?_ rfl rfl ?_ hHeld ?_ ?_ ?_; rotate_left; (rintro w' ⟨s0, s1, s2⟩; go_simp; with_reducible rfl); rotate_left; (simp only [Act.put, p1', p2', p3', w1', w2']; rfl)
 refine one_ (i := 20) (N := some 74) (B' 23 2097151) rfl rfl (by kernel_rfl) (by decide) (fun K hK => ?_)
 refine goes_ Try.func65 (by kernel_rfl) rfl #[.int .i64 kind, .int .i64 (rd st i), .int .i64 1] (by rfl) rfl rfl (by simp only [List.map_toArray, List.map_cons, List.map_nil]; rfl) ?_
 with_reducible refine (ref_after kind (rd st i) 1 _ hs (by decide)).mono ?_
 rintro e w6 ⟨rfl, hb6⟩
 refine ⟨_, rfl, ?_⟩
 have hb6' := below_undrew1 hb6
 have HE6 := Za (HE5.out.below hb6')
 have HM6 := Za (HM5.out.below hb6')
 have c6 : w6.cell? ⟨b, i, none⟩ = some (.int .i64 (rd st i)) := by obtain ⟨b', hA, hc, _⟩ := HE6.out.cell hi; cases hA; exact hc
 have f6 : w6.frozen? ⟨b, i, none⟩ = false := by obtain ⟨b', hA, _, hf, _⟩ := HE6.out.cell hi; cases hA; exact hf
 clear hb6 hb6'
 refine hK.out _ _ ⟨HE6.out.c0, HE6.out.c1, c6⟩ (fun hHeld => ?_)
 clear hK K
 refine n' ?_ ?_ ?_; rotate_left; (show Act.put _ (some 74) _ = _; simp only [Act.put, p1', p2', p3', w1', w2']; rfl)
 refine u' 21 75 (B' 23 4194303) ?_ rfl rfl ?_ ?_ ?_ ?_; rotate_left; (intro w'; go_simp; with_reducible rfl); rotate_left; (simp only [Act.put, p1', p2', p3', w1', w2']; rfl)
 refine last_ (i := 22) (N := none) (B' 23 8388607) rfl rfl (by kernel_rfl) (by decide) (fun K hK => ?_)
 refine skip_ (w1 := ?_) (by rfl) rfl ?_ ?_
 rotate_left
 · go_simp
   rfl
 refine hK.out _ _ ?_
 clear hK K
 refine done_ (by kernel_rfl) ?_
 go_wp2
 obtain ⟨w0, hw0⟩ : ∃ w0, w0 = w6.setCell ⟨b, i, none⟩ (.int .i64 (after kind (rd st i) 1)) := ⟨_, rfl⟩
 rw [← hw0]
 obtain ⟨S', hS'⟩ : ∃ S' : Nat → Prop, S' = fun k => S k ∨ w.heap.size ≤ k := ⟨_, rfl⟩
 have HS2 := Za (show ∀ k, S' k → S k ∨ w.heap.size ≤ k from fun k hk => by rw [hS'] at hk; exact hk)
 have HS3 := Za (show ∀ k, S k ∨ w.heap.size ≤ k → S' k from fun k hk => by rw [hS']; exact hk)
 have HSS := Za hS'
 obtain ⟨st', hst'⟩ : ∃ st' : List Int, st' = st.set i (after kind (rd st i) 1) := ⟨_, rfl⟩
 have HST := Za hst'
 have HE4 := Za (show RefRow w0 S' g kind (some ⟨b, 0, none⟩) c st' (cutL low mid 1) (cutH high mid 1) vo out from hst' ▸ hw0 ▸ ((HE6.out.setst hi _).mono (fun k hk => HS3.out k (.inl hk))))
 have HM4 := Za (show Mods w w0 S from hw0 ▸ (HM6.out.setCell (.inl hSb) _))
 clear hw0 hS' hst' k0 k1 ks HE5 HE6 HM5 HM6 c6 f6
 go_loopg [] 4 (fun d wr => ∃ (l h : Int) (out1 : List Int), Aside0 (∃ A c vo, RefRow wr S' g kind A c st' l h vo out1) ∧ Aside0 (Mods w wr S) ∧ Aside0 (PutInv out (cutL low mid 1) (cutH high mid 1) d l h out1))
 case atStart => exact ⟨_, _, out, ⟨_, _, _, HE4.out⟩, HM4, HI⟩
 clear HE4 HM4 HI
 case round =>
  obtain ⟨l, h, out1, ⟨A1, c1, vo1, hE5⟩, HM5, HPI⟩ := hrel
  have HE5 := Za hE5
  clear hE5
  have hp0 := HPI.out.l0
  have hp1 := HPI.out.lh
  have hp2 := HPI.out.h0
  have hs := fixed_calls l h
  have k2 := HE5.out.c2
  have k3 := HE5.out.c3
  by_cases cc : l / 16777216 = h / 16777216
  · rw [decide_eq_true cc] at hs
    have HSA := Za hs
    clear hs
    obtain ⟨d', hd', hP'⟩ := HPI.out.step cc
    rw [cc] at hP'
    have HP' := Za hP'
    have hlen1 : out1.length ≤ 1099511627780 := by have := HPI.out.len; omega
    have HD := Za hd'
    clear hd' hP' cc
    have hb1 : 0 ≤ h / 16777216 ∧ h / 16777216 ≤ 255 := by omega
    go_wp2_with (go_at_call 66; refine (HSA.out _).mono ?_; rintro e w7 ⟨rfl, hb7⟩; have HE7 := Za (HE5.out.below hb7); have HM7 := Za (HM5.out.below hb7); clear hb7)
    have HE7 := Za HE7.out.drew
    have HM7 := Za HM7.out.drew
    have p4 := HE7.out.c4
    have p3 := HE7.out.c3
    clear HE5 HM5 k2 k3 HSA
    refine start_ (n := 17) (S := fun w' => w'.cell? ⟨g, 4, none⟩ = some vo1 ∧ w'.cell? ⟨g, 3, none⟩ = some (.int .u64 h)) (ds := [16]) (B' 17 0) (by kernel_rfl) rfl rfl ⟨p4, p3⟩ (fun hHeld => ?_)
    generalize w7.drew = w11 at p4 p3 HE7 HM7 hHeld ⊢
    refine u' 0 81 (B' 17 1) ?_ rfl rfl ?_ ?_ ?_ ?_; rotate_left; (intro w'; go_simp; with_reducible rfl); rotate_left; (simp only [Act.put, p1', p2', p3', w1', w2']; rfl)
    refine u' 1 82 (B' 17 3) ?_ rfl rfl ?_ ?_ ?_ ?_; rotate_left; (intro w'; go_simp; with_reducible rfl); rotate_left; (simp only [Act.put, p1', p2', p3', w1', w2']; rfl)
    refine u' 2 83 (B' 17 7) ?_ rfl rfl ?_ ?_ ?_ ?_; rotate_left; (intro w'; go_simp; with_reducible rfl); rotate_left; (simp only [Act.put, p1', p2', p3', w1', w2']; rfl)
    refine u' 3 84 (B' 17 15) ?_ rfl rfl ?_ ?_ ?_ ?_; rotate_left; (intro w'; go_simp; with_reducible rfl); rotate_left; (simp only [Act.put, p1', p2', p3', w1', w2']; rfl)
    refine u' 5 86 (B' 17 47) ?_ rfl rfl ?_ ?_ ?_ ?_; rotate_left; (intro w'; go_simp; with_reducible rfl); rotate_left; (simp only [Act.put, p1', p2', p3', w1', w2']; rfl)
    refine u' 6 87 (B' 17 111) ?_ rfl rfl ?_ ?_ ?_ ?_; rotate_left; (intro w'; go_simp; with_reducible rfl); rotate_left; (simp only [Act.put, p1', p2', p3', w1', w2']; rfl)
    refine u' 7 88 (B' 17 239) ?_ rfl rfl ?_ ?_ ?_ ?_; rotate_left; (intro w'; go_simp; with_reducible rfl); rotate_left; (simp only [Act.put, p1', p2', p3', w1', w2']; rfl)
    refine u' 8 89 (B' 17 495) ?_ rfl rfl ?_ ?_ ?_ ?_; rotate_left; (intro w'; go_simp; with_reducible rfl); rotate_left; (simp only [Act.put, p1', p2', p3', w1', w2']; rfl)
    refine t' 4 85 (B' 17 511) ?_ rfl rfl ?_ hHeld ?_ ?_ ?_; rotate_left; (rintro w' ⟨s0, s1⟩; go_simp; with_reducible rfl); rotate_left; (simp only [Act.put, p1', p2', p3', w1', w2']; rfl)
    refine t' 9 90 (B' 17 1023) ?_ rfl rfl ?_ hHeld ?_ ?_ ?_; rotate_left; (rintro w' ⟨s0, s1⟩; go_simp; with_reducible rfl); rotate_left; (simp only [Act.put, p1', p2', p3', w1', w2']; rfl)
    refine u' 10 91 (B' 17 2047) ?_ rfl rfl ?_ ?_ ?_ ?_; rotate_left; (intro w'; go_simp; with_reducible rfl); rotate_left; (simp only [Act.put, p1', p2', p3', w1', w2']; rfl)
    refine u' 11 92 (B' 17 4095) ?_ rfl rfl ?_ ?_ ?_ ?_; rotate_left; (intro w'; go_simp; with_reducible rfl); rotate_left; (simp only [Act.put, p1', p2', p3', w1', w2']; rfl)
    refine one_ (i := 12) (N := some 93) (B' 17 8191) rfl rfl (by kernel_rfl) (by decide) (fun K hK => ?_)
    refine value_ (w1 := ?_) (v := ?_) (by rfl) rfl ?_ ?_
    rotate_left 2
    · go_simp
      constructor
      · rfl
      · rfl
    refine hK.out _ _ ⟨pw_cell_below (b1' (Below.refl _ _) _) p4, pw_cell_below (b1' (Below.refl _ _) _) p3⟩ (fun hHeld => ?_)
    clear hK K
    refine n' ?_ ?_ ?_; rotate_left; (show Act.put _ (some 93) _ = _; simp only [Act.put, p1', p2', p3', w1', w2']; rfl)
    refine one_ (i := 13) (N := some 94) (B' 17 16383) rfl rfl (by kernel_rfl) (by decide) (fun K hK => ?_)
    refine Kd.R_append_step (Kd.int .u8) 0 (by rfl) (.tmp 85) (.tmp 93) 29 5 (.int .u8 0) 1 rfl Try.underlying29 infoU8 rfl (by decide) (by decide) vo1 out1 (IntKind.u8.wrap (h / 16777216)) [.int .u8 (IntKind.u8.wrap (h / 16777216))] S' (fun _ => False) rfl rfl rfl (fun _ h => h.elim) (fun k hk => HS3.out k (.inr (Nat.le_trans HM7.out.size hk))) HE7.out.o (Below.refl 0 _) (Nat.zero_le _) (by omega) ?_
    intro v8 w8 hR8 _ hg8 hat8
    obtain ⟨A8, c8, rfl⟩ := Kd.R_slice hR8
    rw [List.length_append, List.length_cons, List.length_nil, Nat.zero_add, wraps_u8 (h / 16777216) (by omega) (by omega)] at hR8
    have hne8 := Kd.R_ne HE7.out.o HE7.out.b (by decide)
    have t4 : w8.cell? ⟨g, 4, none⟩ = some vo1 := hg8.cell p4 hne8
    have t3 : w8.cell? ⟨g, 3, none⟩ = some (.int .u64 h) := hg8.cell p3 hne8
    have z8 : w8.frozen? ⟨g, 4, none⟩ = false := Zf (blk_grown HE7.out.b hg8 hne8) 4
    have HE8 := Za (HE7.out.grew hg8 hR8)
    have HM8 := Za ((HM7.out.of_grown hg8 (fun k hk => HS2.out k (HE7.out.o.1 k hk))).setCell (p := ⟨g, 4, none⟩) (.inl hSg) (.slice A8 (out1.length + 1) c8))
    clear hR8 hg8 hat8 hne8 HM7
    refine hK.out _ _ ⟨t4, t3⟩ (fun hHeld => ?_)
    clear hK K
    refine n' ?_ ?_ ?_; rotate_left; (show Act.put _ (some 94) _ = _; simp only [Act.put, p1', p2', p3', w1', w2']; rfl)
    refine u' 14 95 (B' 17 32767) ?_ rfl rfl ?_ ?_ ?_ ?_; rotate_left; (intro w'; go_simp; with_reducible rfl); rotate_left; (simp only [Act.put, p1', p2', p3', w1', w2']; rfl)
    refine u' 15 96 (B' 17 65535) ?_ rfl rfl ?_ ?_ ?_ ?_; rotate_left; (intro w'; go_simp; with_reducible rfl); rotate_left; (simp only [Act.put, p1', p2', p3', w1', w2']; rfl)
    refine last_ (i := 16) (N := none) (B' 17 131071) rfl rfl (by kernel_rfl) (by decide) (fun K hK => ?_)
    refine skip_ (w1 := ?_) (by rfl) rfl ?_ ?_
    rotate_left
    · go_simp
      rfl
    refine hK.out _ _ ?_
    clear hK K
    refine done_ (by kernel_rfl) ?_
    have k2 := HE8.out.c2
    have k3 := HE8.out.c3
    obtain ⟨w9, hw9⟩ : ∃ w9, w9 = w8.setCell ⟨g, 4, none⟩ (.slice A8 (out1.length + 1) c8) := ⟨_, rfl⟩
    rw [← hw9] at HE8 HM8 k2 k3 ⊢
    clear hw9 p4 p3 t4 t3 z8
    go_wp2_with (fail)
    refine (shift_calls l h _ hp0 (by omega) (by omega) hp2).mono ?_
    rintro e w10 ⟨rfl, hb10⟩
    have HE10 := Za (HE8.out.below hb10)
    have HM10 := Za (HM8.out.below hb10)
    have k2 := HE10.out.c2
    have k3 := HE10.out.c3
    have f2 := HE10.out.fz 2
    have f3 := HE10.out.fz 3
    clear hb10 HE8 HM8
    go_wp2
    go_roundg d'
    case measure => have := HD.out; omega
    case rel => exact ⟨_, _, _, ⟨_, _, _, HE10.out.cut _ _⟩, ⟨(HM10.out.setCell (.inl hSg) _).setCell (.inl hSg) _⟩, HP'⟩
  · rw [decide_eq_false cc] at hs
    have HSA := Za hs
    clear hs
    have HCC := Za cc
    clear cc
    go_wp2_with (go_at_call 66; refine (HSA.out _).mono ?_; rintro e w7 ⟨rfl, hb7⟩; have HE7 := Za (HE5.out.below hb7); have HM7 := Za (HM5.out.below hb7); clear hb7)
    go_ret
    have hd := HPI.out.done HCC.out
    have hE7 := HE7.out
    rw [HSS.out, HST.out] at hE7
    exact ⟨rfl, ⟨l, h, out1, ⟨_, _, _, hE7⟩, hd.1, hd.2⟩, HM7.out⟩
end Go.Proofs.Ytkfejicdjpffcaa.RefPut
namespace Go.Proofs.Ytkfejicdjpffcaa.RefEnd
open Go Go.RowKit YtkfejicdjpffcaaW PrintWords PrintLast PrintMore Aid HandAid Cod1 Cod2 Cod3 Ytkfejicdjpffcaa.Mod Enc Mods EncAt Put End Snc Encode RefAt RefPut U
/-- The highest k bytes, as a number. -/
def topOf (high : Int) (k : Nat) : Int := if k = 0 then high / 4294967296 * 4294967296 else if k = 1 then high / 16777216 * 16777216 else if k = 2 then high / 65536 * 65536 else if k = 3 then high / 256 * 256 else high
set_option maxHeartbeats 4000000 in
set_option maxRecDepth 100000 in
theorem iend_calls (low high : Int) (w : World) (hl0 : 0 ≤ low) (hlh : low ≤ high) (hh : high ≤ 4294967295) :
 Calls Try.prog 75 #[.agg #[.int .u64 low, .int .u64 high]] w (EndPost w (endOf low high)) := by
 have hh0 : 0 ≤ high := by omega
 go_enter Try.func75, Try.ntmps75
 go_wp2
 go_loopg [3, 4] 5 (fun d o n wr => ∃ (k : Nat), k ≤ 4 ∧ Aside0 (k + d = 5) ∧ n = .int .u64 (topOf high k) ∧ ∃ A c, o = .slice A k c ∧ Aside0 (k ≤ endN low high) ∧ Aside0 (wr.heap[w.heap.size]? = some (.cells #[.int .u64 low, .int .u64 high] 96 (0, 0))) ∧ Aside0 (Kd.R (Kd.int .u8) 5 wr w.heap.size (fun _ => True) (.slice A k c) ((hiBytes high).take k)) ∧ Aside0 (Below w.heap.size w wr))
 case atStart => exact ⟨0, by omega, ⟨by omega⟩, by (show Value.int IntKind.u64 0 = _; rw [show topOf high 0 = 0 from (by unfold topOf; rw [if_pos rfl]; omega)]), none, 0, rfl, ⟨Nat.zero_le _⟩, ⟨heap_new w _⟩, ⟨Kd.R_nil _ _ _ _ _⟩, ⟨b1' (Below.refl _ _) _⟩⟩
 case round =>
  obtain ⟨k, hk, HD, rfl, A3, c3, rfl, HK, HZ, HR4, HB4⟩ := hrel
  have k0 : wr.cell? ⟨w.heap.size, 0, none⟩ = some (.int .u64 low) := (Zc HZ.out 0).trans rfl
  have k1 : wr.cell? ⟨w.heap.size, 1, none⟩ = some (.int .u64 high) := (Zc HZ.out 1).trans rfl
  have hcase : k = 0 ∨ k = 1 ∨ k = 2 ∨ k = 3 ∨ k = 4 := by omega
  rcases hcase with rfl | rfl | rfl | rfl | rfl
  · rw [show topOf high 0 = high / 4294967296 * 4294967296 from rfl]
    by_cases ct : high / 4294967296 * 4294967296 < low
    · have HN : 1 ≤ endN low high := by
        have := HK.out
        unfold endN at this ⊢
        repeat' split
        all_goals (first | omega | (split at this <;> omega))
      have hle := HB4.out.size
      have hbl := blk_lt HZ.out
      go_wp2_with (at_builtin; refine Kd.R_append (Kd.int .u8) (w0 := w) w.heap.size (by rfl) (.tmp 14) (.tmp 20) 29 5 (.int .u8 0) 1 rfl Try.underlying29 infoU8 rfl (by decide) (by decide) (.slice A3 0 c3) ((hiBytes high).take 0) (high / 16777216) [.int .u8 (high / 16777216)] (fun _ => True) (fun _ => False) rfl rfl rfl (fun _ h => h.elim) (fun _ _ => trivial) HR4.out HB4.out hle (by simp [hiBytes]) ?_; intro v8 w8 hR8 hB8 hg8 hat8; obtain ⟨A8, c8, hv8⟩ := Kd.R_slice hR8; rw [show ((hiBytes high).take 0 ++ [high / 16777216]).length = 1 by simp [hiBytes]] at hv8; subst hv8; have HR8 := Za (show Kd.R (Kd.int .u8) 5 w8 w.heap.size (fun _ => True) (.slice A8 1 c8) ((hiBytes high).take 1) from by simpa [hiBytes] using hR8); have HZ8 := Za (blk_grown HZ.out hg8 (Kd.R_ne HR4.out HZ.out (by decide))); have k0 : w8.cell? ⟨w.heap.size, 0, none⟩ = some (.int .u64 low) := (Zc HZ8.out 0).trans rfl; have k1 : w8.cell? ⟨w.heap.size, 1, none⟩ = some (.int .u64 high) := (Zc HZ8.out 1).trans rfl; have HB8 := Za hB8; clear hR8 hB8 hg8 hat8)
      go_roundg 4
      case measure => have := HD.out; omega
      case rel => exact ⟨1, by omega, ⟨by omega⟩, by (rw [show topOf high 1 = high / 16777216 * 16777216 from rfl]; congr 1; omega), A8, c8, rfl, ⟨HN⟩, HZ8, HR8, HB8⟩
    · have hEN : endN low high = 0 := by
        have := HK.out
        unfold endN at this ⊢
        repeat' split
        all_goals (first | rfl | omega | (split at this <;> omega))
      have hend : endOf low high = (hiBytes high).take 0 := by unfold endOf; rw [hEN]
      have HEND := Za hend
      clear hEN hend
      go_wp2
      go_ret
      refine ⟨A3, c3, ?_, ?_, HB4.out⟩
      · rw [HEND.out]; simp [hiBytes]
      · have := HR4.out
        rw [HEND.out]
        simp [hiBytes] at this ⊢
        exact this
  · rw [show topOf high 1 = high / 16777216 * 16777216 from rfl]
    by_cases ct : high / 16777216 * 16777216 < low
    · have HN : 2 ≤ endN low high := by
        have := HK.out
        unfold endN at this ⊢
        repeat' split
        all_goals (first | omega | (split at this <;> omega))
      have hle := HB4.out.size
      have hbl := blk_lt HZ.out
      go_wp2_with (at_builtin; refine Kd.R_append (Kd.int .u8) (w0 := w) w.heap.size (by rfl) (.tmp 14) (.tmp 20) 29 5 (.int .u8 0) 1 rfl Try.underlying29 infoU8 rfl (by decide) (by decide) (.slice A3 1 c3) ((hiBytes high).take 1) (high / 65536 % 256) [.int .u8 (high / 65536 % 256)] (fun _ => True) (fun _ => False) rfl rfl rfl (fun _ h => h.elim) (fun _ _ => trivial) HR4.out HB4.out hle (by simp [hiBytes]) ?_; intro v8 w8 hR8 hB8 hg8 hat8; obtain ⟨A8, c8, hv8⟩ := Kd.R_slice hR8; rw [show ((hiBytes high).take 1 ++ [high / 65536 % 256]).length = 2 by simp [hiBytes]] at hv8; subst hv8; have HR8 := Za (show Kd.R (Kd.int .u8) 5 w8 w.heap.size (fun _ => True) (.slice A8 2 c8) ((hiBytes high).take 2) from by simpa [hiBytes] using hR8); have HZ8 := Za (blk_grown HZ.out hg8 (Kd.R_ne HR4.out HZ.out (by decide))); have k0 : w8.cell? ⟨w.heap.size, 0, none⟩ = some (.int .u64 low) := (Zc HZ8.out 0).trans rfl; have k1 : w8.cell? ⟨w.heap.size, 1, none⟩ = some (.int .u64 high) := (Zc HZ8.out 1).trans rfl; have HB8 := Za hB8; clear hR8 hB8 hg8 hat8)
      go_roundg 3
      case measure => have := HD.out; omega
      case rel => exact ⟨2, by omega, ⟨by omega⟩, by (rw [show topOf high 2 = high / 65536 * 65536 from rfl]; congr 1; omega), A8, c8, rfl, ⟨HN⟩, HZ8, HR8, HB8⟩
    · have hEN : endN low high = 1 := by
        have := HK.out
        unfold endN at this ⊢
        repeat' split
        all_goals (first | rfl | omega | (split at this <;> omega))
      have hend : endOf low high = (hiBytes high).take 1 := by unfold endOf; rw [hEN]
      have HEND := Za hend
      clear hEN hend
      go_wp2
      go_ret
      refine ⟨A3, c3, ?_, ?_, HB4.out⟩
      · rw [HEND.out]; simp [hiBytes]
      · have := HR4.out
        rw [HEND.out]
        simp [hiBytes] at this ⊢
        exact this
  · rw [show topOf high 2 = high / 65536 * 65536 from rfl]
    by_cases ct : high / 65536 * 65536 < low
    · have HN : 3 ≤ endN low high := by
        have := HK.out
        unfold endN at this ⊢
        repeat' split
        all_goals (first | omega | (split at this <;> omega))
      have hle := HB4.out.size
      have hbl := blk_lt HZ.out
      go_wp2_with (at_builtin; refine Kd.R_append (Kd.int .u8) (w0 := w) w.heap.size (by rfl) (.tmp 14) (.tmp 20) 29 5 (.int .u8 0) 1 rfl Try.underlying29 infoU8 rfl (by decide) (by decide) (.slice A3 2 c3) ((hiBytes high).take 2) (high / 256 % 256) [.int .u8 (high / 256 % 256)] (fun _ => True) (fun _ => False) rfl rfl rfl (fun _ h => h.elim) (fun _ _ => trivial) HR4.out HB4.out hle (by simp [hiBytes]) ?_; intro v8 w8 hR8 hB8 hg8 hat8; obtain ⟨A8, c8, hv8⟩ := Kd.R_slice hR8; rw [show ((hiBytes high).take 2 ++ [high / 256 % 256]).length = 3 by simp [hiBytes]] at hv8; subst hv8; have HR8 := Za (show Kd.R (Kd.int .u8) 5 w8 w.heap.size (fun _ => True) (.slice A8 3 c8) ((hiBytes high).take 3) from by simpa [hiBytes] using hR8); have HZ8 := Za (blk_grown HZ.out hg8 (Kd.R_ne HR4.out HZ.out (by decide))); have k0 : w8.cell? ⟨w.heap.size, 0, none⟩ = some (.int .u64 low) := (Zc HZ8.out 0).trans rfl; have k1 : w8.cell? ⟨w.heap.size, 1, none⟩ = some (.int .u64 high) := (Zc HZ8.out 1).trans rfl; have HB8 := Za hB8; clear hR8 hB8 hg8 hat8)
      go_roundg 2
      case measure => have := HD.out; omega
      case rel => exact ⟨3, by omega, ⟨by omega⟩, by (rw [show topOf high 3 = high / 256 * 256 from rfl]; congr 1; omega), A8, c8, rfl, ⟨HN⟩, HZ8, HR8, HB8⟩
    · have hEN : endN low high = 2 := by
        have := HK.out
        unfold endN at this ⊢
        repeat' split
        all_goals (first | rfl | omega | (split at this <;> omega))
      have hend : endOf low high = (hiBytes high).take 2 := by unfold endOf; rw [hEN]
      have HEND := Za hend
      clear hEN hend
      go_wp2
      go_ret
      refine ⟨A3, c3, ?_, ?_, HB4.out⟩
      · rw [HEND.out]; simp [hiBytes]
      · have := HR4.out
        rw [HEND.out]
        simp [hiBytes] at this ⊢
        exact this
  · rw [show topOf high 3 = high / 256 * 256 from rfl]
    by_cases ct : high / 256 * 256 < low
    · have HN : 4 ≤ endN low high := by
        have := HK.out
        unfold endN at this ⊢
        repeat' split
        all_goals (first | omega | (split at this <;> omega))
      have hle := HB4.out.size
      have hbl := blk_lt HZ.out
      go_wp2_with (at_builtin; refine Kd.R_append (Kd.int .u8) (w0 := w) w.heap.size (by rfl) (.tmp 14) (.tmp 20) 29 5 (.int .u8 0) 1 rfl Try.underlying29 infoU8 rfl (by decide) (by decide) (.slice A3 3 c3) ((hiBytes high).take 3) (high % 256) [.int .u8 (high % 256)] (fun _ => True) (fun _ => False) rfl rfl rfl (fun _ h => h.elim) (fun _ _ => trivial) HR4.out HB4.out hle (by simp [hiBytes]) ?_; intro v8 w8 hR8 hB8 hg8 hat8; obtain ⟨A8, c8, hv8⟩ := Kd.R_slice hR8; rw [show ((hiBytes high).take 3 ++ [high % 256]).length = 4 by simp [hiBytes]] at hv8; subst hv8; have HR8 := Za (show Kd.R (Kd.int .u8) 5 w8 w.heap.size (fun _ => True) (.slice A8 4 c8) ((hiBytes high).take 4) from by simpa [hiBytes] using hR8); have HZ8 := Za (blk_grown HZ.out hg8 (Kd.R_ne HR4.out HZ.out (by decide))); have k0 : w8.cell? ⟨w.heap.size, 0, none⟩ = some (.int .u64 low) := (Zc HZ8.out 0).trans rfl; have k1 : w8.cell? ⟨w.heap.size, 1, none⟩ = some (.int .u64 high) := (Zc HZ8.out 1).trans rfl; have HB8 := Za hB8; clear hR8 hB8 hg8 hat8)
      go_roundg 1
      case measure => have := HD.out; omega
      case rel => exact ⟨4, by omega, ⟨by omega⟩, by (rw [show topOf high 4 = high from rfl]; congr 1; omega), A8, c8, rfl, ⟨HN⟩, HZ8, HR8, HB8⟩
    · have hEN : endN low high = 3 := by
        have := HK.out
        unfold endN at this ⊢
        repeat' split
        all_goals (first | rfl | omega | (split at this <;> omega))
      have hend : endOf low high = (hiBytes high).take 3 := by unfold endOf; rw [hEN]
      have HEND := Za hend
      clear hEN hend
      go_wp2
      go_ret
      refine ⟨A3, c3, ?_, ?_, HB4.out⟩
      · rw [HEND.out]; simp [hiBytes]
      · have := HR4.out
        rw [HEND.out]
        simp [hiBytes] at this ⊢
        exact this
  · rw [show topOf high 4 = high from rfl]
    by_cases ct : high < low
    · exact absurd ct (by omega)
    · have hEN : endN low high = 4 := by
        have := HK.out
        unfold endN at this ⊢
        repeat' split
        all_goals (first | rfl | omega | (split at this <;> omega))
      have hend : endOf low high = (hiBytes high).take 4 := by unfold endOf; rw [hEN]
      have HEND := Za hend
      clear hEN hend
      go_wp2
      go_ret
      refine ⟨A3, c3, ?_, ?_, HB4.out⟩
      · rw [HEND.out]; simp [hiBytes]
      · have := HR4.out
        rw [HEND.out]
        simp [hiBytes] at this ⊢
        exact this
set_option maxHeartbeats 4000000 in
set_option maxRecDepth 100000 in
theorem ref_end_row (w : World) (S : Nat → Prop) (g : Nat) (kind : Int) (A : Option Addr) (c : Nat) (st : List Int) (low high : Int) (vo : Value) (out : List Int) (hE : RefRow w S g kind A c st low high vo out) (hl0 : 0 ≤ low) (hlh : low ≤ high) (hh : high ≤ 4294967295) (hlen : out.length ≤ 1099511627880) :
 Calls Try.prog 30 #[.pointer (some ⟨g, 0, none⟩)] w (EndPost w (out ++ endOf low high)) := by
 have HE := Za hE
 obtain ⟨Ao, co, hvo⟩ := Kd.R_slice hE.o
 subst hvo
 have hee : (endOf low high).length ≤ 4 := by simp only [endOf, hiBytes, List.length_take, List.length_cons, List.length_nil]; omega
 have p4 : w.drew.cell? ⟨g, 4, none⟩ = some (.slice Ao out.length co) := hE.c4
 have p2 : w.drew.cell? ⟨g, 2, none⟩ = some (.int .u64 low) := hE.c2
 have p3 : w.drew.cell? ⟨g, 3, none⟩ = some (.int .u64 high) := hE.c3
 have HB1 : Aside0 (Below w.heap.size w (w.drew.alloc (.cells #[] 5))) := ⟨b1' (below_drew (Below.refl _ _)) _⟩
 have HR1 : Aside0 (Kd.R (Kd.int .u8) 5 (w.drew.alloc (.cells #[] 5)) w.heap.size (fun _ => True) (.slice (some ⟨w.drew.heap.size, 0, none⟩) 0 0) []) := ⟨Kd.R_of_own (enc := Value.int .u8) (World.ownsRow_lit w.drew #[] 0 (Nat.le_refl _) (by decide) rfl) (fun _ _ => trivial)⟩
 have HCo := Za (Kd.R_reads' (hE.drew.below (b1' (Below.refl _ _) (.cells #[] 5))).o).2.2
 have hu := Try.underlying96
 clear hE
 go_enter Try.func30, Try.ntmps30
 go_wp2
 refine start_ (n := 13) (S := fun w' => w'.cell? ⟨g, 4, none⟩ = some (.slice Ao out.length co) ∧ w'.cell? ⟨g, 2, none⟩ = some (.int .u64 low) ∧ w'.cell? ⟨g, 3, none⟩ = some (.int .u64 high)) (ds := []) (B' 13 0) (by kernel_rfl) rfl rfl ⟨p4, p2, p3⟩ (fun hHeld => ?_)
 generalize w.drew = wd at p4 p2 p3 HR1 HB1 HCo hHeld ⊢
 refine u' 1 6 (B' 13 2) ?_ rfl rfl ?_ ?_ ?_ ?_; rotate_left; (intro w'; go_simp; with_reducible rfl); rotate_left; (simp only [Act.put, p1', p2', p3', w1', w2']; rfl)
 refine u' 2 7 (B' 13 6) ?_ rfl rfl ?_ ?_ ?_ ?_; rotate_left; (intro w'; go_simp; with_reducible rfl); rotate_left; (simp only [Act.put, p1', p2', p3', w1', w2']; rfl)
 refine u' 3 8 (B' 13 14) ?_ rfl rfl ?_ ?_ ?_ ?_; rotate_left; (intro w'; go_simp; with_reducible rfl); rotate_left; (simp only [Act.put, p1', p2', p3', w1', w2']; rfl)
 refine u' 6 11 (B' 13 78) ?_ rfl rfl ?_ ?_ ?_ ?_; rotate_left; (intro w'; go_simp; with_reducible rfl); rotate_left; (simp only [Act.put, p1', p2', p3', w1', w2']; rfl)
 refine u' 7 12 (B' 13 206) ?_ rfl rfl ?_ ?_ ?_ ?_; rotate_left; (intro w'; go_simp; with_reducible rfl); rotate_left; (simp only [Act.put, p1', p2', p3', w1', w2']; rfl)
 refine u' 8 13 (B' 13 462) ?_ rfl rfl ?_ ?_ ?_ ?_; rotate_left; (intro w'; go_simp; with_reducible rfl); rotate_left; (simp only [Act.put, p1', p2', p3', w1', w2']; rfl)
 refine t' 4 9 (B' 13 478) ?_ rfl rfl ?_ hHeld ?_ ?_ ?_; rotate_left; (rintro w' ⟨s0, s1, s2⟩; go_simp; with_reducible rfl); rotate_left; (simp only [Act.put, p1', p2', p3', w1', w2']; rfl)
 refine t' 9 14 (B' 13 990) ?_ rfl rfl ?_ hHeld ?_ ?_ ?_; rotate_left; (rintro w' ⟨s0, s1, s2⟩; go_simp; with_reducible rfl); rotate_left; (simp only [Act.put, p1', p2', p3', w1', w2']; rfl)
 refine one_ (i := 0) (N := some 5) (B' 13 991) rfl rfl (by kernel_rfl) (by decide) (fun K hK => ?_)
 refine value_ (w1 := ?_) (v := ?_) (by rfl) rfl ?_ ?_
 rotate_left 2
 · go_simp
   constructor
   · rfl
   · rfl
 refine hK.out _ _ ⟨pw_cell_below (b1' (Below.refl _ _) _) p4, pw_cell_below (b1' (Below.refl _ _) _) p2, pw_cell_below (b1' (Below.refl _ _) _) p3⟩ (fun hHeld => ?_)
 clear hK K
 refine n' ?_ ?_ ?_; rotate_left; (show Act.put _ (some 5) _ = _; simp only [Act.put, p1', p2', p3', w1', w2']; rfl)
 refine one_ (i := 5) (N := some 10) (B' 13 1023) rfl rfl (by kernel_rfl) (by decide) (fun K hK => ?_)
 refine Kd.R_append_rows_step (Kd.int .u8) (w0 := w) w.heap.size (by rfl) (.tmp 5) (.tmp 9) 29 5 (.int .u8 0) 1 rfl Try.underlying29 infoU8 rfl (by decide) (by omega) (.slice (some ⟨wd.heap.size, 0, none⟩) 0 0) [] out _ _ _ (fun _ => True) (fun _ => False) rfl rfl HR1.out HCo.out (fun _ _ h => h) (fun _ h => h.elim) (fun _ _ => trivial) HB1.out HB1.out.size (by simp only [List.length_nil]; omega) ?_
 intro v3 w3 hR3 hB3 hg3 hat3
 rw [List.nil_append] at hR3
 obtain ⟨A3, c3, rfl⟩ := Kd.R_slice hR3
 have HR3 := Za hR3
 have HB3 := Za hB3
 have HE3 := Za (HE.out.below hB3)
 clear hR3 hB3 hg3 hat3
 refine hK.out _ _ ⟨HE3.out.c4, HE3.out.c2, HE3.out.c3⟩ (fun hHeld => ?_)
 clear hK K
 refine n' ?_ ?_ ?_; rotate_left; (show Act.put _ (some 10) _ = _; simp only [Act.put, p1', p2', p3', w1', w2']; rfl)
 refine one_ (i := 10) (N := some 15) (B' 13 2047) rfl rfl (by kernel_rfl) (by decide) (fun K hK => ?_)
 refine goes_ Try.func75 (by kernel_rfl) rfl #[.agg #[.int .u64 low, .int .u64 high]] (by rfl) rfl rfl (by simp only [List.map_toArray, List.map_cons, List.map_nil]; rfl) ?_
 with_reducible refine (iend_calls low high _ hl0 hlh hh).mono ?_
 rintro e w7 ⟨A7, c7, rfl, hR7, hB7⟩
 refine ⟨_, rfl, ?_⟩
 have HR7 := Za (Kd.R_below HR3.out hB7)
 have HC7 := Za (Kd.R_reads' hR7).2.2
 have HB7 := Za (below_then HB3.out HB3.out.size hB7)
 have HE7 := Za (HE.out.below HB7.out)
 clear hR7 hB7
 refine hK.out _ _ ⟨HE7.out.c4, HE7.out.c2, HE7.out.c3⟩ (fun hHeld => ?_)
 clear hK K
 refine n' ?_ ?_ ?_; rotate_left; (show Act.put _ (some 15) _ = _; simp only [Act.put, p1', p2', p3', w1', w2']; rfl)
 refine one_ (i := 11) (N := some 16) (B' 13 4095) rfl rfl (by kernel_rfl) (by decide) (fun K hK => ?_)
 refine Kd.R_append_rows_step (Kd.int .u8) (w0 := w) w.heap.size (by rfl) (.tmp 10) (.tmp 15) 29 5 (.int .u8 0) 1 rfl Try.underlying29 infoU8 rfl (by decide) (by omega) (.slice A3 out.length c3) out (endOf low high) _ _ _ (fun _ => True) (fun _ => False) rfl rfl HR7.out HC7.out (fun _ _ h => h) (fun _ h => h.elim) (fun _ _ => trivial) HB7.out HB7.out.size (by omega) ?_
 intro v9 w9 hR9 hB9 hg9 hat9
 obtain ⟨A9, c9, rfl⟩ := Kd.R_slice hR9
 have HR9 := Za hR9
 have HB9 := Za hB9
 have HE9 := Za (HE.out.below hB9)
 clear hR9 hB9 hg9 hat9
 refine hK.out _ _ ⟨HE9.out.c4, HE9.out.c2, HE9.out.c3⟩ (fun hHeld => ?_)
 clear hK K
 refine n' ?_ ?_ ?_; rotate_left; (show Act.put _ (some 16) _ = _; simp only [Act.put, p1', p2', p3', w1', w2']; rfl)
 refine u' 12 2 (B' 13 8191) ?_ rfl rfl ?_ ?_ ?_ ?_; rotate_left; (intro w'; go_simp; with_reducible rfl); rotate_left; (simp only [Act.put, p1', p2', p3', w1', w2']; rfl)
 refine done_ (by kernel_rfl) ?_
 go_wp2
 go_ret
 exact ⟨A9, c9, by first | rfl | (rw [List.length_append]; rfl) | simp, HR9.out, HB9.out⟩
theorem ref_end_calls (w : World) (S : Nat → Prop) (g : Nat) (s : ES) (hE : RefAt w S g s) (hok : s.ok) (hlen : s.out.length ≤ 1099511627880) :
 Calls Try.prog 30 #[.pointer (some ⟨g, 0, none⟩)] w (EndPost w s.end_) := by
 obtain ⟨A, c, vo, hR⟩ := hE
 exact ref_end_row w S g s.kind A c s.st s.low s.high vo s.out hR hok.l hok.lh hok.h hlen
theorem ref_put_calls (w : World) (S : Nat → Prop) (g : Nat) (s : ES) (i bit : Int) (hE : RefAt w S g s) (hok : s.ok) (hlen : s.out.length ≤ 1099511627776) :
 Calls Try.prog 26 #[.pointer (some ⟨g, 0, none⟩), .int .i64 i, .int .i64 bit] w fun e w' => e = .returned (.int .i64 (s.err i bit)) ∧ RefAt w' (fun k => (S k ∨ w.heap.size ≤ k) ∧ k < w'.heap.size) g (s.putI i bit) ∧ Mods w w' S := by
 obtain ⟨A, c, vo, hR⟩ := hE
 by_cases hg : s.good i bit = true
 · have e1 : s.err i bit = 0 := if_pos hg
   have e2 : s.putI i bit = s.put i.toNat bit := if_pos hg
   rw [e1, e2]
   simp only [ES.good, Bool.and_eq_true, Bool.or_eq_true, decide_eq_true_eq] at hg
   obtain ⟨⟨h0, h1⟩, hb⟩ := hg
   obtain ⟨j, rfl⟩ : ∃ j : Nat, i = (j : Int) := ⟨i.toNat, by omega⟩
   rw [Int.toNat_natCast]
   have hj : j < s.st.length := by omega
   obtain ⟨b, rfl, _⟩ := hR.cell hj
   have hc := ES.cut_ hok hj (bit := bit)
   have hI : PutInv s.out (cutL s.low (s.mid j) bit) (cutH s.high (s.mid j) bit) 4 (cutL s.low (s.mid j) bit) (cutH s.high (s.mid j) bit) s.out := ⟨hc.1, hc.2.1, hc.2.2, by rw [show (256 : Int) ^ 4 = 4294967296 from rfl]; omega, rfl, rfl, Nat.le_refl _⟩
   have key : Calls Try.prog 26 #[.pointer (some ⟨g, 0, none⟩), .int .i64 j, .int .i64 bit] w (RefPost w S g s.kind s.st s.low s.high (s.mid j) s.out j bit) := by
    rcases hb with rfl | rfl
    · exact ref_row0 w S g s.kind b c s.st s.low s.high (s.mid j) vo s.out j hR hj hok.m.2.1 (ES.at_ hok hj) hok.l hok.lh hok.h rfl hI hlen
    · exact ref_row1 w S g s.kind b c s.st s.low s.high (s.mid j) vo s.out j hR hj hok.m.2.1 (ES.at_ hok hj) hok.l hok.lh hok.h rfl hI hlen
   refine key.mono ?_
   rintro e w' ⟨he, ⟨l, h, out1, hE', ho, hn⟩, hk⟩
   refine ⟨he, ?_, hk⟩
   have hE2 : RefAt w' (fun k => S k ∨ w.heap.size ≤ k) g (s.put j bit) := by
    obtain ⟨A', c', vo', h'⟩ := hE'
    refine ⟨A', c', vo', ?_⟩
    have hn' : s.norm j bit = (out1.drop s.out.length, l, h) := by
     show normE 4 _ _ = _
     rw [ho, List.drop_left, ← hn]
    simp only [ES.put]
    rw [show (s.norm j bit).2.1 = l by rw [hn'], show (s.norm j bit).2.2 = h by rw [hn'], show s.out ++ (s.norm j bit).1 = out1 from ho.symm]
    exact h'
   exact hE2.bound
 · have e1 : s.err i bit = 2 := if_neg hg
   have e2 : s.putI i bit = s := if_neg hg
   rw [e1, e2]
   have hbad : i < 0 ∨ (s.st.length : Int) ≤ i ∨ (bit ≠ 0 ∧ bit ≠ 1) := by
    simp only [ES.good, Bool.and_eq_true, Bool.or_eq_true, decide_eq_true_eq] at hg
    omega
   refine (ref_put_arg w g A s.st.length c i bit hR.c1 hbad).mono ?_
   rintro e w' ⟨rfl, rfl⟩
   exact ⟨rfl, ⟨A, c, vo, hR.bound.mono (fun k hk => ⟨.inl hk.1, hk.2⟩)⟩, Mods.refl _ _⟩
/-- What a Model answers: a copy. -/
def ModelPost (w : World) (kind : Int) (st : List Int) (e : Ending) (w' : World) : Prop := ∃ A c, e = .returned (.agg #[.int .i64 kind, .slice A st.length c]) ∧ Kd.R (Kd.int .i64) 3 w' w.heap.size (fun _ => True) (.slice A st.length c) st ∧ Below w.heap.size w w'
set_option maxRecDepth 100000 in
theorem model_calls (w : World) (S : Nat → Prop) (g : Nat) (s : ES) (hE : EncAt w S g s) (hok : s.ok) :
 Calls Try.prog 32 #[.pointer (some ⟨g, 0, none⟩)] w (ModelPost w s.kind s.st) := by
 obtain ⟨A, c, vo, hR⟩ := hE
 have HE := Za (hR.below (b1' (Below.refl _ _) (.cells #[.int .i64 0, .slice none 0 0] 45)))
 have HB := Za (b1' (Below.refl w.heap.size w) (.cells #[.int .i64 0, .slice none 0 0] 45))
 have HZ := Za (heap_new w (.cells #[.int .i64 0, .slice none 0 0] 45))
 have hu := Try.underlying45
 have h2 := HE.out.real
 have k0 := HE.out.iv.k
 have k1 := HE.out.iv.s
 have hl := hok.m.2.1
 obtain ⟨hn, hc, hC⟩ := Kd.R_reads' HE.out.s
 have HC := Za hC
 obtain ⟨b2, hb2⟩ : ∃ b2, w.heap.size = b2 := ⟨_, rfl⟩
 have HSZ := Za hb2
 rw [hb2] at HZ
 clear hR hn hC
 go_enter Try.func32, Try.ntmps32
 go_wp2_with (first
  | (go_at_call 70; refine (enc_none _ _ _ h2).mono ?_; rintro e w' ⟨rfl, rfl⟩)
  | (go_at_call 77; refine (clone_calls A c s.kind s.st _ HC.out hc (by omega)).mono ?_; rintro e w4 ⟨A4, c4, rfl, hR4, hB4⟩; have HR4 := Za (Kd.R_lower hR4 HB.out.size); have HB4 := Za (below_then HB.out HB.out.size hB4); have HZ4 := Za (Zd HZ.out hB4); have z0 : w4.cell? ⟨b2, 0, none⟩ = some (.int .i64 0) := (Zc HZ4.out 0).trans rfl; have z1 : w4.cell? ⟨b2, 1, none⟩ = some (.slice none 0 0) := (Zc HZ4.out 1).trans rfl; have zf0 := Zf HZ4.out 0; have zf1 := Zf HZ4.out 1; clear hR4 hB4))
 have hz2 : (w4.setCell ⟨b2, 0, none⟩ (.int .i64 s.kind)).heap[b2]? = some (.cells #[.int .i64 s.kind, .slice none 0 0] 45 (0, 0)) := blk_put (cs := #[.int .i64 0, .slice none 0 0]) HZ4.out 0 _ rfl
 refine bodyPost_ret (results_cell_row rfl _ _ b2 45 #[.int .i64 s.kind, .slice A4 s.st.length c4] (0, 0) _ rfl (blk_put (cs := #[.int .i64 s.kind, .slice none 0 0]) hz2 1 _ rfl) Try.underlying45 rfl (by kernel_rfl)) rfl ?_
 have hwb : w.heap.size ≤ b2 := by rw [HSZ.out]; exact Nat.le_refl _
 exact ⟨A4, c4, rfl, Kd.R_set (Kd.R_set HR4.out HZ4.out (by decide) _ _) hz2 (by decide) _ _, (HB4.out.setCell hwb _).setCell hwb _⟩
set_option maxRecDepth 100000 in
theorem ref_new_enc (A : Option Addr) (c : Nat) (kind : Int) (st : List Int) (w : World) (hC : Kd.C (Kd.int .i64) w A st.length st) (hc : st.length ≤ c) (hm : okModel kind st) :
 Calls Try.prog 24 #[.agg #[.int .i64 kind, .slice A st.length c]] w fun e w' => ∃ g, e = .returned (.tuple #[.pointer (some ⟨g, 0, none⟩), .int .i64 0]) ∧ RefAt w' (Since w.heap.size w') g (newES kind st) ∧ Below w.heap.size w w' := by
 have HC := Za hC
 have hv := ref_valid_calls A c kind st
 rw [decide_eq_true hm] at hv
 have HV := Za hv
 have hl := hm.2.1
 have hu := Try.underlying45
 clear hC hv hm
 have hb0 := Za (b1' (Below.refl w.heap.size w) (.cells #[.int .i64 kind, .slice A st.length c] 45))
 have hq0 : Aside0 ((w.alloc (.cells #[.int .i64 kind, .slice A st.length c] 45)).heap[w.heap.size]? = some (.cells #[.int .i64 kind, .slice A st.length c] 45 (0, 0))) := ⟨heap_new _ _⟩
 go_enter Try.func24, Try.ntmps24
 go_wp2_with (first
  | (go_at_call 53; refine (HV.out _ (Kd.C_below HC.out hb0.out) hc).mono ?_; rintro e w1 ⟨rfl, hB⟩; have HB := Za (below_then hb0.out hb0.out.size hB); have hq1 : Aside0 (w1.heap[w.heap.size]? = some (.cells #[.int .i64 kind, .slice A st.length c] 45 (0, 0))) := ⟨(hB.block _ (blk_lt hq0.out)).trans hq0.out⟩; have k0 : w1.cell? ⟨w.heap.size, 0, none⟩ = some (.int .i64 kind) := (Zc hq1.out 0).trans rfl; have k1 : w1.cell? ⟨w.heap.size, 1, none⟩ = some (.slice A st.length c) := (Zc hq1.out 1).trans rfl; clear hB)
  | (go_at_call 54; refine (copy_calls A c kind st _ (Kd.C_below HC.out HB.out) hc (by omega)).mono ?_; rintro e w2 ⟨A2, c2, rfl, hR, hB⟩; have HB2 := Za (below_then HB.out HB.out.size hB); have HR := Za (Kd.R_lower hR HB.out.size); clear hR hB)
  | (go_at_call 55; refine (incunableref02_Whole.calls 0 4294967295 _ rfl).mono ?_; rintro e w3 ⟨rfl, hB⟩; have HB3 := Za (below_then HB2.out HB2.out.size hB); have HR3 := Za (Kd.R_below HR.out hB); clear hB))
 go_ret2
 refine ⟨w3.heap.size, rfl, ⟨A2, c2, .slice none 0 0, heap_new w3 (.cells (ref5 kind (.slice A2 st.length c2) 0 4294967295 (.slice none 0 0)) 99), ?_, Kd.R_nil _ _ _ _ _, ⟨HB3.out.size, by simp⟩⟩, b1' HB3.out _⟩
 exact Kd.R_lower (Kd.R_mono (Kd.R_alloc (Kd.R_bound HR3.out) _) (fun k hk => ⟨hk.2.1, by have := hk.2.2.1; simp; omega⟩)) (Nat.zero_le _)
end Go.Proofs.Ytkfejicdjpffcaa.RefEnd
namespace Go.Proofs.Ytkfejicdjpffcaa.RDec
open Go Go.RowKit YtkfejicdjpffcaaW PrintWords PrintLast PrintMore Aid HandAid Cod1 Cod2 Cod3 Ytkfejicdjpffcaa.Mod Enc Mods EncAt Put End Snc Encode RefAt Dec Get U
attribute [local go_sem low] max2_int
attribute [local go_sem] min2_int max_two min_two
theorem max_sub (k n : Nat) : Builtin.max2 (.int .i64 0) (.int .i64 ((k : Int) - (n : Int))) = pure (.int .i64 ((k - n : Nat) : Int)) := by
 rw [max2_int]
 congr 2
 split <;> omega
attribute [local go_sem high] max_sub
/-- The reference's decoder: its cells. -/
def dec9 (kind : Int) (v : Value) (low high : Int) (vc : Value) (a value be : Int) (ended : Bool) : Array Value := #[.int .i64 kind, v, .int .u64 low, .int .u64 high, vc, .int .i64 a, .int .u64 value, .int .i64 be, .bool ended]
structure RDecRow (W : World) (S : Nat → Prop) (g : Nat) (kind : Int) (A : Option Addr) (c : Nat) (st : List Int) (low high : Int) (vc : Value) (code : List Int) (a value be : Int) (ended : Bool) : Prop where
 b : W.heap[g]? = some (.cells (dec9 kind (.slice A st.length c) low high vc a value be ended) 125 (0, 0))
 s : Kd.R (Kd.int .i64) 3 W 0 S (.slice A st.length c) st
 o : Kd.R (Kd.int .u8) 5 W 0 S vc code
 g : S g
section
variable {W W' : World} {S S' : Nat → Prop} {g : Nat} {kind : Int} {A : Option Addr} {c : Nat} {st : List Int} {low high : Int} {vc : Value} {code : List Int} {a value be : Int} {ended : Bool}
theorem RDecRow.kept (h : RDecRow W S g kind A c st low high vc code a value be ended) (hk : Mods W W' S') (hne : ∀ k, S k → ¬ S' k) : RDecRow W' S g kind A c st low high vc code a value be ended :=
 ⟨blk_kept h.b hk.kept (hne g h.g), Kd.R_kept h.s hk.kept hne, Kd.R_kept h.o hk.kept hne, h.g⟩
theorem RDecRow.below (h : RDecRow W S g kind A c st low high vc code a value be ended) (hb : Below W.heap.size W W') : RDecRow W' S g kind A c st low high vc code a value be ended :=
 ⟨Zd h.b hb, Kd.R_below h.s hb, Kd.R_below h.o hb, h.g⟩
theorem RDecRow.drewN (h : RDecRow W S g kind A c st low high vc code a value be ended) (m : Nat) : RDecRow (W.drewN m) S g kind A c st low high vc code a value be ended := h.below (b2' (Below.refl _ _) m)
theorem RDecRow.drew (h : RDecRow W S g kind A c st low high vc code a value be ended) : RDecRow W.drew S g kind A c st low high vc code a value be ended := h.below (below_drew (Below.refl _ _))
theorem RDecRow.mono (h : RDecRow W S g kind A c st low high vc code a value be ended) (hs : ∀ k, S k → S' k) : RDecRow W S' g kind A c st low high vc code a value be ended :=
 ⟨h.b, Kd.R_mono h.s hs, Kd.R_mono h.o hs, hs g h.g⟩
theorem RDecRow.c0 (h : RDecRow W S g kind A c st low high vc code a value be ended) : W.cell? ⟨g, 0, none⟩ = some (.int .i64 kind) := (Zc h.b 0).trans rfl
theorem RDecRow.c1 (h : RDecRow W S g kind A c st low high vc code a value be ended) : W.cell? ⟨g, 1, none⟩ = some (.slice A st.length c) := (Zc h.b 1).trans rfl
theorem RDecRow.c2 (h : RDecRow W S g kind A c st low high vc code a value be ended) : W.cell? ⟨g, 2, none⟩ = some (.int .u64 low) := (Zc h.b 2).trans rfl
theorem RDecRow.c3 (h : RDecRow W S g kind A c st low high vc code a value be ended) : W.cell? ⟨g, 3, none⟩ = some (.int .u64 high) := (Zc h.b 3).trans rfl
theorem RDecRow.c4 (h : RDecRow W S g kind A c st low high vc code a value be ended) : W.cell? ⟨g, 4, none⟩ = some vc := (Zc h.b 4).trans rfl
theorem RDecRow.c5 (h : RDecRow W S g kind A c st low high vc code a value be ended) : W.cell? ⟨g, 5, none⟩ = some (.int .i64 a) := (Zc h.b 5).trans rfl
theorem RDecRow.c6 (h : RDecRow W S g kind A c st low high vc code a value be ended) : W.cell? ⟨g, 6, none⟩ = some (.int .u64 value) := (Zc h.b 6).trans rfl
theorem RDecRow.c7 (h : RDecRow W S g kind A c st low high vc code a value be ended) : W.cell? ⟨g, 7, none⟩ = some (.int .i64 be) := (Zc h.b 7).trans rfl
theorem RDecRow.c8 (h : RDecRow W S g kind A c st low high vc code a value be ended) : W.cell? ⟨g, 8, none⟩ = some (.bool ended) := (Zc h.b 8).trans rfl
theorem RDecRow.fz (h : RDecRow W S g kind A c st low high vc code a value be ended) (i : Nat) : W.frozen? ⟨g, i, none⟩ = false := Zf h.b i
theorem RDecRow.cell (h : RDecRow W S g kind A c st low high vc code a value be ended) {i : Nat} (hi : i < st.length) : ∃ b, A = some ⟨b, 0, none⟩ ∧ W.cell? ⟨b, i, none⟩ = some (.int .i64 (rd st i)) ∧ W.frozen? ⟨b, i, none⟩ = false ∧ b ≠ g := by
 obtain ⟨b, cap, hv, _, _, cells, hc⟩ := Kd.R_form h.s (by omega)
 injection hv with hA _ hcap
 subst hA hcap
 have h1 := Kd.R_cell (0 : Int) h.s (i : Int) (by omega) (by omega)
 have hne : b ≠ g := blk_ne hc h.b (by decide)
 exact ⟨b, rfl, h1.1, h1.2, hne⟩
theorem RDecRow.put (h : RDecRow W S g kind A c st low high vc code a value be ended) (j : Nat) (u : Value) {kind' low' high' a' value' be' : Int} {ended' : Bool} (e : (dec9 kind (.slice A st.length c) low high vc a value be ended).setIfInBounds j u = dec9 kind' (.slice A st.length c) low' high' vc a' value' be' ended') : RDecRow (W.setCell ⟨g, j, none⟩ u) S g kind' A c st low' high' vc code a' value' be' ended' :=
 ⟨blk_put h.b j u e, Kd.R_set h.s h.b (by decide) _ _, Kd.R_set h.o h.b (by decide) _ _, h.g⟩
theorem RDecRow.setst {b : Nat} (h : RDecRow W S g kind (some ⟨b, 0, none⟩) c st low high vc code a value be ended) {i : Nat} (hi : i < st.length) (x : Int) : RDecRow (W.setCell ⟨b, i, none⟩ (.int .i64 x)) S g kind (some ⟨b, 0, none⟩) c (st.set i x) low high vc code a value be ended := by
 obtain ⟨b', hA, _, _, hne⟩ := h.cell hi
 injection hA with hA
 injection hA with hA _ _
 subst hA
 obtain ⟨cells, hty⟩ := Kd.R_typed h.s b (by simp [Value.ownBlock])
 have hp := (Kd.R_put (enc := Value.int .i64) h.s (i : Int) x).1
 rw [Int.toNat_natCast] at hp
 have hl : (st.set i x).length = st.length := List.length_set
 refine ⟨?_, ?_, Kd.R_set h.o hty (by decide) _ _, h.g⟩
 · rw [hl]
   exact blk_far h.b (Ne.symm hne) _
 · rw [hl]
   exact hp
/-- A write in another block. -/
theorem RDecRow.far (h : RDecRow W S g kind A c st low high vc code a value be ended) {p : Addr} (hp : ¬ S p.block) (u : Value) : RDecRow (W.setCell p u) S g kind A c st low high vc code a value be ended :=
 h.kept ((Mods.refl W (fun k => k = p.block)).setCell (.inl rfl) u) (fun k hk he => hp (he ▸ hk))
end
theorem byte_calls (Ac : Option Addr) (cc : Nat) (code : List Int) (i : Nat) (w : World) (hC : Kd.C (Kd.int .u8) w Ac code.length code) (hby : Bytes code) :
 Calls Try.prog 83 #[.slice Ac code.length cc, .int .i64 i] w fun e w' => e = .returned (.int .u64 (Dec.byteOf code i)) ∧ w = w' := by
 have HBY := Za hby
 clear hby
 by_cases hlt : i < code.length
 · have hb : Dec.byteOf code i = rd code i := if_pos hlt
   obtain ⟨ad, hA, hx⟩ := Kd.at_int hC (i : Int) (by omega) (by omega)
   subst hA
   rw [Int.toNat_natCast] at hx
   have hr := byteOf_range HBY.out i
   rw [hb] at hr
   have hi : (i : Int) < (code.length : Int) := by omega
   have HBB := Za hb
   clear hlt hb hC
   go_enter Try.func83, Try.ntmps83
   go_wp2
   go_ret
   exact ⟨by rw [HBB.out]; rfl, rfl⟩
 · have hb : Dec.byteOf code i = 0 := if_neg hlt
   have hi : ¬ (i : Int) < (code.length : Int) := by omega
   have HBB := Za hb
   clear hlt hb hC
   go_enter Try.func83, Try.ntmps83
   go_wp2
   go_ret
   exact ⟨by rw [HBB.out]; rfl, rfl⟩
theorem rmid_calls (low high p : Int) (w : World) (h0 : 0 ≤ low) (h1 : low ≤ high) (h2 : high ≤ 4294967295) (h3 : 1 ≤ p) (h4 : p ≤ 4095) : Calls Try.prog 91 #[.agg #[.int .u64 low, .int .u64 high], .int .i64 p] w fun e w' => e = .returned (.int .u64 (midOf low high p)) ∧ Below w.heap.size w w' :=
 incunableref02_Interval_Mid.calls low high p _ w (mid_eq low high p h0 h1 h2 h3 h4)
/-- What a Get that takes a bit leaves. -/
def RGetPost (w : World) (S : Nat → Prop) (g : Nat) (kind : Int) (b c : Nat) (st : List Int) (low high mid : Int) (vc : Value) (code : List Int) (a : Nat) (value : Int) (i : Nat) (bit : Int) (e : Ending) (w' : World) : Prop :=
 (∃ l h n, normE 4 (cutL low mid bit) (cutH high mid bit) = (n, l, h) ∧ ((a + n.length - code.length > 4 ∧ e = .returned (.tuple #[.int .i64 0, .int .i64 6]) ∧ RDecRow w' S g kind (some ⟨b, 0, none⟩) c st low high vc code a value ((a - code.length : Nat) : Int) true) ∨ (¬ a + n.length - code.length > 4 ∧ e = .returned (.tuple #[.int .i64 bit, .int .i64 0]) ∧ RDecRow w' S g kind (some ⟨b, 0, none⟩) c (st.set i (after kind (rd st i) bit)) l h vc code ((a + n.length : Nat) : Int) (shV code n.length value a) ((a + n.length - code.length : Nat) : Int) false))) ∧ Mods w w' S
set_option maxHeartbeats 4000000 in
set_option maxRecDepth 100000 in
theorem rget_row0 (w : World) (S : Nat → Prop) (g : Nat) (kind : Int) (b c : Nat) (st : List Int) (low high mid : Int) (vc : Value) (code : List Int) (a : Nat) (value : Int) (i : Nat) (hE : RDecRow w S g kind (some ⟨b, 0, none⟩) c st low high vc code a value ((a - code.length : Nat) : Int) false) (hSb : ∀ k, S k → k < w.heap.size) (hi : i < st.length) (hn : st.length ≤ 8192) (hs : okState kind (rd st i)) (hl0 : 0 ≤ low) (hlh : low ≤ high) (hh : high ≤ 4294967295) (hmid : midOf low high (likely kind (rd st i)) = mid) (hm0 : 0 ≤ mid) (hm1 : mid ≤ 4294967295) (hI0 : PutInv [] (cutL low mid 0) (cutH high mid 0) 4 (cutL low mid 0) (cutH high mid 0) []) (hv0 : 0 ≤ value) (hv1 : value ≤ 4294967295) (hby : Bytes code) (hlen : code.length ≤ 1099511627776) (ha : a - code.length ≤ 4) (hvb : ¬ value ≤ mid) :
 Calls Try.prog 84 #[.pointer (some ⟨g, 0, none⟩), .int .i64 i] w (RGetPost w S g kind b c st low high mid vc code a value i 0) := by
 have HE := Za hE
 have hSg : S g := hE.g
 have hSb2 : S b := hE.s.1 b (by simp [Value.ownBlock])
 obtain ⟨Ac, cc, hvc⟩ := Kd.R_slice hE.o
 subst hvc
 have k0 := hE.c0
 have k1 := hE.c1
 have k8 := hE.c8
 have ks : w.cell? ⟨b, i, none⟩ = some (.int .i64 (rd st i)) := by obtain ⟨b', hA, hc, _⟩ := hE.cell hi; cases hA; exact hc
 have hlk := likely_range kind (rd st i) hs
 have HMID := fun W => Za (hmid ▸ rmid_calls low high (likely kind (rd st i)) W hl0 hlh hh hlk.1 hlk.2)
 have HP := fun W => Za (hmid ▸ part_calls low high (likely kind (rd st i)) 0 W hl0 hlh hh hlk.1 hlk.2)
 have HI := Za hI0
 have HBY := Za hby
 have HSB := Za hSb
 have hu := Try.underlying96
 clear hE hmid hI0 hby hSb
 have hi1 : (0 : Int) ≤ (i : Int) := by omega
 have hi2 : (i : Int) < (st.length : Int) := by omega
 go_enter Try.func84, Try.ntmps84
 go_wp2
 refine start_ (n := 15) (S := fun w' => w'.cell? ⟨g, 0, none⟩ = some (.int .i64 kind) ∧ w'.cell? ⟨g, 1, none⟩ = some (.slice (some ⟨b, 0, none⟩) st.length c) ∧ w'.cell? ⟨b, i, none⟩ = some (.int .i64 (rd st i))) (ds := []) (B' 15 0) (by kernel_rfl) rfl rfl ⟨k0, k1, ks⟩ (fun hHeld => ?_)
 refine u' 0 30 (B' 15 1) ?_ rfl rfl ?_ ?_ ?_ ?_; rotate_left; (intro w'; go_simp; with_reducible rfl); rotate_left; (simp only [Act.put, p1', p2', p3', w1', w2']; rfl)
 refine u' 1 31 (B' 15 3) ?_ rfl rfl ?_ ?_ ?_ ?_; rotate_left; (intro w'; go_simp; with_reducible rfl); rotate_left; (simp only [Act.put, p1', p2', p3', w1', w2']; rfl)
 refine u' 2 32 (B' 15 7) ?_ rfl rfl ?_ ?_ ?_ ?_; rotate_left; (intro w'; go_simp; with_reducible rfl); rotate_left; (simp only [Act.put, p1', p2', p3', w1', w2']; rfl)
 refine u' 3 33 (B' 15 15) ?_ rfl rfl ?_ ?_ ?_ ?_; rotate_left; (intro w'; go_simp; with_reducible rfl); rotate_left; (simp only [Act.put, p1', p2', p3', w1', w2']; rfl)
 refine u' 5 35 (B' 15 47) ?_ rfl rfl ?_ ?_ ?_ ?_; rotate_left; (intro w'; go_simp; with_reducible rfl); rotate_left; (simp only [Act.put, p1', p2', p3', w1', w2']; rfl)
 refine u' 6 36 (B' 15 111) ?_ rfl rfl ?_ ?_ ?_ ?_; rotate_left; (intro w'; go_simp; with_reducible rfl); rotate_left; (simp only [Act.put, p1', p2', p3', w1', w2']; rfl)
 refine u' 7 37 (B' 15 239) ?_ rfl rfl ?_ ?_ ?_ ?_; rotate_left; (intro w'; go_simp; with_reducible rfl); rotate_left; (simp only [Act.put, p1', p2', p3', w1', w2']; rfl)
 refine u' 8 38 (B' 15 495) ?_ rfl rfl ?_ ?_ ?_ ?_; rotate_left; (intro w'; go_simp; with_reducible rfl); rotate_left; (simp only [Act.put, p1', p2', p3', w1', w2']; rfl)
 refine u' 10 40 (B' 15 1519) ?_ rfl rfl ?_ ?_ ?_ ?_; rotate_left; (intro w'; go_simp; with_reducible rfl); rotate_left; (simp only [Act.put, p1', p2', p3', w1', w2']; rfl)
 refine t' 4 34 (B' 15 1535) ?_ rfl rfl ?_ hHeld ?_ ?_ ?_; rotate_left; (rintro w' ⟨s0, s1, s2⟩; go_simp; with_reducible rfl); rotate_left; (simp only [Act.put, p1', p2', p3', w1', w2']; rfl)
 refine t' 9 39 (B' 15 2047) ?_ rfl rfl ?_ hHeld ?_ ?_ ?_; rotate_left; (rintro w' ⟨s0, s1, s2⟩; go_simp; with_reducible rfl); rotate_left; (simp only [Act.put, p1', p2', p3', w1', w2']; rfl)
 refine u' 11 41 (B' 15 4095) ?_ rfl rfl ?_ ?_ ?_ ?_; rotate_left; (intro w'; go_simp; with_reducible rfl); rotate_left; (simp only [Act.put, p1', p2', p3', w1', w2']; rfl)
 refine t' 12 42 (B' 15 8191) ?_ rfl rfl ?_ hHeld ?_ ?_ ?_; rotate_left; (rintro w' ⟨s0, s1, s2⟩; go_simp; with_reducible rfl); rotate_left; (simp only [Act.put, p1', p2', p3', w1', w2']; rfl)
 refine one_ (i := 13) (N := some 43) (B' 15 16383) rfl rfl (by kernel_rfl) (by decide) (fun K hK => ?_)
 refine goes_ Try.func63 (by kernel_rfl) rfl #[.int .i64 kind, .int .i64 (rd st i)] (by rfl) rfl rfl (by simp only [List.map_toArray, List.map_cons, List.map_nil]; rfl) ?_
 with_reducible refine (likelyB kind (rd st i) _ hs).mono ?_
 rintro e w3 ⟨rfl, hb3⟩
 refine ⟨_, rfl, ?_⟩
 have hb3' := below_undrew1 hb3
 have HE3 := Za (HE.out.below hb3')
 have HM3 := Za ((Mods.refl w S).below hb3')
 clear hb3 hb3'
 refine hK.out _ _ ⟨HE3.out.c0, HE3.out.c1, by obtain ⟨b', hA, hc, _⟩ := HE3.out.cell hi; cases hA; exact hc⟩ (fun hHeld => ?_)
 clear hK K
 refine n' ?_ ?_ ?_; rotate_left; (show Act.put _ (some 43) _ = _; simp only [Act.put, p1', p2', p3', w1', w2']; rfl)
 refine u' 14 6 (B' 15 32767) ?_ rfl rfl ?_ ?_ ?_ ?_; rotate_left; (intro w'; go_simp; with_reducible rfl); rotate_left; (simp only [Act.put, p1', p2', p3', w1', w2']; rfl)
 refine done_ (by kernel_rfl) ?_
 clear k0 k1 ks k8 HE
 go_wp2
 have HE3 := Za HE3.out.drew
 have HM3 := Za HM3.out.drew
 have k2 := HE3.out.c2
 have k3 := HE3.out.c3
 have k6 := HE3.out.c6
 refine start_ (n := 11) (S := fun w' => w'.cell? ⟨g, 2, none⟩ = some (.int .u64 low) ∧ w'.cell? ⟨g, 3, none⟩ = some (.int .u64 high) ∧ w'.cell? ⟨g, 6, none⟩ = some (.int .u64 value)) (ds := []) (B' 11 0) (by kernel_rfl) rfl rfl ⟨k2, k3, k6⟩ (fun hHeld => ?_)
 refine u' 0 44 (B' 11 1) ?_ rfl rfl ?_ ?_ ?_ ?_; rotate_left; (intro w'; go_simp; with_reducible rfl); rotate_left; (simp only [Act.put, p1', p2', p3', w1', w2']; rfl)
 refine u' 1 45 (B' 11 3) ?_ rfl rfl ?_ ?_ ?_ ?_; rotate_left; (intro w'; go_simp; with_reducible rfl); rotate_left; (simp only [Act.put, p1', p2', p3', w1', w2']; rfl)
 refine u' 2 46 (B' 11 7) ?_ rfl rfl ?_ ?_ ?_ ?_; rotate_left; (intro w'; go_simp; with_reducible rfl); rotate_left; (simp only [Act.put, p1', p2', p3', w1', w2']; rfl)
 refine u' 4 48 (B' 11 23) ?_ rfl rfl ?_ ?_ ?_ ?_; rotate_left; (intro w'; go_simp; with_reducible rfl); rotate_left; (simp only [Act.put, p1', p2', p3', w1', w2']; rfl)
 refine u' 5 49 (B' 11 55) ?_ rfl rfl ?_ ?_ ?_ ?_; rotate_left; (intro w'; go_simp; with_reducible rfl); rotate_left; (simp only [Act.put, p1', p2', p3', w1', w2']; rfl)
 refine u' 6 50 (B' 11 119) ?_ rfl rfl ?_ ?_ ?_ ?_; rotate_left; (intro w'; go_simp; with_reducible rfl); rotate_left; (simp only [Act.put, p1', p2', p3', w1', w2']; rfl)
 refine u' 8 52 (B' 11 375) ?_ rfl rfl ?_ ?_ ?_ ?_; rotate_left; (intro w'; go_simp; with_reducible rfl); rotate_left; (simp only [Act.put, p1', p2', p3', w1', w2']; rfl)
 refine t' 3 47 (B' 11 383) ?_ rfl rfl ?_ hHeld ?_ ?_ ?_; rotate_left; (rintro w' ⟨s0, s1, s2⟩; go_simp; with_reducible rfl); rotate_left; (simp only [Act.put, p1', p2', p3', w1', w2']; rfl)
 refine t' 7 51 (B' 11 511) ?_ rfl rfl ?_ hHeld ?_ ?_ ?_; rotate_left; (rintro w' ⟨s0, s1, s2⟩; go_simp; with_reducible rfl); rotate_left; (simp only [Act.put, p1', p2', p3', w1', w2']; rfl)
 refine one_ (i := 9) (N := some 53) (B' 11 1023) rfl rfl (by kernel_rfl) (by decide) (fun K hK => ?_)
 refine goes_ Try.func91 (by kernel_rfl) rfl #[.agg #[.int .u64 low, .int .u64 high], .int .i64 (likely kind (rd st i))] (by rfl) rfl rfl (by simp only [List.map_toArray, List.map_cons, List.map_nil]; rfl) ?_
 with_reducible refine ((HMID _).out).mono ?_
 rintro e w4 ⟨rfl, hb4⟩
 refine ⟨_, rfl, ?_⟩
 have HE4 := Za (HE3.out.below hb4)
 have HM4 := Za (HM3.out.below hb4)
 clear hb4
 refine hK.out _ _ ⟨HE4.out.c2, HE4.out.c3, HE4.out.c6⟩ (fun hHeld => ?_)
 clear hK K
 refine n' ?_ ?_ ?_; rotate_left; (show Act.put _ (some 53) _ = _; simp only [Act.put, p1', p2', p3', w1', w2']; rfl)
 refine u' 10 54 (B' 11 2047) ?_ rfl rfl ?_ ?_ ?_ ?_; rotate_left; (intro w'; go_simp; with_reducible rfl); rotate_left; (simp only [Act.put, p1', p2', p3', w1', w2']; rfl)
 refine done_ (by kernel_rfl) ?_
 clear k2 k3 k6 HE3 HM3
 go_wp2
 have HE4 := Za HE4.out.drew
 have HM4 := Za HM4.out.drew
 have p2 := HE4.out.c2
 have p3 := HE4.out.c3
 have p5 := HE4.out.c5
 have p6 := HE4.out.c6
 refine start_ (n := 19) (S := fun w' => w'.cell? ⟨g, 2, none⟩ = some (.int .u64 low) ∧ w'.cell? ⟨g, 3, none⟩ = some (.int .u64 high) ∧ w'.cell? ⟨g, 5, none⟩ = some (.int .i64 a) ∧ w'.cell? ⟨g, 6, none⟩ = some (.int .u64 value)) (ds := []) (B' 19 0) (by kernel_rfl) rfl rfl ⟨p2, p3, p5, p6⟩ (fun hHeld => ?_)
 generalize w4.drew = wd at p2 p3 p5 p6 HE4 HM4 hHeld ⊢
 refine u' 0 55 (B' 19 1) ?_ rfl rfl ?_ ?_ ?_ ?_; rotate_left; (intro w'; go_simp; with_reducible rfl); rotate_left; (simp only [Act.put, p1', p2', p3', w1', w2']; rfl)
 refine u' 1 56 (B' 19 3) ?_ rfl rfl ?_ ?_ ?_ ?_; rotate_left; (intro w'; go_simp; with_reducible rfl); rotate_left; (simp only [Act.put, p1', p2', p3', w1', w2']; rfl)
 refine u' 2 57 (B' 19 7) ?_ rfl rfl ?_ ?_ ?_ ?_; rotate_left; (intro w'; go_simp; with_reducible rfl); rotate_left; (simp only [Act.put, p1', p2', p3', w1', w2']; rfl)
 refine u' 4 59 (B' 19 23) ?_ rfl rfl ?_ ?_ ?_ ?_; rotate_left; (intro w'; go_simp; with_reducible rfl); rotate_left; (simp only [Act.put, p1', p2', p3', w1', w2']; rfl)
 refine u' 5 60 (B' 19 55) ?_ rfl rfl ?_ ?_ ?_ ?_; rotate_left; (intro w'; go_simp; with_reducible rfl); rotate_left; (simp only [Act.put, p1', p2', p3', w1', w2']; rfl)
 refine u' 7 62 (B' 19 183) ?_ rfl rfl ?_ ?_ ?_ ?_; rotate_left; (intro w'; go_simp; with_reducible rfl); rotate_left; (simp only [Act.put, p1', p2', p3', w1', w2']; rfl)
 refine u' 8 63 (B' 19 439) ?_ rfl rfl ?_ ?_ ?_ ?_; rotate_left; (intro w'; go_simp; with_reducible rfl); rotate_left; (simp only [Act.put, p1', p2', p3', w1', w2']; rfl)
 refine u' 9 64 (B' 19 951) ?_ rfl rfl ?_ ?_ ?_ ?_; rotate_left; (intro w'; go_simp; with_reducible rfl); rotate_left; (simp only [Act.put, p1', p2', p3', w1', w2']; rfl)
 refine u' 11 66 (B' 19 2999) ?_ rfl rfl ?_ ?_ ?_ ?_; rotate_left; (intro w'; go_simp; with_reducible rfl); rotate_left; (simp only [Act.put, p1', p2', p3', w1', w2']; rfl)
 refine u' 12 67 (B' 19 7095) ?_ rfl rfl ?_ ?_ ?_ ?_; rotate_left; (intro w'; go_simp; with_reducible rfl); rotate_left; (simp only [Act.put, p1', p2', p3', w1', w2']; rfl)
 refine u' 13 68 (B' 19 15287) ?_ rfl rfl ?_ ?_ ?_ ?_; rotate_left; (intro w'; go_simp; with_reducible rfl); rotate_left; (simp only [Act.put, p1', p2', p3', w1', w2']; rfl)
 refine t' 3 58 (B' 19 15295) ?_ rfl rfl ?_ hHeld ?_ ?_ ?_; rotate_left; (rintro w' ⟨s0, s1, s2, s3⟩; go_simp; with_reducible rfl); rotate_left; (simp only [Act.put, p1', p2', p3', w1', w2']; rfl)
 refine t' 10 65 (B' 19 16319) ?_ rfl rfl ?_ hHeld ?_ ?_ ?_; rotate_left; (rintro w' ⟨s0, s1, s2, s3⟩; go_simp; with_reducible rfl); rotate_left; (simp only [Act.put, p1', p2', p3', w1', w2']; rfl)
 refine t' 14 69 (B' 19 32703) ?_ rfl rfl ?_ hHeld ?_ ?_ ?_; rotate_left; (rintro w' ⟨s0, s1, s2, s3⟩; go_simp; with_reducible rfl); rotate_left; (simp only [Act.put, p1', p2', p3', w1', w2']; rfl)
 refine join_ (σ := Nat) 3 (B' 19 65535) (fun s => [(61, .agg #[.int .u64 (cutL low mid 0), .int .u64 (cutH high mid 0)]), (8, .pointer (some ⟨s, 0, none⟩))]) (fun s w' => w'.heap[s]? = some (.cells #[.int .u64 0, .int .u64 0] 96 (0, 0)) ∧ wd.heap.size ≤ s ∧ Below wd.heap.size wd w') ?_ ?_
 rotate_left
 · intro hCont
   refine two_ (i := 6) (j := 15) (Ni := some 61) (Nj := some 8) (B' 19 32767) (B' 19 65471) rfl rfl rfl rfl (by kernel_rfl) (by decide) (by decide) (fun K hK => ?_) (fun K hK => ?_)
   · skip
     refine goes_ Try.func64 (by kernel_rfl) rfl #[.agg #[.int .u64 low, .int .u64 high], .int .i64 (likely kind (rd st i)), .int .i64 0] (by rfl) rfl rfl (by simp only [List.map_toArray, List.map_cons, List.map_nil]; rfl) ?_
     with_reducible refine ((HP _).out).mono ?_
     rintro e wk ⟨rfl, hk⟩
     refine ⟨_, rfl, ?_⟩
     have t2 := pw_cell_below hk p2
     have t3 := pw_cell_below hk p3
     have t5 := pw_cell_below hk p5
     have t6 := pw_cell_below hk p6
     refine hK.out _ _ ⟨t2, t3, t5, t6⟩ (fun hHeld => ?_)
     clear hK K
     refine n' ?_ ?_ ?_; rotate_left; (show Act.put _ (some 61) _ = _; simp only [Act.put, p1', p2', p3', w1', w2']; rfl)
     refine one_ (i := 15) (N := some 8) (B' 19 65535) rfl rfl (by kernel_rfl) (by decide) (fun K hK => ?_)
     refine value_ (w1 := ?_) (v := ?_) (by rfl) rfl ?_ ?_
     rotate_left 2
     · go_simp
       constructor
       · rfl
       · rfl
     refine hK.out _ _ ⟨pw_cell_below (b1' (Below.refl _ _) _) t2, pw_cell_below (b1' (Below.refl _ _) _) t3, pw_cell_below (b1' (Below.refl _ _) _) t5, pw_cell_below (b1' (Below.refl _ _) _) t6⟩ (fun hHeld => ?_)
     clear hK K
     refine n' ?_ ?_ ?_; rotate_left; (show Act.put _ (some 8) _ = _; simp only [Act.put, p1', p2', p3', w1', w2']; rfl)
     exact norm_ (by simp only [putAll, Act.put, List.setIfInBounds_toArray, List.set_cons_zero, List.set_cons_succ]) (hCont wk.heap.size _ ⟨blk_new _ _, hk.size, b1' hk _⟩)
   · skip
     refine value_ (w1 := ?_) (v := ?_) (by rfl) rfl ?_ ?_
     rotate_left 2
     · go_simp
       constructor
       · rfl
       · rfl
     refine hK.out _ _ ⟨pw_cell_below (b1' (Below.refl _ _) _) p2, pw_cell_below (b1' (Below.refl _ _) _) p3, pw_cell_below (b1' (Below.refl _ _) _) p5, pw_cell_below (b1' (Below.refl _ _) _) p6⟩ (fun hHeld => ?_)
     clear hK K
     refine n' ?_ ?_ ?_; rotate_left; (show Act.put _ (some 8) _ = _; simp only [Act.put, p1', p2', p3', w1', w2']; rfl)
     refine one_ (i := 6) (N := some 61) (B' 19 65535) rfl rfl (by kernel_rfl) (by decide) (fun K hK => ?_)
     refine goes_ Try.func64 (by kernel_rfl) rfl #[.agg #[.int .u64 low, .int .u64 high], .int .i64 (likely kind (rd st i)), .int .i64 0] (by rfl) rfl rfl (by simp only [List.map_toArray, List.map_cons, List.map_nil]; rfl) ?_
     with_reducible refine ((HP _).out).mono ?_
     rintro e wk ⟨rfl, hk⟩
     refine ⟨_, rfl, ?_⟩
     have t2 := pw_cell_below hk (pw_cell_below (b1' (Below.refl _ _) _) p2)
     have t3 := pw_cell_below hk (pw_cell_below (b1' (Below.refl _ _) _) p3)
     have t5 := pw_cell_below hk (pw_cell_below (b1' (Below.refl _ _) _) p5)
     have t6 := pw_cell_below hk (pw_cell_below (b1' (Below.refl _ _) _) p6)
     refine hK.out _ _ ⟨t2, t3, t5, t6⟩ (fun hHeld => ?_)
     clear hK K
     refine n' ?_ ?_ ?_; rotate_left; (show Act.put _ (some 61) _ = _; simp only [Act.put, p1', p2', p3', w1', w2']; rfl)
     exact norm_ (by simp only [putAll, Act.put, List.setIfInBounds_toArray, List.set_cons_zero, List.set_cons_succ]) (hCont wd.heap.size _ ⟨Zd (blk_new _ _) hk, Nat.le_refl _, below_then (b1' (Below.refl _ _) _) (by simp) hk⟩)
 rintro q w5 ⟨hq, hqs, hqb⟩
 have t2 := pw_cell_below hqb p2
 have t3 := pw_cell_below hqb p3
 have t5 := pw_cell_below hqb p5
 have t6 := pw_cell_below hqb p6
 have hHeld : w5.cell? ⟨g, 2, none⟩ = some (.int .u64 low) ∧ w5.cell? ⟨g, 3, none⟩ = some (.int .u64 high) ∧ w5.cell? ⟨g, 5, none⟩ = some (.int .i64 a) ∧ w5.cell? ⟨g, 6, none⟩ = some (.int .u64 value) := ⟨t2, t3, t5, t6⟩
 have z0 : w5.cell? ⟨q, 0, none⟩ = some (.int .u64 0) := (Zc hq 0).trans rfl
 have z1 : w5.cell? ⟨q, 1, none⟩ = some (.int .u64 0) := (Zc hq 1).trans rfl
 have zf0 := Zf hq 0
 have zf1 := Zf hq 1
 have HQ := Za hq
 have HQS := Za hqs
 have HQB := Za hqb
 clear hq hqs hqb
 refine norm_ (a' := ?_) ?_ ?_
 rotate_left
 · simp only [putAll, Act.put, List.setIfInBounds_toArray, List.set_cons_zero, List.set_cons_succ]
   rfl
 refine one_ (i := 16) (N := none) (B' 19 131071) rfl rfl (by kernel_rfl) (by decide) (fun K hK => ?_)
 refine skip_ (w1 := ?_) (by rfl) rfl ?_ ?_
 rotate_left
 · go_simp
   rfl
 refine hK.out _ _ ⟨pw_cell_below ((HQB.out.setCell (p := ⟨q, 0, none⟩) HQS.out _).setCell (p := ⟨q, 1, none⟩) HQS.out _) p2, pw_cell_below ((HQB.out.setCell (p := ⟨q, 0, none⟩) HQS.out _).setCell (p := ⟨q, 1, none⟩) HQS.out _) p3, pw_cell_below ((HQB.out.setCell (p := ⟨q, 0, none⟩) HQS.out _).setCell (p := ⟨q, 1, none⟩) HQS.out _) p5, pw_cell_below ((HQB.out.setCell (p := ⟨q, 0, none⟩) HQS.out _).setCell (p := ⟨q, 1, none⟩) HQS.out _) p6⟩ (fun hHeld => ?_)
 clear hK K
 refine u' 17 9 (B' 19 262143) ?_ rfl rfl ?_ ?_ ?_ ?_; rotate_left; (intro w'; go_simp; with_reducible rfl); rotate_left; (simp only [Act.put, p1', p2', p3', w1', w2']; rfl)
 refine u' 18 10 (B' 19 524287) ?_ rfl rfl ?_ ?_ ?_ ?_; rotate_left; (intro w'; go_simp; with_reducible rfl); rotate_left; (simp only [Act.put, p1', p2', p3', w1', w2']; rfl)
 refine done_ (by kernel_rfl) ?_
 obtain ⟨w6, hw6⟩ : ∃ w6, w6 = (w5.setCell ⟨q, 0, none⟩ (.int .u64 (cutL low mid 0))).setCell ⟨q, 1, none⟩ (.int .u64 (cutH high mid 0)) := ⟨_, rfl⟩
 rw [← hw6]
 have hB6 : Below wd.heap.size wd w6 := hw6 ▸ (HQB.out.setCell (p := ⟨q, 0, none⟩) HQS.out _).setCell (p := ⟨q, 1, none⟩) HQS.out _
 have hq1 : (w5.setCell ⟨q, 0, none⟩ (.int .u64 (cutL low mid 0))).heap[q]? = some (.cells #[.int .u64 (cutL low mid 0), .int .u64 0] 96 (0, 0)) := blk_put (cs := #[.int .u64 0, .int .u64 0]) HQ.out 0 _ rfl
 have HQ6 := Za (show w6.heap[q]? = some (.cells #[.int .u64 (cutL low mid 0), .int .u64 (cutH high mid 0)] 96 (0, 0)) from hw6 ▸ blk_put (cs := #[.int .u64 (cutL low mid 0), .int .u64 0]) hq1 1 _ rfl)
 have HE6 := Za (HE4.out.below hB6)
 have HM6 := Za (HM4.out.below hB6)
 have hqn : ¬ S q := fun hk => by have h1 := HSB.out q hk; have h2 := HM4.out.size; have h3 := HQS.out; omega
 have hgq : g ≠ q := fun he => hqn (he ▸ hSg)
 have HQN := Za hqn
 have HQS2 := Za (show w.heap.size ≤ q from Nat.le_trans HM4.out.size HQS.out)
 clear hw6 hB6 hq1 hqn HE4 HM4 HQ HQS HQB z0 z1 zf0 zf1 t2 t3 t5 t6 p2 p3 p5 p6
 go_wp2
 skip
 go_loopg [9, 10] 4 (fun d s9 s10 wr => ∃ (l h : Int) (n : List Int) (k : Nat) (v : Int), s9 = .int .i64 k ∧ s10 = .int .u64 v ∧ (0 ≤ v ∧ v ≤ 4294967295) ∧ Aside0 (k = a + n.length ∧ v = shV code n.length value a) ∧ Aside0 (RDecRow wr S g kind (some ⟨b, 0, none⟩) c st low high (.slice Ac code.length cc) code a value ((a - code.length : Nat) : Int) false) ∧ Aside0 (Mods w wr S) ∧ Aside0 (wr.heap[q]? = some (.cells #[.int .u64 l, .int .u64 h] 96 (0, 0))) ∧ Aside0 (PutInv [] (cutL low mid 0) (cutH high mid 0) d l h n))
 case atStart => exact ⟨_, _, [], a, value, rfl, rfl, ⟨hv0, hv1⟩, ⟨rfl, rfl⟩, HE6, HM6, HQ6, HI⟩
 clear HE6 HM6 HQ6 HI
 case round =>
  obtain ⟨l, h, n, k, v, rfl, rfl, hv, HKV, HE7, HM7, HQ7, HPI⟩ := hrel
  have hp0 := HPI.out.l0
  have hp1 := HPI.out.lh
  have hp2 := HPI.out.h0
  have hp3 := HPI.out.len
  rw [List.length_nil] at hp3
  have hka : k ≤ 2199023255552 := by have := HKV.out.1; omega
  have hs7 := fixed_calls l h
  have z0 : wr.cell? ⟨q, 0, none⟩ = some (.int .u64 l) := (Zc HQ7.out 0).trans rfl
  have z1 : wr.cell? ⟨q, 1, none⟩ = some (.int .u64 h) := (Zc HQ7.out 1).trans rfl
  by_cases cx : l / 16777216 = h / 16777216
  · rw [decide_eq_true cx] at hs7
    have HSA := Za hs7
    clear hs7
    obtain ⟨d', hd', hP'⟩ := HPI.out.step cx
    have HP' := Za hP'
    have HD := Za hd'
    have hbr := byteOf_range HBY.out k
    clear hd' hP' cx
    go_wp2_with (first
     | (go_at_call 66; refine (HSA.out _).mono ?_; rintro e w8 ⟨rfl, hb8⟩; have HE8 := Za (HE7.out.below hb8); have HM8 := Za (HM7.out.below hb8); have HQ8 := Za (Zd HQ7.out hb8); have z0 : w8.cell? ⟨q, 0, none⟩ = some (.int .u64 l) := (Zc HQ8.out 0).trans rfl; have z1 : w8.cell? ⟨q, 1, none⟩ = some (.int .u64 h) := (Zc HQ8.out 1).trans rfl; clear hb8)
     | (go_at_call 67; refine (shift_calls l h _ hp0 (by omega) (by omega) hp2).mono ?_; rintro e w9 ⟨rfl, hb9⟩; have HE9 := Za (HE8.out.below hb9); have HM9 := Za (HM8.out.below hb9); have HQ9 := Za (Zd HQ8.out hb9); have z0 : w9.cell? ⟨q, 0, none⟩ = some (.int .u64 l) := (Zc HQ9.out 0).trans rfl; have z1 : w9.cell? ⟨q, 1, none⟩ = some (.int .u64 h) := (Zc HQ9.out 1).trans rfl; have zf0 := Zf HQ9.out 0; have zf1 := Zf HQ9.out 1; have k4 := HE9.out.c4; clear hb9))
    obtain ⟨w10, hw10⟩ : ∃ w10, w10 = (w9.setCell ⟨q, 0, none⟩ (.int .u64 (l % 16777216 * 256))).setCell ⟨q, 1, none⟩ (.int .u64 (h % 16777216 * 256 + 255)) := ⟨_, rfl⟩
    rw [← hw10]
    have hq10 : (w9.setCell ⟨q, 0, none⟩ (.int .u64 (l % 16777216 * 256))).heap[q]? = some (.cells #[.int .u64 (l % 16777216 * 256), .int .u64 h] 96 (0, 0)) := blk_put (cs := #[.int .u64 l, .int .u64 h]) HQ9.out 0 _ rfl
    have HQ10 := Za (show w10.heap[q]? = some (.cells #[.int .u64 (l % 16777216 * 256), .int .u64 (h % 16777216 * 256 + 255)] 96 (0, 0)) from hw10 ▸ blk_put (cs := #[.int .u64 (l % 16777216 * 256), .int .u64 h]) hq10 1 _ rfl)
    have HE10 := Za (show RDecRow w10 S g kind (some ⟨b, 0, none⟩) c st low high (.slice Ac code.length cc) code a value ((a - code.length : Nat) : Int) false from hw10 ▸ (HE9.out.far (p := ⟨q, 0, none⟩) HQN.out _).far (p := ⟨q, 1, none⟩) HQN.out _)
    have hqs : w.heap.size ≤ q := by have h1 := HQS2.out; omega
    have HM10 := Za (show Mods w w10 S from hw10 ▸ (HM9.out.setCell (p := ⟨q, 0, none⟩) (.inr hqs) _).setCell (p := ⟨q, 1, none⟩) (.inr hqs) _)
    clear hw10 hq10 hqs z0 z1 zf0 zf1 k4 HE9 HM9 HQ9 HE8 HM8 HQ8
    refine (byte_calls Ac cc code k _ (Kd.R_reads' HE10.out.o).2.2 HBY.out).mono ?_
    rintro e w11 ⟨rfl, rfl⟩
    go_wp2
    go_roundg d'
    case measure => have := HD.out; omega
    case rel =>
     have h1 := HKV.out
     refine ⟨_, _, _, k + 1, _, rfl, rfl, by omega, ⟨?_, ?_⟩, HE10, HM10, HQ10, HP'⟩
     · rw [List.length_append, List.length_cons, List.length_nil, h1.1]
       omega
     · rw [List.length_append, List.length_cons, List.length_nil, Nat.zero_add, shV_succ, ← h1.2, ← h1.1]
  · rw [decide_eq_false cx] at hs7
    have HSA := Za hs7
    clear hs7
    have HCC := Za (HPI.out.done cx)
    clear cx
    have HN := Za (show normE 4 (cutL low mid 0) (cutH high mid 0) = (n, l, h) from by
     have h1 := HCC.out
     rw [List.nil_append] at h1
     exact Prod.ext h1.1.symm h1.2)
    obtain ⟨be, hbe⟩ : ∃ be : Nat, k - code.length = be := ⟨_, rfl⟩
    have HBE := Za hbe
    have hbk : be ≤ 2199023255552 := by omega
    by_cases hb4 : (be : Int) > 4
    · have HB4 := Za hb4
      go_wp2_with (go_at_call 66; refine (HSA.out _).mono ?_; rintro e w8 ⟨rfl, hb8⟩; have HE8 := Za (HE7.out.below hb8); have HM8 := Za (HM7.out.below hb8); have k4 := HE8.out.c4; have k8 := HE8.out.c8; have f8 := HE8.out.fz 8; clear hb8)
      go_ret2
      have h1 := HKV.out
      refine ⟨⟨l, h, n, HN.out, .inl ⟨by have := HB4.out; have := HBE.out; omega, rfl, HE8.out.put 8 _ rfl⟩⟩, HM8.out.setCell (.inl hSg) _⟩
    · have HB4 := Za hb4
      go_wp2_with (go_at_call 66; refine (HSA.out _).mono ?_; rintro e w8 ⟨rfl, hb8⟩; have HE8 := Za (HE7.out.below hb8); have HM8 := Za (HM7.out.below hb8); have HQ8 := Za (Zd HQ7.out hb8); have k4 := HE8.out.c4; clear hb8)
      have HE8 := Za HE8.out.drew
      have HM8 := Za HM8.out.drew
      have HQ8 := Za (k2' HQ8.out)
      have k0 := HE8.out.c0
      have k1 := HE8.out.c1
      have ks : w8.drew.cell? ⟨b, i, none⟩ = some (.int .i64 (rd st i)) := by obtain ⟨b', hA, hc, _⟩ := HE8.out.cell hi; cases hA; exact hc
      clear k4
      refine start_ (n := 23) (S := fun w' => w'.cell? ⟨g, 0, none⟩ = some (.int .i64 kind) ∧ w'.cell? ⟨g, 1, none⟩ = some (.slice (some ⟨b, 0, none⟩) st.length c) ∧ w'.cell? ⟨b, i, none⟩ = some (.int .i64 (rd st i))) (ds := [22]) (B' 23 0) (by kernel_rfl) rfl rfl ⟨k0, k1, ks⟩ (fun hHeld => ?_)
      refine u' 0 99 (B' 23 1) ?_ rfl rfl ?_ ?_ ?_ ?_; rotate_left; (intro w'; go_simp; with_reducible rfl); rotate_left; (simp only [Act.put, p1', p2', p3', w1', w2']; rfl)
      refine u' 1 100 (B' 23 3) ?_ rfl rfl ?_ ?_ ?_ ?_; rotate_left; (intro w'; go_simp; with_reducible rfl); rotate_left; (simp only [Act.put, p1', p2', p3', w1', w2']; rfl)
      refine u' 2 101 (B' 23 7) ?_ rfl rfl ?_ ?_ ?_ ?_; rotate_left; (intro w'; go_simp; with_reducible rfl); rotate_left; (simp only [Act.put, p1', p2', p3', w1', w2']; rfl)
      refine u' 3 102 (B' 23 15) ?_ rfl rfl ?_ ?_ ?_ ?_; rotate_left; (intro w'; go_simp; with_reducible rfl); rotate_left; (simp only [Act.put, p1', p2', p3', w1', w2']; rfl)
      refine u' 5 104 (B' 23 47) ?_ rfl rfl ?_ ?_ ?_ ?_; rotate_left; (intro w'; go_simp; with_reducible rfl); rotate_left; (simp only [Act.put, p1', p2', p3', w1', w2']; rfl)
      refine u' 6 105 (B' 23 111) ?_ rfl rfl ?_ ?_ ?_ ?_; rotate_left; (intro w'; go_simp; with_reducible rfl); rotate_left; (simp only [Act.put, p1', p2', p3', w1', w2']; rfl)
      refine u' 7 106 (B' 23 239) ?_ rfl rfl ?_ ?_ ?_ ?_; rotate_left; (intro w'; go_simp; with_reducible rfl); rotate_left; (simp only [Act.put, p1', p2', p3', w1', w2']; rfl)
      refine u' 8 107 (B' 23 495) ?_ rfl rfl ?_ ?_ ?_ ?_; rotate_left; (intro w'; go_simp; with_reducible rfl); rotate_left; (simp only [Act.put, p1', p2', p3', w1', w2']; rfl)
      refine u' 9 108 (B' 23 1007) ?_ rfl rfl ?_ ?_ ?_ ?_; rotate_left; (intro w'; go_simp; with_reducible rfl); rotate_left; (simp only [Act.put, p1', p2', p3', w1', w2']; rfl)
      refine u' 11 110 (B' 23 3055) ?_ rfl rfl ?_ ?_ ?_ ?_; rotate_left; (intro w'; go_simp; with_reducible rfl); rotate_left; (simp only [Act.put, p1', p2', p3', w1', w2']; rfl)
      refine u' 12 111 (B' 23 7151) ?_ rfl rfl ?_ ?_ ?_ ?_; rotate_left; (intro w'; go_simp; with_reducible rfl); rotate_left; (simp only [Act.put, p1', p2', p3', w1', w2']; rfl)
      refine u' 13 112 (B' 23 15343) ?_ rfl rfl ?_ ?_ ?_ ?_; rotate_left; (intro w'; go_simp; with_reducible rfl); rotate_left; (simp only [Act.put, p1', p2', p3', w1', w2']; rfl)
      refine u' 14 113 (B' 23 31727) ?_ rfl rfl ?_ ?_ ?_ ?_; rotate_left; (intro w'; go_simp; with_reducible rfl); rotate_left; (simp only [Act.put, p1', p2', p3', w1', w2']; rfl)
      refine u' 16 115 (B' 23 97263) ?_ rfl rfl ?_ ?_ ?_ ?_; rotate_left; (intro w'; go_simp; with_reducible rfl); rotate_left; (simp only [Act.put, p1', p2', p3', w1', w2']; rfl)
      refine u' 19 118 (B' 23 621551) ?_ rfl rfl ?_ ?_ ?_ ?_; rotate_left; (intro w'; go_simp; with_reducible rfl); rotate_left; (simp only [Act.put, p1', p2', p3', w1', w2']; rfl)
      refine t' 4 103 (B' 23 621567) ?_ rfl rfl ?_ hHeld ?_ ?_ ?_; rotate_left; (rintro w' ⟨s0, s1, s2⟩; go_simp; with_reducible rfl); rotate_left; (simp only [Act.put, p1', p2', p3', w1', w2']; rfl)
      refine t' 10 109 (B' 23 622591) ?_ rfl rfl ?_ hHeld ?_ ?_ ?_; rotate_left; (rintro w' ⟨s0, s1, s2⟩; go_simp; with_reducible rfl); rotate_left; (simp only [Act.put, p1', p2', p3', w1', w2']; rfl)
      refine t' 15 114 (B' 23 655359) ?_ rfl rfl ?_ hHeld ?_ ?_ ?_; rotate_left; (rintro w' ⟨s0, s1, s2⟩; go_simp; with_reducible rfl); rotate_left; (simp only [Act.put, p1', p2', p3', w1', w2']; rfl)
      refine u' 17 116 (B' 23 786431) ?_ rfl rfl ?_ ?_ ?_ ?_; rotate_left; (intro w'; go_simp; with_reducible rfl); rotate_left; (simp only [Act.put, p1', p2', p3', w1', w2']; rfl)
      refine t' 18 117 (B' 23 1048575) ?_ rfl rfl ?_ hHeld ?_ ?_ ?_; rotate_left; (rintro w' ⟨s0, s1, s2⟩; go_simp; with_reducible rfl); rotate_left; (simp only [Act.put, p1', p2', p3', w1', w2']; rfl)
      refine one_ (i := 20) (N := some 119) (B' 23 2097151) rfl rfl (by kernel_rfl) (by decide) (fun K hK => ?_)
      refine goes_ Try.func65 (by kernel_rfl) rfl #[.int .i64 kind, .int .i64 (rd st i), .int .i64 0] (by rfl) rfl rfl (by simp only [List.map_toArray, List.map_cons, List.map_nil]; rfl) ?_
      with_reducible refine (ref_after kind (rd st i) 0 _ hs (by decide)).mono ?_
      rintro e w9 ⟨rfl, hb9⟩
      refine ⟨_, rfl, ?_⟩
      have HE9 := Za (HE8.out.below hb9)
      have HM9 := Za (HM8.out.below hb9)
      have HQ9 := Za (Zd HQ8.out hb9)
      have c9 : w9.cell? ⟨b, i, none⟩ = some (.int .i64 (rd st i)) := by obtain ⟨b', hA, hc, _⟩ := HE9.out.cell hi; cases hA; exact hc
      have f9 : w9.frozen? ⟨b, i, none⟩ = false := by obtain ⟨b', hA, _, hf, _⟩ := HE9.out.cell hi; cases hA; exact hf
      clear hb9
      refine hK.out _ _ ⟨HE9.out.c0, HE9.out.c1, c9⟩ (fun hHeld => ?_)
      clear hK K
      refine n' ?_ ?_ ?_; rotate_left; (show Act.put _ (some 119) _ = _; simp only [Act.put, p1', p2', p3', w1', w2']; rfl)
      refine u' 21 120 (B' 23 4194303) ?_ rfl rfl ?_ ?_ ?_ ?_; rotate_left; (intro w'; go_simp; with_reducible rfl); rotate_left; (simp only [Act.put, p1', p2', p3', w1', w2']; rfl)
      refine last_ (i := 22) (N := none) (B' 23 8388607) rfl rfl (by kernel_rfl) (by decide) (fun K hK => ?_)
      refine skip_ (w1 := ?_) (by rfl) rfl ?_ ?_
      rotate_left
      · go_simp
        rfl
      refine hK.out _ _ ?_
      clear hK K
      refine done_ (by kernel_rfl) ?_
      obtain ⟨w10, hw10⟩ : ∃ w10, w10 = w9.setCell ⟨b, i, none⟩ (.int .i64 (after kind (rd st i) 0)) := ⟨_, rfl⟩
      rw [← hw10]
      have HE10 := Za (show RDecRow w10 S g kind (some ⟨b, 0, none⟩) c (st.set i (after kind (rd st i) 0)) low high (.slice Ac code.length cc) code a value ((a - code.length : Nat) : Int) false from hw10 ▸ HE9.out.setst hi _)
      have HM10 := Za (show Mods w w10 S from hw10 ▸ HM9.out.setCell (.inl hSb2) _)
      have hqb : q ≠ b := fun he => HQN.out (he ▸ hSb2)
      have HQ10 := Za (show w10.heap[q]? = some (.cells #[.int .u64 l, .int .u64 h] 96 (0, 0)) from hw10 ▸ blk_far HQ9.out hqb _)
      have z0 : w10.cell? ⟨q, 0, none⟩ = some (.int .u64 l) := (Zc HQ10.out 0).trans rfl
      have z1 : w10.cell? ⟨q, 1, none⟩ = some (.int .u64 h) := (Zc HQ10.out 1).trans rfl
      have c2 := HE10.out.c2
      have c3 := HE10.out.c3
      have c5 := HE10.out.c5
      have c6 := HE10.out.c6
      have c7 := HE10.out.c7
      have f2 := HE10.out.fz 2
      have f3 := HE10.out.fz 3
      have f5 := HE10.out.fz 5
      have f6 := HE10.out.fz 6
      have f7 := HE10.out.fz 7
      clear hw10 k0 k1 ks c9 f9
      go_wp2
      go_ret2
      have h1 := HKV.out
      refine ⟨⟨l, h, n, HN.out, .inr ⟨by have := HB4.out; have := HBE.out; omega, rfl, ?_⟩⟩, ((((HM10.out.setCell (p := ⟨g, 2, none⟩) (.inl hSg) _).setCell (p := ⟨g, 3, none⟩) (.inl hSg) _).setCell (p := ⟨g, 5, none⟩) (.inl hSg) _).setCell (p := ⟨g, 6, none⟩) (.inl hSg) _).setCell (p := ⟨g, 7, none⟩) (.inl hSg) _⟩
      rw [← h1.2, ← h1.1, HBE.out]
      exact ((((HE10.out.put (low' := l) 2 _ rfl).put (high' := h) 3 _ rfl).put (a' := (k : Int)) 5 _ rfl).put (value' := v) 6 _ rfl).put (be' := (be : Int)) 7 _ rfl
set_option maxHeartbeats 4000000 in
set_option maxRecDepth 100000 in
theorem rget_row1 (w : World) (S : Nat → Prop) (g : Nat) (kind : Int) (b c : Nat) (st : List Int) (low high mid : Int) (vc : Value) (code : List Int) (a : Nat) (value : Int) (i : Nat) (hE : RDecRow w S g kind (some ⟨b, 0, none⟩) c st low high vc code a value ((a - code.length : Nat) : Int) false) (hSb : ∀ k, S k → k < w.heap.size) (hi : i < st.length) (hn : st.length ≤ 8192) (hs : okState kind (rd st i)) (hl0 : 0 ≤ low) (hlh : low ≤ high) (hh : high ≤ 4294967295) (hmid : midOf low high (likely kind (rd st i)) = mid) (hm0 : 0 ≤ mid) (hm1 : mid ≤ 4294967295) (hI0 : PutInv [] (cutL low mid 1) (cutH high mid 1) 4 (cutL low mid 1) (cutH high mid 1) []) (hv0 : 0 ≤ value) (hv1 : value ≤ 4294967295) (hby : Bytes code) (hlen : code.length ≤ 1099511627776) (ha : a - code.length ≤ 4) (hvb : value ≤ mid) :
 Calls Try.prog 84 #[.pointer (some ⟨g, 0, none⟩), .int .i64 i] w (RGetPost w S g kind b c st low high mid vc code a value i 1) := by
 have HE := Za hE
 have hSg : S g := hE.g
 have hSb2 : S b := hE.s.1 b (by simp [Value.ownBlock])
 obtain ⟨Ac, cc, hvc⟩ := Kd.R_slice hE.o
 subst hvc
 have k0 := hE.c0
 have k1 := hE.c1
 have k8 := hE.c8
 have ks : w.cell? ⟨b, i, none⟩ = some (.int .i64 (rd st i)) := by obtain ⟨b', hA, hc, _⟩ := hE.cell hi; cases hA; exact hc
 have hlk := likely_range kind (rd st i) hs
 have HMID := fun W => Za (hmid ▸ rmid_calls low high (likely kind (rd st i)) W hl0 hlh hh hlk.1 hlk.2)
 have HP := fun W => Za (hmid ▸ part_calls low high (likely kind (rd st i)) 1 W hl0 hlh hh hlk.1 hlk.2)
 have HI := Za hI0
 have HBY := Za hby
 have HSB := Za hSb
 have hu := Try.underlying96
 clear hE hmid hI0 hby hSb
 have hi1 : (0 : Int) ≤ (i : Int) := by omega
 have hi2 : (i : Int) < (st.length : Int) := by omega
 go_enter Try.func84, Try.ntmps84
 go_wp2
 refine start_ (n := 15) (S := fun w' => w'.cell? ⟨g, 0, none⟩ = some (.int .i64 kind) ∧ w'.cell? ⟨g, 1, none⟩ = some (.slice (some ⟨b, 0, none⟩) st.length c) ∧ w'.cell? ⟨b, i, none⟩ = some (.int .i64 (rd st i))) (ds := []) (B' 15 0) (by kernel_rfl) rfl rfl ⟨k0, k1, ks⟩ (fun hHeld => ?_)
 refine u' 0 30 (B' 15 1) ?_ rfl rfl ?_ ?_ ?_ ?_; rotate_left; (intro w'; go_simp; with_reducible rfl); rotate_left; (simp only [Act.put, p1', p2', p3', w1', w2']; rfl)
 refine u' 1 31 (B' 15 3) ?_ rfl rfl ?_ ?_ ?_ ?_; rotate_left; (intro w'; go_simp; with_reducible rfl); rotate_left; (simp only [Act.put, p1', p2', p3', w1', w2']; rfl)
 refine u' 2 32 (B' 15 7) ?_ rfl rfl ?_ ?_ ?_ ?_; rotate_left; (intro w'; go_simp; with_reducible rfl); rotate_left; (simp only [Act.put, p1', p2', p3', w1', w2']; rfl)
 refine u' 3 33 (B' 15 15) ?_ rfl rfl ?_ ?_ ?_ ?_; rotate_left; (intro w'; go_simp; with_reducible rfl); rotate_left; (simp only [Act.put, p1', p2', p3', w1', w2']; rfl)
 refine u' 5 35 (B' 15 47) ?_ rfl rfl ?_ ?_ ?_ ?_; rotate_left; (intro w'; go_simp; with_reducible rfl); rotate_left; (simp only [Act.put, p1', p2', p3', w1', w2']; rfl)
 refine u' 6 36 (B' 15 111) ?_ rfl rfl ?_ ?_ ?_ ?_; rotate_left; (intro w'; go_simp; with_reducible rfl); rotate_left; (simp only [Act.put, p1', p2', p3', w1', w2']; rfl)
 refine u' 7 37 (B' 15 239) ?_ rfl rfl ?_ ?_ ?_ ?_; rotate_left; (intro w'; go_simp; with_reducible rfl); rotate_left; (simp only [Act.put, p1', p2', p3', w1', w2']; rfl)
 refine u' 8 38 (B' 15 495) ?_ rfl rfl ?_ ?_ ?_ ?_; rotate_left; (intro w'; go_simp; with_reducible rfl); rotate_left; (simp only [Act.put, p1', p2', p3', w1', w2']; rfl)
 refine u' 10 40 (B' 15 1519) ?_ rfl rfl ?_ ?_ ?_ ?_; rotate_left; (intro w'; go_simp; with_reducible rfl); rotate_left; (simp only [Act.put, p1', p2', p3', w1', w2']; rfl)
 refine t' 4 34 (B' 15 1535) ?_ rfl rfl ?_ hHeld ?_ ?_ ?_; rotate_left; (rintro w' ⟨s0, s1, s2⟩; go_simp; with_reducible rfl); rotate_left; (simp only [Act.put, p1', p2', p3', w1', w2']; rfl)
 refine t' 9 39 (B' 15 2047) ?_ rfl rfl ?_ hHeld ?_ ?_ ?_; rotate_left; (rintro w' ⟨s0, s1, s2⟩; go_simp; with_reducible rfl); rotate_left; (simp only [Act.put, p1', p2', p3', w1', w2']; rfl)
 refine u' 11 41 (B' 15 4095) ?_ rfl rfl ?_ ?_ ?_ ?_; rotate_left; (intro w'; go_simp; with_reducible rfl); rotate_left; (simp only [Act.put, p1', p2', p3', w1', w2']; rfl)
 refine t' 12 42 (B' 15 8191) ?_ rfl rfl ?_ hHeld ?_ ?_ ?_; rotate_left; (rintro w' ⟨s0, s1, s2⟩; go_simp; with_reducible rfl); rotate_left; (simp only [Act.put, p1', p2', p3', w1', w2']; rfl)
 refine one_ (i := 13) (N := some 43) (B' 15 16383) rfl rfl (by kernel_rfl) (by decide) (fun K hK => ?_)
 refine goes_ Try.func63 (by kernel_rfl) rfl #[.int .i64 kind, .int .i64 (rd st i)] (by rfl) rfl rfl (by simp only [List.map_toArray, List.map_cons, List.map_nil]; rfl) ?_
 with_reducible refine (likelyB kind (rd st i) _ hs).mono ?_
 rintro e w3 ⟨rfl, hb3⟩
 refine ⟨_, rfl, ?_⟩
 have hb3' := below_undrew1 hb3
 have HE3 := Za (HE.out.below hb3')
 have HM3 := Za ((Mods.refl w S).below hb3')
 clear hb3 hb3'
 refine hK.out _ _ ⟨HE3.out.c0, HE3.out.c1, by obtain ⟨b', hA, hc, _⟩ := HE3.out.cell hi; cases hA; exact hc⟩ (fun hHeld => ?_)
 clear hK K
 refine n' ?_ ?_ ?_; rotate_left; (show Act.put _ (some 43) _ = _; simp only [Act.put, p1', p2', p3', w1', w2']; rfl)
 refine u' 14 6 (B' 15 32767) ?_ rfl rfl ?_ ?_ ?_ ?_; rotate_left; (intro w'; go_simp; with_reducible rfl); rotate_left; (simp only [Act.put, p1', p2', p3', w1', w2']; rfl)
 refine done_ (by kernel_rfl) ?_
 clear k0 k1 ks k8 HE
 go_wp2
 have HE3 := Za HE3.out.drew
 have HM3 := Za HM3.out.drew
 have k2 := HE3.out.c2
 have k3 := HE3.out.c3
 have k6 := HE3.out.c6
 refine start_ (n := 11) (S := fun w' => w'.cell? ⟨g, 2, none⟩ = some (.int .u64 low) ∧ w'.cell? ⟨g, 3, none⟩ = some (.int .u64 high) ∧ w'.cell? ⟨g, 6, none⟩ = some (.int .u64 value)) (ds := []) (B' 11 0) (by kernel_rfl) rfl rfl ⟨k2, k3, k6⟩ (fun hHeld => ?_)
 refine u' 0 44 (B' 11 1) ?_ rfl rfl ?_ ?_ ?_ ?_; rotate_left; (intro w'; go_simp; with_reducible rfl); rotate_left; (simp only [Act.put, p1', p2', p3', w1', w2']; rfl)
 refine u' 1 45 (B' 11 3) ?_ rfl rfl ?_ ?_ ?_ ?_; rotate_left; (intro w'; go_simp; with_reducible rfl); rotate_left; (simp only [Act.put, p1', p2', p3', w1', w2']; rfl)
 refine u' 2 46 (B' 11 7) ?_ rfl rfl ?_ ?_ ?_ ?_; rotate_left; (intro w'; go_simp; with_reducible rfl); rotate_left; (simp only [Act.put, p1', p2', p3', w1', w2']; rfl)
 refine u' 4 48 (B' 11 23) ?_ rfl rfl ?_ ?_ ?_ ?_; rotate_left; (intro w'; go_simp; with_reducible rfl); rotate_left; (simp only [Act.put, p1', p2', p3', w1', w2']; rfl)
 refine u' 5 49 (B' 11 55) ?_ rfl rfl ?_ ?_ ?_ ?_; rotate_left; (intro w'; go_simp; with_reducible rfl); rotate_left; (simp only [Act.put, p1', p2', p3', w1', w2']; rfl)
 refine u' 6 50 (B' 11 119) ?_ rfl rfl ?_ ?_ ?_ ?_; rotate_left; (intro w'; go_simp; with_reducible rfl); rotate_left; (simp only [Act.put, p1', p2', p3', w1', w2']; rfl)
 refine u' 8 52 (B' 11 375) ?_ rfl rfl ?_ ?_ ?_ ?_; rotate_left; (intro w'; go_simp; with_reducible rfl); rotate_left; (simp only [Act.put, p1', p2', p3', w1', w2']; rfl)
 refine t' 3 47 (B' 11 383) ?_ rfl rfl ?_ hHeld ?_ ?_ ?_; rotate_left; (rintro w' ⟨s0, s1, s2⟩; go_simp; with_reducible rfl); rotate_left; (simp only [Act.put, p1', p2', p3', w1', w2']; rfl)
 refine t' 7 51 (B' 11 511) ?_ rfl rfl ?_ hHeld ?_ ?_ ?_; rotate_left; (rintro w' ⟨s0, s1, s2⟩; go_simp; with_reducible rfl); rotate_left; (simp only [Act.put, p1', p2', p3', w1', w2']; rfl)
 refine one_ (i := 9) (N := some 53) (B' 11 1023) rfl rfl (by kernel_rfl) (by decide) (fun K hK => ?_)
 refine goes_ Try.func91 (by kernel_rfl) rfl #[.agg #[.int .u64 low, .int .u64 high], .int .i64 (likely kind (rd st i))] (by rfl) rfl rfl (by simp only [List.map_toArray, List.map_cons, List.map_nil]; rfl) ?_
 with_reducible refine ((HMID _).out).mono ?_
 rintro e w4 ⟨rfl, hb4⟩
 refine ⟨_, rfl, ?_⟩
 have HE4 := Za (HE3.out.below hb4)
 have HM4 := Za (HM3.out.below hb4)
 clear hb4
 refine hK.out _ _ ⟨HE4.out.c2, HE4.out.c3, HE4.out.c6⟩ (fun hHeld => ?_)
 clear hK K
 refine n' ?_ ?_ ?_; rotate_left; (show Act.put _ (some 53) _ = _; simp only [Act.put, p1', p2', p3', w1', w2']; rfl)
 refine u' 10 54 (B' 11 2047) ?_ rfl rfl ?_ ?_ ?_ ?_; rotate_left; (intro w'; go_simp; with_reducible rfl); rotate_left; (simp only [Act.put, p1', p2', p3', w1', w2']; rfl)
 refine done_ (by kernel_rfl) ?_
 clear k2 k3 k6 HE3 HM3
 go_wp2
 have HE4 := Za HE4.out.drew
 have HM4 := Za HM4.out.drew
 have p2 := HE4.out.c2
 have p3 := HE4.out.c3
 have p5 := HE4.out.c5
 have p6 := HE4.out.c6
 refine start_ (n := 19) (S := fun w' => w'.cell? ⟨g, 2, none⟩ = some (.int .u64 low) ∧ w'.cell? ⟨g, 3, none⟩ = some (.int .u64 high) ∧ w'.cell? ⟨g, 5, none⟩ = some (.int .i64 a) ∧ w'.cell? ⟨g, 6, none⟩ = some (.int .u64 value)) (ds := []) (B' 19 0) (by kernel_rfl) rfl rfl ⟨p2, p3, p5, p6⟩ (fun hHeld => ?_)
 generalize w4.drew = wd at p2 p3 p5 p6 HE4 HM4 hHeld ⊢
 refine u' 0 55 (B' 19 1) ?_ rfl rfl ?_ ?_ ?_ ?_; rotate_left; (intro w'; go_simp; with_reducible rfl); rotate_left; (simp only [Act.put, p1', p2', p3', w1', w2']; rfl)
 refine u' 1 56 (B' 19 3) ?_ rfl rfl ?_ ?_ ?_ ?_; rotate_left; (intro w'; go_simp; with_reducible rfl); rotate_left; (simp only [Act.put, p1', p2', p3', w1', w2']; rfl)
 refine u' 2 57 (B' 19 7) ?_ rfl rfl ?_ ?_ ?_ ?_; rotate_left; (intro w'; go_simp; with_reducible rfl); rotate_left; (simp only [Act.put, p1', p2', p3', w1', w2']; rfl)
 refine u' 4 59 (B' 19 23) ?_ rfl rfl ?_ ?_ ?_ ?_; rotate_left; (intro w'; go_simp; with_reducible rfl); rotate_left; (simp only [Act.put, p1', p2', p3', w1', w2']; rfl)
 refine u' 5 60 (B' 19 55) ?_ rfl rfl ?_ ?_ ?_ ?_; rotate_left; (intro w'; go_simp; with_reducible rfl); rotate_left; (simp only [Act.put, p1', p2', p3', w1', w2']; rfl)
 refine u' 7 62 (B' 19 183) ?_ rfl rfl ?_ ?_ ?_ ?_; rotate_left; (intro w'; go_simp; with_reducible rfl); rotate_left; (simp only [Act.put, p1', p2', p3', w1', w2']; rfl)
 refine u' 8 63 (B' 19 439) ?_ rfl rfl ?_ ?_ ?_ ?_; rotate_left; (intro w'; go_simp; with_reducible rfl); rotate_left; (simp only [Act.put, p1', p2', p3', w1', w2']; rfl)
 refine u' 9 64 (B' 19 951) ?_ rfl rfl ?_ ?_ ?_ ?_; rotate_left; (intro w'; go_simp; with_reducible rfl); rotate_left; (simp only [Act.put, p1', p2', p3', w1', w2']; rfl)
 refine u' 11 66 (B' 19 2999) ?_ rfl rfl ?_ ?_ ?_ ?_; rotate_left; (intro w'; go_simp; with_reducible rfl); rotate_left; (simp only [Act.put, p1', p2', p3', w1', w2']; rfl)
 refine u' 12 67 (B' 19 7095) ?_ rfl rfl ?_ ?_ ?_ ?_; rotate_left; (intro w'; go_simp; with_reducible rfl); rotate_left; (simp only [Act.put, p1', p2', p3', w1', w2']; rfl)
 refine u' 13 68 (B' 19 15287) ?_ rfl rfl ?_ ?_ ?_ ?_; rotate_left; (intro w'; go_simp; with_reducible rfl); rotate_left; (simp only [Act.put, p1', p2', p3', w1', w2']; rfl)
 refine t' 3 58 (B' 19 15295) ?_ rfl rfl ?_ hHeld ?_ ?_ ?_; rotate_left; (rintro w' ⟨s0, s1, s2, s3⟩; go_simp; with_reducible rfl); rotate_left; (simp only [Act.put, p1', p2', p3', w1', w2']; rfl)
 refine t' 10 65 (B' 19 16319) ?_ rfl rfl ?_ hHeld ?_ ?_ ?_; rotate_left; (rintro w' ⟨s0, s1, s2, s3⟩; go_simp; with_reducible rfl); rotate_left; (simp only [Act.put, p1', p2', p3', w1', w2']; rfl)
 refine t' 14 69 (B' 19 32703) ?_ rfl rfl ?_ hHeld ?_ ?_ ?_; rotate_left; (rintro w' ⟨s0, s1, s2, s3⟩; go_simp; with_reducible rfl); rotate_left; (simp only [Act.put, p1', p2', p3', w1', w2']; rfl)
 refine join_ (σ := Nat) 3 (B' 19 65535) (fun s => [(61, .agg #[.int .u64 (cutL low mid 1), .int .u64 (cutH high mid 1)]), (8, .pointer (some ⟨s, 0, none⟩))]) (fun s w' => w'.heap[s]? = some (.cells #[.int .u64 0, .int .u64 0] 96 (0, 0)) ∧ wd.heap.size ≤ s ∧ Below wd.heap.size wd w') ?_ ?_
 rotate_left
 · intro hCont
   refine two_ (i := 6) (j := 15) (Ni := some 61) (Nj := some 8) (B' 19 32767) (B' 19 65471) rfl rfl rfl rfl (by kernel_rfl) (by decide) (by decide) (fun K hK => ?_) (fun K hK => ?_)
   · skip
     refine goes_ Try.func64 (by kernel_rfl) rfl #[.agg #[.int .u64 low, .int .u64 high], .int .i64 (likely kind (rd st i)), .int .i64 1] (by rfl) rfl rfl (by simp only [List.map_toArray, List.map_cons, List.map_nil]; rfl) ?_
     with_reducible refine ((HP _).out).mono ?_
     rintro e wk ⟨rfl, hk⟩
     refine ⟨_, rfl, ?_⟩
     have t2 := pw_cell_below hk p2
     have t3 := pw_cell_below hk p3
     have t5 := pw_cell_below hk p5
     have t6 := pw_cell_below hk p6
     refine hK.out _ _ ⟨t2, t3, t5, t6⟩ (fun hHeld => ?_)
     clear hK K
     refine n' ?_ ?_ ?_; rotate_left; (show Act.put _ (some 61) _ = _; simp only [Act.put, p1', p2', p3', w1', w2']; rfl)
     refine one_ (i := 15) (N := some 8) (B' 19 65535) rfl rfl (by kernel_rfl) (by decide) (fun K hK => ?_)
     refine value_ (w1 := ?_) (v := ?_) (by rfl) rfl ?_ ?_
     rotate_left 2
     · go_simp
       constructor
       · rfl
       · rfl
     refine hK.out _ _ ⟨pw_cell_below (b1' (Below.refl _ _) _) t2, pw_cell_below (b1' (Below.refl _ _) _) t3, pw_cell_below (b1' (Below.refl _ _) _) t5, pw_cell_below (b1' (Below.refl _ _) _) t6⟩ (fun hHeld => ?_)
     clear hK K
     refine n' ?_ ?_ ?_; rotate_left; (show Act.put _ (some 8) _ = _; simp only [Act.put, p1', p2', p3', w1', w2']; rfl)
     exact norm_ (by simp only [putAll, Act.put, List.setIfInBounds_toArray, List.set_cons_zero, List.set_cons_succ]) (hCont wk.heap.size _ ⟨blk_new _ _, hk.size, b1' hk _⟩)
   · skip
     refine value_ (w1 := ?_) (v := ?_) (by rfl) rfl ?_ ?_
     rotate_left 2
     · go_simp
       constructor
       · rfl
       · rfl
     refine hK.out _ _ ⟨pw_cell_below (b1' (Below.refl _ _) _) p2, pw_cell_below (b1' (Below.refl _ _) _) p3, pw_cell_below (b1' (Below.refl _ _) _) p5, pw_cell_below (b1' (Below.refl _ _) _) p6⟩ (fun hHeld => ?_)
     clear hK K
     refine n' ?_ ?_ ?_; rotate_left; (show Act.put _ (some 8) _ = _; simp only [Act.put, p1', p2', p3', w1', w2']; rfl)
     refine one_ (i := 6) (N := some 61) (B' 19 65535) rfl rfl (by kernel_rfl) (by decide) (fun K hK => ?_)
     refine goes_ Try.func64 (by kernel_rfl) rfl #[.agg #[.int .u64 low, .int .u64 high], .int .i64 (likely kind (rd st i)), .int .i64 1] (by rfl) rfl rfl (by simp only [List.map_toArray, List.map_cons, List.map_nil]; rfl) ?_
     with_reducible refine ((HP _).out).mono ?_
     rintro e wk ⟨rfl, hk⟩
     refine ⟨_, rfl, ?_⟩
     have t2 := pw_cell_below hk (pw_cell_below (b1' (Below.refl _ _) _) p2)
     have t3 := pw_cell_below hk (pw_cell_below (b1' (Below.refl _ _) _) p3)
     have t5 := pw_cell_below hk (pw_cell_below (b1' (Below.refl _ _) _) p5)
     have t6 := pw_cell_below hk (pw_cell_below (b1' (Below.refl _ _) _) p6)
     refine hK.out _ _ ⟨t2, t3, t5, t6⟩ (fun hHeld => ?_)
     clear hK K
     refine n' ?_ ?_ ?_; rotate_left; (show Act.put _ (some 61) _ = _; simp only [Act.put, p1', p2', p3', w1', w2']; rfl)
     exact norm_ (by simp only [putAll, Act.put, List.setIfInBounds_toArray, List.set_cons_zero, List.set_cons_succ]) (hCont wd.heap.size _ ⟨Zd (blk_new _ _) hk, Nat.le_refl _, below_then (b1' (Below.refl _ _) _) (by simp) hk⟩)
 rintro q w5 ⟨hq, hqs, hqb⟩
 have t2 := pw_cell_below hqb p2
 have t3 := pw_cell_below hqb p3
 have t5 := pw_cell_below hqb p5
 have t6 := pw_cell_below hqb p6
 have hHeld : w5.cell? ⟨g, 2, none⟩ = some (.int .u64 low) ∧ w5.cell? ⟨g, 3, none⟩ = some (.int .u64 high) ∧ w5.cell? ⟨g, 5, none⟩ = some (.int .i64 a) ∧ w5.cell? ⟨g, 6, none⟩ = some (.int .u64 value) := ⟨t2, t3, t5, t6⟩
 have z0 : w5.cell? ⟨q, 0, none⟩ = some (.int .u64 0) := (Zc hq 0).trans rfl
 have z1 : w5.cell? ⟨q, 1, none⟩ = some (.int .u64 0) := (Zc hq 1).trans rfl
 have zf0 := Zf hq 0
 have zf1 := Zf hq 1
 have HQ := Za hq
 have HQS := Za hqs
 have HQB := Za hqb
 clear hq hqs hqb
 refine norm_ (a' := ?_) ?_ ?_
 rotate_left
 · simp only [putAll, Act.put, List.setIfInBounds_toArray, List.set_cons_zero, List.set_cons_succ]
   rfl
 refine one_ (i := 16) (N := none) (B' 19 131071) rfl rfl (by kernel_rfl) (by decide) (fun K hK => ?_)
 refine skip_ (w1 := ?_) (by rfl) rfl ?_ ?_
 rotate_left
 · go_simp
   rfl
 refine hK.out _ _ ⟨pw_cell_below ((HQB.out.setCell (p := ⟨q, 0, none⟩) HQS.out _).setCell (p := ⟨q, 1, none⟩) HQS.out _) p2, pw_cell_below ((HQB.out.setCell (p := ⟨q, 0, none⟩) HQS.out _).setCell (p := ⟨q, 1, none⟩) HQS.out _) p3, pw_cell_below ((HQB.out.setCell (p := ⟨q, 0, none⟩) HQS.out _).setCell (p := ⟨q, 1, none⟩) HQS.out _) p5, pw_cell_below ((HQB.out.setCell (p := ⟨q, 0, none⟩) HQS.out _).setCell (p := ⟨q, 1, none⟩) HQS.out _) p6⟩ (fun hHeld => ?_)
 clear hK K
 refine u' 17 9 (B' 19 262143) ?_ rfl rfl ?_ ?_ ?_ ?_; rotate_left; (intro w'; go_simp; with_reducible rfl); rotate_left; (simp only [Act.put, p1', p2', p3', w1', w2']; rfl)
 refine u' 18 10 (B' 19 524287) ?_ rfl rfl ?_ ?_ ?_ ?_; rotate_left; (intro w'; go_simp; with_reducible rfl); rotate_left; (simp only [Act.put, p1', p2', p3', w1', w2']; rfl)
 refine done_ (by kernel_rfl) ?_
 obtain ⟨w6, hw6⟩ : ∃ w6, w6 = (w5.setCell ⟨q, 0, none⟩ (.int .u64 (cutL low mid 1))).setCell ⟨q, 1, none⟩ (.int .u64 (cutH high mid 1)) := ⟨_, rfl⟩
 rw [← hw6]
 have hB6 : Below wd.heap.size wd w6 := hw6 ▸ (HQB.out.setCell (p := ⟨q, 0, none⟩) HQS.out _).setCell (p := ⟨q, 1, none⟩) HQS.out _
 have hq1 : (w5.setCell ⟨q, 0, none⟩ (.int .u64 (cutL low mid 1))).heap[q]? = some (.cells #[.int .u64 (cutL low mid 1), .int .u64 0] 96 (0, 0)) := blk_put (cs := #[.int .u64 0, .int .u64 0]) HQ.out 0 _ rfl
 have HQ6 := Za (show w6.heap[q]? = some (.cells #[.int .u64 (cutL low mid 1), .int .u64 (cutH high mid 1)] 96 (0, 0)) from hw6 ▸ blk_put (cs := #[.int .u64 (cutL low mid 1), .int .u64 0]) hq1 1 _ rfl)
 have HE6 := Za (HE4.out.below hB6)
 have HM6 := Za (HM4.out.below hB6)
 have hqn : ¬ S q := fun hk => by have h1 := HSB.out q hk; have h2 := HM4.out.size; have h3 := HQS.out; omega
 have hgq : g ≠ q := fun he => hqn (he ▸ hSg)
 have HQN := Za hqn
 have HQS2 := Za (show w.heap.size ≤ q from Nat.le_trans HM4.out.size HQS.out)
 clear hw6 hB6 hq1 hqn HE4 HM4 HQ HQS HQB z0 z1 zf0 zf1 t2 t3 t5 t6 p2 p3 p5 p6
 go_wp2
 try rw [decide_eq_true hvb]
 try simp only [decide_eq_false (show ¬ st.length ≤ i by omega), Bool.or_false]
 go_loopg [9, 10] 4 (fun d s9 s10 wr => ∃ (l h : Int) (n : List Int) (k : Nat) (v : Int), s9 = .int .i64 k ∧ s10 = .int .u64 v ∧ (0 ≤ v ∧ v ≤ 4294967295) ∧ Aside0 (k = a + n.length ∧ v = shV code n.length value a) ∧ Aside0 (RDecRow wr S g kind (some ⟨b, 0, none⟩) c st low high (.slice Ac code.length cc) code a value ((a - code.length : Nat) : Int) false) ∧ Aside0 (Mods w wr S) ∧ Aside0 (wr.heap[q]? = some (.cells #[.int .u64 l, .int .u64 h] 96 (0, 0))) ∧ Aside0 (PutInv [] (cutL low mid 1) (cutH high mid 1) d l h n))
 case atStart => exact ⟨_, _, [], a, value, rfl, rfl, ⟨hv0, hv1⟩, ⟨rfl, rfl⟩, HE6, HM6, HQ6, HI⟩
 clear HE6 HM6 HQ6 HI
 case round =>
  obtain ⟨l, h, n, k, v, rfl, rfl, hv, HKV, HE7, HM7, HQ7, HPI⟩ := hrel
  have hp0 := HPI.out.l0
  have hp1 := HPI.out.lh
  have hp2 := HPI.out.h0
  have hp3 := HPI.out.len
  rw [List.length_nil] at hp3
  have hka : k ≤ 2199023255552 := by have := HKV.out.1; omega
  have hs7 := fixed_calls l h
  have z0 : wr.cell? ⟨q, 0, none⟩ = some (.int .u64 l) := (Zc HQ7.out 0).trans rfl
  have z1 : wr.cell? ⟨q, 1, none⟩ = some (.int .u64 h) := (Zc HQ7.out 1).trans rfl
  by_cases cx : l / 16777216 = h / 16777216
  · rw [decide_eq_true cx] at hs7
    have HSA := Za hs7
    clear hs7
    obtain ⟨d', hd', hP'⟩ := HPI.out.step cx
    have HP' := Za hP'
    have HD := Za hd'
    have hbr := byteOf_range HBY.out k
    clear hd' hP' cx
    go_wp2_with (first
     | (go_at_call 66; refine (HSA.out _).mono ?_; rintro e w8 ⟨rfl, hb8⟩; have HE8 := Za (HE7.out.below hb8); have HM8 := Za (HM7.out.below hb8); have HQ8 := Za (Zd HQ7.out hb8); have z0 : w8.cell? ⟨q, 0, none⟩ = some (.int .u64 l) := (Zc HQ8.out 0).trans rfl; have z1 : w8.cell? ⟨q, 1, none⟩ = some (.int .u64 h) := (Zc HQ8.out 1).trans rfl; clear hb8)
     | (go_at_call 67; refine (shift_calls l h _ hp0 (by omega) (by omega) hp2).mono ?_; rintro e w9 ⟨rfl, hb9⟩; have HE9 := Za (HE8.out.below hb9); have HM9 := Za (HM8.out.below hb9); have HQ9 := Za (Zd HQ8.out hb9); have z0 : w9.cell? ⟨q, 0, none⟩ = some (.int .u64 l) := (Zc HQ9.out 0).trans rfl; have z1 : w9.cell? ⟨q, 1, none⟩ = some (.int .u64 h) := (Zc HQ9.out 1).trans rfl; have zf0 := Zf HQ9.out 0; have zf1 := Zf HQ9.out 1; have k4 := HE9.out.c4; clear hb9))
    obtain ⟨w10, hw10⟩ : ∃ w10, w10 = (w9.setCell ⟨q, 0, none⟩ (.int .u64 (l % 16777216 * 256))).setCell ⟨q, 1, none⟩ (.int .u64 (h % 16777216 * 256 + 255)) := ⟨_, rfl⟩
    rw [← hw10]
    have hq10 : (w9.setCell ⟨q, 0, none⟩ (.int .u64 (l % 16777216 * 256))).heap[q]? = some (.cells #[.int .u64 (l % 16777216 * 256), .int .u64 h] 96 (0, 0)) := blk_put (cs := #[.int .u64 l, .int .u64 h]) HQ9.out 0 _ rfl
    have HQ10 := Za (show w10.heap[q]? = some (.cells #[.int .u64 (l % 16777216 * 256), .int .u64 (h % 16777216 * 256 + 255)] 96 (0, 0)) from hw10 ▸ blk_put (cs := #[.int .u64 (l % 16777216 * 256), .int .u64 h]) hq10 1 _ rfl)
    have HE10 := Za (show RDecRow w10 S g kind (some ⟨b, 0, none⟩) c st low high (.slice Ac code.length cc) code a value ((a - code.length : Nat) : Int) false from hw10 ▸ (HE9.out.far (p := ⟨q, 0, none⟩) HQN.out _).far (p := ⟨q, 1, none⟩) HQN.out _)
    have hqs : w.heap.size ≤ q := by have h1 := HQS2.out; omega
    have HM10 := Za (show Mods w w10 S from hw10 ▸ (HM9.out.setCell (p := ⟨q, 0, none⟩) (.inr hqs) _).setCell (p := ⟨q, 1, none⟩) (.inr hqs) _)
    clear hw10 hq10 hqs z0 z1 zf0 zf1 k4 HE9 HM9 HQ9 HE8 HM8 HQ8
    refine (byte_calls Ac cc code k _ (Kd.R_reads' HE10.out.o).2.2 HBY.out).mono ?_
    rintro e w11 ⟨rfl, rfl⟩
    go_wp2
    go_roundg d'
    case measure => have := HD.out; omega
    case rel =>
     have h1 := HKV.out
     refine ⟨_, _, _, k + 1, _, rfl, rfl, by omega, ⟨?_, ?_⟩, HE10, HM10, HQ10, HP'⟩
     · rw [List.length_append, List.length_cons, List.length_nil, h1.1]
       omega
     · rw [List.length_append, List.length_cons, List.length_nil, Nat.zero_add, shV_succ, ← h1.2, ← h1.1]
  · rw [decide_eq_false cx] at hs7
    have HSA := Za hs7
    clear hs7
    have HCC := Za (HPI.out.done cx)
    clear cx
    have HN := Za (show normE 4 (cutL low mid 1) (cutH high mid 1) = (n, l, h) from by
     have h1 := HCC.out
     rw [List.nil_append] at h1
     exact Prod.ext h1.1.symm h1.2)
    obtain ⟨be, hbe⟩ : ∃ be : Nat, k - code.length = be := ⟨_, rfl⟩
    have HBE := Za hbe
    have hbk : be ≤ 2199023255552 := by omega
    by_cases hb4 : (be : Int) > 4
    · have HB4 := Za hb4
      go_wp2_with (go_at_call 66; refine (HSA.out _).mono ?_; rintro e w8 ⟨rfl, hb8⟩; have HE8 := Za (HE7.out.below hb8); have HM8 := Za (HM7.out.below hb8); have k4 := HE8.out.c4; have k8 := HE8.out.c8; have f8 := HE8.out.fz 8; clear hb8)
      go_ret2
      have h1 := HKV.out
      refine ⟨⟨l, h, n, HN.out, .inl ⟨by have := HB4.out; have := HBE.out; omega, rfl, HE8.out.put 8 _ rfl⟩⟩, HM8.out.setCell (.inl hSg) _⟩
    · have HB4 := Za hb4
      go_wp2_with (go_at_call 66; refine (HSA.out _).mono ?_; rintro e w8 ⟨rfl, hb8⟩; have HE8 := Za (HE7.out.below hb8); have HM8 := Za (HM7.out.below hb8); have HQ8 := Za (Zd HQ7.out hb8); have k4 := HE8.out.c4; clear hb8)
      have HE8 := Za HE8.out.drew
      have HM8 := Za HM8.out.drew
      have HQ8 := Za (k2' HQ8.out)
      have k0 := HE8.out.c0
      have k1 := HE8.out.c1
      have ks : w8.drew.cell? ⟨b, i, none⟩ = some (.int .i64 (rd st i)) := by obtain ⟨b', hA, hc, _⟩ := HE8.out.cell hi; cases hA; exact hc
      clear k4
      refine start_ (n := 23) (S := fun w' => w'.cell? ⟨g, 0, none⟩ = some (.int .i64 kind) ∧ w'.cell? ⟨g, 1, none⟩ = some (.slice (some ⟨b, 0, none⟩) st.length c) ∧ w'.cell? ⟨b, i, none⟩ = some (.int .i64 (rd st i))) (ds := [22]) (B' 23 0) (by kernel_rfl) rfl rfl ⟨k0, k1, ks⟩ (fun hHeld => ?_)
      refine u' 0 99 (B' 23 1) ?_ rfl rfl ?_ ?_ ?_ ?_; rotate_left; (intro w'; go_simp; with_reducible rfl); rotate_left; (simp only [Act.put, p1', p2', p3', w1', w2']; rfl)
      refine u' 1 100 (B' 23 3) ?_ rfl rfl ?_ ?_ ?_ ?_; rotate_left; (intro w'; go_simp; with_reducible rfl); rotate_left; (simp only [Act.put, p1', p2', p3', w1', w2']; rfl)
      refine u' 2 101 (B' 23 7) ?_ rfl rfl ?_ ?_ ?_ ?_; rotate_left; (intro w'; go_simp; with_reducible rfl); rotate_left; (simp only [Act.put, p1', p2', p3', w1', w2']; rfl)
      refine u' 3 102 (B' 23 15) ?_ rfl rfl ?_ ?_ ?_ ?_; rotate_left; (intro w'; go_simp; with_reducible rfl); rotate_left; (simp only [Act.put, p1', p2', p3', w1', w2']; rfl)
      refine u' 5 104 (B' 23 47) ?_ rfl rfl ?_ ?_ ?_ ?_; rotate_left; (intro w'; go_simp; with_reducible rfl); rotate_left; (simp only [Act.put, p1', p2', p3', w1', w2']; rfl)
      refine u' 6 105 (B' 23 111) ?_ rfl rfl ?_ ?_ ?_ ?_; rotate_left; (intro w'; go_simp; with_reducible rfl); rotate_left; (simp only [Act.put, p1', p2', p3', w1', w2']; rfl)
      refine u' 7 106 (B' 23 239) ?_ rfl rfl ?_ ?_ ?_ ?_; rotate_left; (intro w'; go_simp; with_reducible rfl); rotate_left; (simp only [Act.put, p1', p2', p3', w1', w2']; rfl)
      refine u' 8 107 (B' 23 495) ?_ rfl rfl ?_ ?_ ?_ ?_; rotate_left; (intro w'; go_simp; with_reducible rfl); rotate_left; (simp only [Act.put, p1', p2', p3', w1', w2']; rfl)
      refine u' 9 108 (B' 23 1007) ?_ rfl rfl ?_ ?_ ?_ ?_; rotate_left; (intro w'; go_simp; with_reducible rfl); rotate_left; (simp only [Act.put, p1', p2', p3', w1', w2']; rfl)
      refine u' 11 110 (B' 23 3055) ?_ rfl rfl ?_ ?_ ?_ ?_; rotate_left; (intro w'; go_simp; with_reducible rfl); rotate_left; (simp only [Act.put, p1', p2', p3', w1', w2']; rfl)
      refine u' 12 111 (B' 23 7151) ?_ rfl rfl ?_ ?_ ?_ ?_; rotate_left; (intro w'; go_simp; with_reducible rfl); rotate_left; (simp only [Act.put, p1', p2', p3', w1', w2']; rfl)
      refine u' 13 112 (B' 23 15343) ?_ rfl rfl ?_ ?_ ?_ ?_; rotate_left; (intro w'; go_simp; with_reducible rfl); rotate_left; (simp only [Act.put, p1', p2', p3', w1', w2']; rfl)
      refine u' 14 113 (B' 23 31727) ?_ rfl rfl ?_ ?_ ?_ ?_; rotate_left; (intro w'; go_simp; with_reducible rfl); rotate_left; (simp only [Act.put, p1', p2', p3', w1', w2']; rfl)
      refine u' 16 115 (B' 23 97263) ?_ rfl rfl ?_ ?_ ?_ ?_; rotate_left; (intro w'; go_simp; with_reducible rfl); rotate_left; (simp only [Act.put, p1', p2', p3', w1', w2']; rfl)
      refine u' 19 118 (B' 23 621551) ?_ rfl rfl ?_ ?_ ?_ ?_; rotate_left; (intro w'; go_simp; with_reducible rfl); rotate_left; (simp only [Act.put, p1', p2', p3', w1', w2']; rfl)
      refine t' 4 103 (B' 23 621567) ?_ rfl rfl ?_ hHeld ?_ ?_ ?_; rotate_left; (rintro w' ⟨s0, s1, s2⟩; go_simp; with_reducible rfl); rotate_left; (simp only [Act.put, p1', p2', p3', w1', w2']; rfl)
      refine t' 10 109 (B' 23 622591) ?_ rfl rfl ?_ hHeld ?_ ?_ ?_; rotate_left; (rintro w' ⟨s0, s1, s2⟩; go_simp; with_reducible rfl); rotate_left; (simp only [Act.put, p1', p2', p3', w1', w2']; rfl)
      refine t' 15 114 (B' 23 655359) ?_ rfl rfl ?_ hHeld ?_ ?_ ?_; rotate_left; (rintro w' ⟨s0, s1, s2⟩; go_simp; with_reducible rfl); rotate_left; (simp only [Act.put, p1', p2', p3', w1', w2']; rfl)
      refine u' 17 116 (B' 23 786431) ?_ rfl rfl ?_ ?_ ?_ ?_; rotate_left; (intro w'; go_simp; with_reducible rfl); rotate_left; (simp only [Act.put, p1', p2', p3', w1', w2']; rfl)
      refine t' 18 117 (B' 23 1048575) ?_ rfl rfl ?_ hHeld ?_ ?_ ?_; rotate_left; (rintro w' ⟨s0, s1, s2⟩; go_simp; with_reducible rfl); rotate_left; (simp only [Act.put, p1', p2', p3', w1', w2']; rfl)
      refine one_ (i := 20) (N := some 119) (B' 23 2097151) rfl rfl (by kernel_rfl) (by decide) (fun K hK => ?_)
      refine goes_ Try.func65 (by kernel_rfl) rfl #[.int .i64 kind, .int .i64 (rd st i), .int .i64 1] (by rfl) rfl rfl (by simp only [List.map_toArray, List.map_cons, List.map_nil]; rfl) ?_
      with_reducible refine (ref_after kind (rd st i) 1 _ hs (by decide)).mono ?_
      rintro e w9 ⟨rfl, hb9⟩
      refine ⟨_, rfl, ?_⟩
      have HE9 := Za (HE8.out.below hb9)
      have HM9 := Za (HM8.out.below hb9)
      have HQ9 := Za (Zd HQ8.out hb9)
      have c9 : w9.cell? ⟨b, i, none⟩ = some (.int .i64 (rd st i)) := by obtain ⟨b', hA, hc, _⟩ := HE9.out.cell hi; cases hA; exact hc
      have f9 : w9.frozen? ⟨b, i, none⟩ = false := by obtain ⟨b', hA, _, hf, _⟩ := HE9.out.cell hi; cases hA; exact hf
      clear hb9
      refine hK.out _ _ ⟨HE9.out.c0, HE9.out.c1, c9⟩ (fun hHeld => ?_)
      clear hK K
      refine n' ?_ ?_ ?_; rotate_left; (show Act.put _ (some 119) _ = _; simp only [Act.put, p1', p2', p3', w1', w2']; rfl)
      refine u' 21 120 (B' 23 4194303) ?_ rfl rfl ?_ ?_ ?_ ?_; rotate_left; (intro w'; go_simp; with_reducible rfl); rotate_left; (simp only [Act.put, p1', p2', p3', w1', w2']; rfl)
      refine last_ (i := 22) (N := none) (B' 23 8388607) rfl rfl (by kernel_rfl) (by decide) (fun K hK => ?_)
      refine skip_ (w1 := ?_) (by rfl) rfl ?_ ?_
      rotate_left
      · go_simp
        rfl
      refine hK.out _ _ ?_
      clear hK K
      refine done_ (by kernel_rfl) ?_
      obtain ⟨w10, hw10⟩ : ∃ w10, w10 = w9.setCell ⟨b, i, none⟩ (.int .i64 (after kind (rd st i) 1)) := ⟨_, rfl⟩
      rw [← hw10]
      have HE10 := Za (show RDecRow w10 S g kind (some ⟨b, 0, none⟩) c (st.set i (after kind (rd st i) 1)) low high (.slice Ac code.length cc) code a value ((a - code.length : Nat) : Int) false from hw10 ▸ HE9.out.setst hi _)
      have HM10 := Za (show Mods w w10 S from hw10 ▸ HM9.out.setCell (.inl hSb2) _)
      have hqb : q ≠ b := fun he => HQN.out (he ▸ hSb2)
      have HQ10 := Za (show w10.heap[q]? = some (.cells #[.int .u64 l, .int .u64 h] 96 (0, 0)) from hw10 ▸ blk_far HQ9.out hqb _)
      have z0 : w10.cell? ⟨q, 0, none⟩ = some (.int .u64 l) := (Zc HQ10.out 0).trans rfl
      have z1 : w10.cell? ⟨q, 1, none⟩ = some (.int .u64 h) := (Zc HQ10.out 1).trans rfl
      have c2 := HE10.out.c2
      have c3 := HE10.out.c3
      have c5 := HE10.out.c5
      have c6 := HE10.out.c6
      have c7 := HE10.out.c7
      have f2 := HE10.out.fz 2
      have f3 := HE10.out.fz 3
      have f5 := HE10.out.fz 5
      have f6 := HE10.out.fz 6
      have f7 := HE10.out.fz 7
      clear hw10 k0 k1 ks c9 f9
      go_wp2
      go_ret2
      have h1 := HKV.out
      refine ⟨⟨l, h, n, HN.out, .inr ⟨by have := HB4.out; have := HBE.out; omega, rfl, ?_⟩⟩, ((((HM10.out.setCell (p := ⟨g, 2, none⟩) (.inl hSg) _).setCell (p := ⟨g, 3, none⟩) (.inl hSg) _).setCell (p := ⟨g, 5, none⟩) (.inl hSg) _).setCell (p := ⟨g, 6, none⟩) (.inl hSg) _).setCell (p := ⟨g, 7, none⟩) (.inl hSg) _⟩
      rw [← h1.2, ← h1.1, HBE.out]
      exact ((((HE10.out.put (low' := l) 2 _ rfl).put (high' := h) 3 _ rfl).put (a' := (k : Int)) 5 _ rfl).put (value' := v) 6 _ rfl).put (be' := (be : Int)) 7 _ rfl
end Go.Proofs.Ytkfejicdjpffcaa.RDec
