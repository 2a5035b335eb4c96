import Derived.Test.YtpnmedmghncpiaaAid
import Derived.Test.YtpnmedmghncpiaaHandAid
import Derived.Test.YtpnmedmghncpiaaCod1
import Derived.Test.YtpnmedmghncpiaaCod2
import Derived.Test.YtpnmedmghncpiaaCod3
import Derived.Test.YtpnmedmghncpiaaMod
import Derived.Test.YtpnmedmghncpiaaEnc
import Derived.Test.YtpnmedmghncpiaaMods
import Derived.Test.YtpnmedmghncpiaaEncAt
import Derived.Test.YtpnmedmghncpiaaPut
import Derived.Test.YtpnmedmghncpiaaEnd
-- needs: Aid HandAid Cod1 Cod2 Cod3 Mod Enc Mods EncAt Put End
namespace Go.Proofs.Ytpnmedmghncpiaa.Encode
open Go Go.RowKit Go.Proofs.YtpnmedmghncpiaaW.PrintWords Go.Proofs.YtpnmedmghncpiaaW.PrintLast Go.Proofs.YtpnmedmghncpiaaW.PrintMore Go.Proofs.Ytpnmedmghncpiaa.Aid Go.Proofs.Ytpnmedmghncpiaa.HandAid Go.Proofs.Ytpnmedmghncpiaa.Cod1 Go.Proofs.Ytpnmedmghncpiaa.Cod2 Go.Proofs.Ytpnmedmghncpiaa.Cod3 Go.Proofs.Ytpnmedmghncpiaa.Mod Go.Proofs.Ytpnmedmghncpiaa.Enc Go.Proofs.Ytpnmedmghncpiaa.Mods Go.Proofs.Ytpnmedmghncpiaa.EncAt Go.Proofs.Ytpnmedmghncpiaa.Put Go.Proofs.Ytpnmedmghncpiaa.End Go.Proofs.Ytpnmedmghncpiaa.PCoderShort
set_option linter.unusedVariables false
set_option linter.unusedSimpArgs false
/-- A new encoder's state. -/
def newES (kind : Int) (st : List Int) : ES := ⟨kind, st, 0, 4294967295, []⟩
theorem newES_ok {kind : Int} {st : List Int} (h : okModel kind st) : (newES kind st).ok := ⟨h, show (0 : Int) ≤ 0 by decide, show (0 : Int) ≤ 4294967295 by decide, show (4294967295 : Int) ≤ 4294967295 by decide, show (0 : Int) / 16777216 ≠ 4294967295 / 16777216 by decide⟩
/-- The blocks from B on, as far as they go. -/
def Since (B : Nat) (W : World) (k : Nat) : Prop := B ≤ k ∧ k < W.heap.size
theorem new_enc (A : Option Addr) (c : Nat) (kind : Int) (st : List Int) (w : World) (hC : Kd.C (Kd.int .i64) w A st.length st) (hc : st.length ≤ c) (hm : okModel kind st) :
    Calls Try.prog 22 #[.agg #[.int .i64 kind, .slice A st.length c]] w fun e w' => ∃ g, e = .returned (.tuple #[.pointer (some ⟨g, 0, none⟩), .int .i64 0]) ∧ EncAt w' (Since w.heap.size w') g (newES kind st) ∧ Below w.heap.size w w' := by
  refine (newenc_calls A c kind st w hC hc hm).mono ?_
  rintro e w' ⟨g, rfl, hE, hb⟩
  refine ⟨g, rfl, ?_, hb⟩
  obtain ⟨A', n', c', vo, hh, hs, ho⟩ := hE.ex
  obtain ⟨hn, _, _⟩ := Kd.R_reads' hs
  subst hn
  exact ⟨A', c', vo, hh, Kd.R_lower hs (Nat.zero_le _), Kd.R_lower ho (Nat.zero_le _), hE.og⟩
/-- Events are put as far as they go well. -/
def putsE : ES → List S47 → ES × Int
  | s, [] => (s, 0)
  | s, x :: l => if s.err x.f0 x.f1 = 0 then putsE (s.putI x.f0 x.f1) l else (s, s.err x.f0 x.f1)
/-- Encode's answer: the code, the model, the error. -/
def encodeR (kind : Int) (st : List Int) (l : List S47) : List Int × Int × List Int × Int :=
  if okModel kind st then
    (if l.length > 100000 then ([], 0, [], 2) else if (putsE (newES kind st) l).2 = 0 then ((putsE (newES kind st) l).1.end_, (putsE (newES kind st) l).1.kind, (putsE (newES kind st) l).1.st, 0) else ([], 0, [], (putsE (newES kind st) l).2))
  else ([], 0, [], 10)
def EncodePost (w : World) (r : List Int × Int × List Int × Int) (e : Ending) (w' : World) : Prop :=
  ∃ A c A' c', e = .returned (.tuple #[.slice A r.1.length c, .agg #[.int .i64 r.2.1, .slice A' r.2.2.1.length c'], .int .i64 r.2.2.2]) ∧ Kd.R (Kd.int .u8) 5 w' w.heap.size (fun _ => True) (.slice A r.1.length c) r.1 ∧ Kd.R (Kd.int .i64) 3 w' w.heap.size (fun _ => True) (.slice A' r.2.2.1.length c') r.2.2.1 ∧ Below w.heap.size w w'
theorem enc_fail (w w' : World) (x : Int) (hb : Below w.heap.size w w') (e : Ending) (he : e = .returned (.tuple #[.slice none 0 0, .agg #[.int .i64 0, .slice none 0 0], .int .i64 x])) : EncodePost w ([], 0, [], x) e w' :=
  ⟨none, 0, none, 0, he, Kd.R_nil _ _ _ _ _, Kd.R_nil _ _ _ _ _, hb⟩
theorem putsE_out : ∀ (l : List S47) (s : ES), (putsE s l).1.out.length ≤ s.out.length + 4 * l.length
  | [], s => by simp [putsE]
  | x :: l, s => by
    unfold putsE
    split
    · have h1 := putsE_out l (s.putI x.f0 x.f1)
      have h2 := (ES.putI_len s x.f0 x.f1).1
      simp only [List.length_cons]
      omega
    · simp
theorem putsE_ok : ∀ (l : List S47) (s : ES), s.ok → (putsE s l).1.ok
  | [], s, h => h
  | x :: l, s, h => by
    unfold putsE
    split
    · exact putsE_ok l _ (ES.putI_ok h _ _)
    · exact h
theorem drop_rdE {l : List S47} {i : Nat} (h : i < l.length) : l.drop i = rd_T47 l (i : Int) :: l.drop (i + 1) := by
  rw [List.drop_eq_getElem_cons h]
  simp [rd_T47, List.getD_eq_getElem?_getD, List.getElem?_eq_getElem h]
theorem putsE_step {l : List S47} {i : Nat} (h : i < l.length) (s : ES) : putsE s (l.drop i) = if s.err (rd_T47 l i).f0 (rd_T47 l i).f1 = 0 then putsE (s.putI (rd_T47 l i).f0 (rd_T47 l i).f1) (l.drop (i + 1)) else (s, s.err (rd_T47 l i).f0 (rd_T47 l i).f1) := by
  rw [drop_rdE h]
  rfl
/-- What stands in Encode's loop. -/
structure EInv (w : World) (B b1 g : Nat) (s0 : ES) (l : List S47) (k : Nat) (s : ES) (W : World) : Prop where
  e : EncAt W (Since B W) g s
  o : s.ok
  n : s.out.length ≤ 4 * k
  p : putsE s (l.drop k) = putsE s0 l
  z : W.heap[b1]? = some (.cells #[.int .i64 0, .slice none 0 0] 24 (0, 0))
  b : Below w.heap.size w W
  wB : w.heap.size ≤ B
  BW : B ≤ W.heap.size
  bB : b1 < B
  wb : w.heap.size ≤ b1
theorem EInv.below {w : World} {B b1 g : Nat} {s0 : ES} {l : List S47} {k : Nat} {s : ES} {W W' : World} (h : EInv w B b1 g s0 l k s W) (hb : Below W.heap.size W W') : EInv w B b1 g s0 l k s W' :=
  ⟨(h.e.below hb).mono (fun k hk => ⟨hk.1, Nat.lt_of_lt_of_le hk.2 hb.size⟩), h.o, h.n, h.p, blk_below h.z hb, below_then h.b h.b.size hb, h.wB, Nat.le_trans h.BW hb.size, h.bB, h.wb⟩
theorem EInv.put {w : World} {B b1 g : Nat} {s0 : ES} {l : List S47} {k : Nat} {s : ES} {W W' : World} (h : EInv w B b1 g s0 l k s W) {i bit : Int} (hE : EncAt W' (fun k => (Since B W k ∨ W.heap.size ≤ k) ∧ k < W'.heap.size) g (s.putI i bit)) (hm : Mods W W' (Since B W)) (hn : (s.putI i bit).out.length ≤ 4 * (k + 1)) (hp : putsE (s.putI i bit) (l.drop (k + 1)) = putsE s0 l) : EInv w B b1 g s0 l (k + 1) (s.putI i bit) W' :=
  ⟨hE.mono (fun k hk => ⟨by have := h.BW; rcases hk.1 with h1 | h1; exact h1.1; omega, hk.2⟩), ES.putI_ok h.o _ _, hn, hp, blk_mods h.z hm (fun hk => by have := hk.1; have := h.bB; omega), below_mods h.b hm (fun k hk => Nat.le_trans h.wB hk.1) h.b.size, h.wB, Nat.le_trans h.BW hm.size, h.bB, h.wb⟩
set_option maxHeartbeats 4000000 in
set_option maxRecDepth 100000 in
theorem encode_calls (A : Option Addr) (c : Nat) (kind : Int) (st : List Int) (Ae : Option Addr) (ce : Nat) (l : List S47) (w : World) (hC : Kd.C (Kd.int .i64) w A st.length st) (hc : st.length ≤ c) (hCe : Kd.C k47 w Ae l.length l) (hce : l.length ≤ ce) :
    Calls Try.prog 19 #[.agg #[.int .i64 kind, .slice A st.length c], .slice Ae l.length ce] w (EncodePost w (encodeR kind st l)) := by
  have HC := Aside0.mk hC
  have HCE := Aside0.mk hCe
  have hu := Try.underlying24
  have hu2 := Try.underlying47
  have hmax : l.length ≤ 9223372036854775807 := Kd.C_max hCe
  clear hC hCe
  obtain ⟨r, hr⟩ : ∃ r, r = encodeR kind st l := ⟨_, rfl⟩
  rw [← hr]
  have HR := Aside0.mk hr
  clear hr
  by_cases hm : okModel kind st
  · have HM := Aside0.mk hm
    clear hm
    go_enter Try.func19, Try.ntmps19
    go_wp2_with (fail)
    obtain ⟨W0, hW0⟩ : ∃ W0, W0 = (w.alloc (.cells #[.int .i64 kind, .slice A st.length c] 24)).alloc (.cells #[.int .i64 0, .slice none 0 0] 24) := ⟨_, rfl⟩
    have hb0 := Aside0.mk (show Below w.heap.size w W0 from hW0 ▸ below_alloc (below_alloc (Below.refl w.heap.size w) _) _)
    have hz0 : Aside0 (W0.heap[w.heap.size + 1]? = some (.cells #[.int .i64 0, .slice none 0 0] 24 (0, 0))) := ⟨by
      have h := heap_new (w.alloc (.cells #[.int .i64 kind, .slice A st.length c] 24)) (.cells #[.int .i64 0, .slice none 0 0] 24)
      rw [World.size_alloc] at h
      rw [hW0]
      exact h⟩
    have hsz : Aside0 (W0.heap.size = w.heap.size + 2) := ⟨by rw [hW0]; simp⟩
    rw [← hW0]
    clear hW0
    refine (new_enc A c kind st _ (Kd.C_below HC.out hb0.out) hc HM.out).mono ?_
    rintro e w1 ⟨g, rfl, hE1, hB1⟩
    obtain ⟨b1, hb1⟩ : ∃ b1, w.heap.size + 1 = b1 := ⟨_, rfl⟩
    have HI1 : Aside0 (EInv w W0.heap.size b1 g (newES kind st) l 0 (newES kind st) w1) := ⟨⟨hE1, newES_ok HM.out, Nat.le_refl _, rfl, blk_below (hb1 ▸ hz0.out) hB1, below_then hb0.out hb0.out.size hB1, hb0.out.size, hB1.size, by have := hsz.out; omega, by omega⟩⟩
    rw [hb1] at hz0 ⊢
    have HB1 := Aside0.mk hB1
    clear hE1 hB1 hb1
    have z0 : w1.cell? ⟨b1, 0, none⟩ = some (.int .i64 0) := (blk_cell HI1.out.z 0).trans rfl
    have z1 : w1.cell? ⟨b1, 1, none⟩ = some (.slice none 0 0) := (blk_cell HI1.out.z 1).trans rfl
    have zf0 := blk_frozen HI1.out.z 0
    have zf1 := blk_frozen HI1.out.z 1
    by_cases hl : l.length > 100000
    · have hr : r = ([], 0, [], 2) := by rw [HR.out]; unfold encodeR; rw [if_pos HM.out, if_pos hl]
      have HR2 := Aside0.mk hr
      clear hr
      have hl' : (l.length : Int) > 100000 := by omega
      go_wp2
      refine bodyPost_ret (results_list (rs := [.tmp 4, .cell 5 24, .tmp 6]) rfl (by simp) (.tmp (.cell b1 24 #[.int .i64 0, .slice none 0 0] (0, 0) _ rfl (by refine blk_put (cs := #[.int .i64 0, .slice none 0 0]) ?_ 1 _ rfl; exact blk_put (cs := #[.int .i64 0, .slice none 0 0]) HI1.out.z 0 _ rfl) Try.underlying24 rfl (by kernel_rfl) (.tmp .nil)))) rfl ?_
      rw [HR2.out]
      refine enc_fail w _ 2 ?_ _ rfl
      have hwb : w.heap.size ≤ b1 := HI1.out.wb
      exact (HI1.out.b.setCell hwb _).setCell hwb _
    · have hl' : ¬ (l.length : Int) > 100000 := by omega
      have HL := Aside0.mk hl
      clear z0 z1 zf0 zf1 hl
      go_wp2
      go_loopw [26] (fun i wr => ∃ (k : Nat) (s : ES), k ≤ l.length ∧ i = .int .i64 k ∧ Aside0 (EInv w W0.heap.size b1 g (newES kind st) l k s wr)) (fun i _ => l.length - (intOf i).toNat)
      case atStart => exact ⟨0, newES kind st, Nat.zero_le _, rfl, HI1⟩
      clear HI1 HB1 hb0 hz0
      case round =>
        obtain ⟨k, s, hk, rfl, HI⟩ := hrel
        have hC := Kd.C_below HCE.out HI.out.b
        by_cases hlt : k < l.length
        · obtain ⟨ad, hA, hx0, hx1⟩ := at_T47 hC (k : Int) (by omega) (by omega)
          subst hA
          have hstep := putsE_step hlt s
          rw [HI.out.p] at hstep
          obtain ⟨x, hx⟩ : ∃ x, rd_T47 l (k : Int) = x := ⟨_, rfl⟩
          rw [hx] at hx0 hx1 hstep
          simp only [Int.toNat_natCast] at hx0 hx1
          have HST := Aside0.mk hstep
          have hlen : s.out.length ≤ 1099511627776 := by have := HI.out.n; omega
          have HI2 := Aside0.mk (HI.out.below (below_alloc (Below.refl _ _) (.cells #[.int .i64 x.f0, .int .i64 x.f1] 47)))
          clear hC hx hstep
          have HP := Aside0.mk (put_calls (wr.alloc (.cells #[.int .i64 x.f0, .int .i64 x.f1] 47)) (Since W0.heap.size (wr.alloc (.cells #[.int .i64 x.f0, .int .i64 x.f1] 47))) g s x.f0 x.f1 HI2.out.e HI2.out.o hlen)
          by_cases hgood : s.err x.f0 x.f1 = 0
          · rw [hgood] at HP
            have HG := Aside0.mk hgood
            clear hgood
            go_wp2_with (go_at_call 24; refine HP.out.mono ?_; rintro e w6 ⟨rfl, hE6, hM6⟩; have HI6 := Aside0.mk (HI2.out.put hE6 hM6 (by have := HI2.out.n; have := (ES.putI_len s x.f0 x.f1).1; omega) (by have h := HST.out; rw [if_pos HG.out] at h; exact h.symm)); clear hE6 hM6)
            go_roundw
            case rel => exact ⟨k + 1, _, by omega, by go_num, HI6⟩
            case measure => simp [intOf]; omega
          · have he2 : s.err x.f0 x.f1 = 2 := by unfold ES.err at hgood ⊢; split <;> simp_all
            have hfin : putsE (newES kind st) l = (s, 2) := by rw [HST.out, if_neg hgood, he2]
            rw [he2] at HP
            have HF := Aside0.mk hfin
            clear hgood he2 hfin
            go_wp2_with (go_at_call 24; refine HP.out.mono ?_; rintro e w6 ⟨rfl, hE6, hM6⟩; have HZ6 := Aside0.mk (blk_mods HI2.out.z hM6 (fun hk => by have := hk.1; have := HI2.out.bB; omega)); have HB6 := Aside0.mk (below_mods HI2.out.b hM6 (fun k hk => Nat.le_trans HI2.out.wB hk.1) HI2.out.b.size); have z0 : w6.cell? ⟨b1, 0, none⟩ = some (.int .i64 0) := (blk_cell HZ6.out 0).trans rfl; have z1 : w6.cell? ⟨b1, 1, none⟩ = some (.slice none 0 0) := (blk_cell HZ6.out 1).trans rfl; have zf0 := blk_frozen HZ6.out 0; have zf1 := blk_frozen HZ6.out 1; clear hE6 hM6)
            refine bodyPost_ret (results_list (rs := [.tmp 4, .cell 5 24, .tmp 6]) rfl (by simp) (.tmp (.cell b1 24 #[.int .i64 0, .slice none 0 0] (0, 0) _ rfl (by refine blk_put (cs := #[.int .i64 0, .slice none 0 0]) ?_ 1 _ rfl; exact blk_put (cs := #[.int .i64 0, .slice none 0 0]) HZ6.out 0 _ rfl) Try.underlying24 rfl (by kernel_rfl) (.tmp .nil)))) rfl ?_
            rw [show r = ([], 0, [], 2) by rw [HR.out]; unfold encodeR; rw [if_pos HM.out, if_neg HL.out, HF.out]; rfl]
            refine enc_fail w _ 2 ?_ _ rfl
            have hwb : w.heap.size ≤ b1 := HI2.out.wb
            exact (HB6.out.setCell hwb _).setCell hwb _
        · have hkl : k = l.length := by omega
          have hfin : putsE (newES kind st) l = (s, 0) := by
            have := HI.out.p
            rw [hkl, List.drop_length] at this
            exact this.symm
          have hlen : s.out.length ≤ 1099511627880 := by have := HI.out.n; omega
          have HF := Aside0.mk hfin
          clear hfin hkl
          obtain ⟨A0, c0, vo0, hEr⟩ := HI.out.e
          have HEr := Aside0.mk hEr
          have HBr := Aside0.mk HI.out.b
          have HZr := Aside0.mk HI.out.z
          have hED := end_row wr.drew (Since W0.heap.size wr) g s.kind A0 c0 s.st s.low s.high vo0 s.out hEr.drew HI.out.o.l HI.out.o.lh HI.out.o.h hlen
          have HED := Aside0.mk hED
          have k0 := HEr.out.iv.k
          have k1 := HEr.out.iv.s
          clear hEr hED hC
          go_wp2
          refine start_ (n := 10) (S := fun w' => w'.cell? ⟨g, 0, none⟩ = some (.int .i64 s.kind) ∧ w'.cell? ⟨g, 1, none⟩ = some (.slice A0 s.st.length c0)) (ds := [8]) #[false, false, false, false, false, false, false, false, false, false] (by kernel_rfl) rfl rfl ⟨k0, k1⟩ (fun hHeld => ?_)
          refine pure_ (i := 0) (N := some 41) (v := ?_) (a' := ?_) #[true, false, false, false, false, false, false, false, false, false] rfl rfl (by kernel_rfl) (fun _ _ _ h => h) (Or.inl ⟨by rfl, ?_⟩) ?_ ?_
          rotate_left
          · intro w'
            go_simp
            with_reducible rfl
          rotate_left
          · simp only [Act.put, List.setIfInBounds_toArray, List.set_cons_zero, List.set_cons_succ, i64_w, i32_w]
            rfl
          refine pure_ (i := 2) (N := some 43) (v := ?_) (a' := ?_) #[true, false, true, false, false, false, false, false, false, false] rfl rfl (by kernel_rfl) (fun _ _ _ h => h) (Or.inl ⟨by rfl, ?_⟩) ?_ ?_
          rotate_left
          · intro w'
            go_simp
            with_reducible rfl
          rotate_left
          · simp only [Act.put, List.setIfInBounds_toArray, List.set_cons_zero, List.set_cons_succ, i64_w, i32_w]
            rfl
          refine pure_ (i := 3) (N := some 44) (v := ?_) (a' := ?_) #[true, false, true, true, false, false, false, false, false, false] rfl rfl (by kernel_rfl) (fun _ _ _ h => h) (Or.inl ⟨by rfl, ?_⟩) ?_ ?_
          rotate_left
          · intro w'
            go_simp
            with_reducible rfl
          rotate_left
          · simp only [Act.put, List.setIfInBounds_toArray, List.set_cons_zero, List.set_cons_succ, i64_w, i32_w]
            rfl
          refine pure_ (i := 4) (N := some 45) (v := ?_) (a' := ?_) #[true, false, true, true, true, false, false, false, false, false] rfl rfl (by kernel_rfl) (fun _ _ _ h => h) (Or.inl ⟨by rfl, ?_⟩) ?_ ?_
          rotate_left
          · intro w'
            go_simp
            with_reducible rfl
          rotate_left
          · simp only [Act.put, List.setIfInBounds_toArray, List.set_cons_zero, List.set_cons_succ, i64_w, i32_w]
            rfl
          refine pure_ (i := 5) (N := some 46) (v := ?_) (a' := ?_) #[true, false, true, true, true, true, false, false, false, false] rfl rfl (by kernel_rfl) (fun _ _ _ h => h) (Or.inl ⟨by rfl, ?_⟩) ?_ ?_
          rotate_left
          · intro w'
            go_simp
            with_reducible rfl
          rotate_left
          · simp only [Act.put, List.setIfInBounds_toArray, List.set_cons_zero, List.set_cons_succ, i64_w, i32_w]
            rfl
          refine take_ (i := 6) (N := some 47) (v := ?_) (a' := ?_) #[true, false, true, true, true, true, true, false, false, false] rfl rfl (by kernel_rfl) (fun _ _ _ h => h) (Or.inl ⟨by rfl, ?_⟩) hHeld ?_ ?_
          rotate_left
          · rintro w' ⟨s0, s1⟩
            go_simp
            with_reducible rfl
          rotate_left
          · simp only [Act.put, List.setIfInBounds_toArray, List.set_cons_zero, List.set_cons_succ, i64_w, i32_w]
            rfl
          refine one_ (i := 1) (N := some 42) #[true, true, true, true, true, true, true, false, false, false] rfl rfl (by kernel_rfl) (by decide) (fun K hK => ?_)
          refine goes_ Try.func26 (by kernel_rfl) rfl #[.pointer (some ⟨g, 0, none⟩)] (by rfl) rfl rfl (by simp only [List.map_toArray, List.map_cons, List.map_nil]; rfl) ?_
          with_reducible refine (HED.out).mono ?_
          rintro e w7 ⟨A7, c7, rfl, hR7, hB7⟩
          refine ⟨_, rfl, ?_⟩
          have HR7 := Aside0.mk (Kd.R_lower hR7 HBr.out.size)
          have HB7 := Aside0.mk (below_then HBr.out HBr.out.size (below_undrew1 hB7))
          have HE7 := Aside0.mk (HEr.out.drew.below hB7)
          have t0 : w7.cell? ⟨g, 0, none⟩ = some (.int .i64 s.kind) := HE7.out.iv.k
          have t1 : w7.cell? ⟨g, 1, none⟩ = some (.slice A0 s.st.length c0) := HE7.out.iv.s
          have HZ7 := Aside0.mk (blk_below (g := b1) (w := wr.drew) HZr.out hB7)
          have z0 : w7.cell? ⟨b1, 0, none⟩ = some (.int .i64 0) := (blk_cell HZ7.out 0).trans rfl
          have z1 : w7.cell? ⟨b1, 1, none⟩ = some (.slice none 0 0) := (blk_cell HZ7.out 1).trans rfl
          have zf0 := blk_frozen HZ7.out 0
          have zf1 := blk_frozen HZ7.out 1
          clear hR7 hB7
          refine hK.out _ _ ⟨t0, t1⟩ (fun hHeld => ?_)
          clear hK K
          refine norm_ (a' := ?_) ?_ ?_
          rotate_left
          · show Act.put _ (some 42) _ = _
            simp only [Act.put, List.setIfInBounds_toArray, List.set_cons_zero, List.set_cons_succ, i64_w, i32_w]
            rfl
          refine pure_ (i := 7) (N := some 4) (v := ?_) (a' := ?_) #[true, true, true, true, true, true, true, true, false, false] rfl rfl (by kernel_rfl) (fun _ _ _ h => h) (Or.inl ⟨by rfl, ?_⟩) ?_ ?_
          rotate_left
          · intro w'
            go_simp
            with_reducible rfl
          rotate_left
          · simp only [Act.put, List.setIfInBounds_toArray, List.set_cons_zero, List.set_cons_succ, i64_w, i32_w]
            rfl
          refine last_ (i := 8) (N := none) #[true, true, true, true, true, true, true, true, true, false] rfl rfl (by kernel_rfl) (by decide) (fun K hK => ?_)
          refine skip_ (w1 := ?_) (by rfl) rfl ?_ ?_
          rotate_left
          · go_simp
            rfl
          refine hK.out _ _ ?_
          clear hK K
          refine pure_ (i := 9) (N := some 6) (v := ?_) (a' := ?_) #[true, true, true, true, true, true, true, true, true, true] rfl rfl (by kernel_rfl) (fun _ _ _ h => h) (Or.inl ⟨by rfl, ?_⟩) ?_ ?_
          rotate_left
          · intro w'
            go_simp
            with_reducible rfl
          rotate_left
          · simp only [Act.put, List.setIfInBounds_toArray, List.set_cons_zero, List.set_cons_succ, i64_w, i32_w]
            rfl
          refine done_ (by kernel_rfl) ?_

          go_wp2
          have hwb : w.heap.size ≤ b1 := HI.out.wb
          refine bodyPost_ret (results_list (rs := [.tmp 4, .cell 5 24, .tmp 6]) rfl (by simp) (.tmp (.cell b1 24 #[.int .i64 s.kind, .slice A0 s.st.length c0] (0, 0) _ rfl (by refine blk_put (cs := #[.int .i64 s.kind, .slice none 0 0]) ?_ 1 _ rfl; exact blk_put (cs := #[.int .i64 0, .slice none 0 0]) HZ7.out 0 _ rfl) Try.underlying24 rfl (by kernel_rfl) (.tmp .nil)))) rfl ?_
          have hr : r = (s.end_, s.kind, s.st, 0) := by rw [HR.out]; unfold encodeR; rw [if_pos HM.out, if_neg HL.out, HF.out]; rfl
          rw [hr]
          have hz2 : (w7.setCell ⟨b1, 0, none⟩ (.int .i64 s.kind)).heap[b1]? = some (.cells #[.int .i64 s.kind, .slice none 0 0] 24 (0, 0)) := blk_put (cs := #[.int .i64 0, .slice none 0 0]) HZ7.out 0 _ rfl
          refine ⟨A7, c7, A0, c0, by rw [show s.end_.length = s.out.length + (endOf s.low s.high).length from List.length_append]; rfl, ?_, ?_, ?_⟩
          · exact Kd.R_set (Kd.R_set HR7.out HZ7.out (by decide) _ _) hz2 (by decide) _ _
          · refine Kd.R_set (Kd.R_set ?_ HZ7.out (by decide) _ _) hz2 (by decide) _ _
            show Kd.R (Kd.int .i64) 3 w7 w.heap.size (fun _ => True) (.slice A0 s.st.length c0) s.st
            exact Kd.R_raise (b := 0) (fun _ _ _ _ h => h) (Kd.R_mono HE7.out.s (fun _ _ => trivial)) (fun k hk => Nat.le_trans HI.out.wB (HE7.out.s.1 k hk).1)
          · exact (HB7.out.setCell hwb _).setCell hwb _
  · have HM := Aside0.mk hm
    clear hm
    go_enter Try.func19, Try.ntmps19
    go_wp2_with (fail)
    obtain ⟨W0, hW0⟩ : ∃ W0, W0 = (w.alloc (.cells #[.int .i64 kind, .slice A st.length c] 24)).alloc (.cells #[.int .i64 0, .slice none 0 0] 24) := ⟨_, rfl⟩
    have hb0 := Aside0.mk (show Below w.heap.size w W0 from hW0 ▸ below_alloc (below_alloc (Below.refl w.heap.size w) _) _)
    have hz0 : Aside0 (W0.heap[w.heap.size + 1]? = some (.cells #[.int .i64 0, .slice none 0 0] 24 (0, 0))) := ⟨by
      have h := heap_new (w.alloc (.cells #[.int .i64 kind, .slice A st.length c] 24)) (.cells #[.int .i64 0, .slice none 0 0] 24)
      rw [World.size_alloc] at h
      rw [hW0]
      exact h⟩
    rw [← hW0]
    clear hW0
    refine (newenc_bad A c kind st _ (Kd.C_below HC.out hb0.out) hc HM.out).mono ?_
    rintro e w1 ⟨rfl, hB1⟩
    obtain ⟨b1, hb1⟩ : ∃ b1, w.heap.size + 1 = b1 := ⟨_, rfl⟩
    have hwb : w.heap.size ≤ b1 := by omega
    have HB1 := Aside0.mk (below_then hb0.out hb0.out.size hB1)
    have HZ1 := Aside0.mk (blk_below (hb1 ▸ hz0.out) hB1)
    rw [hb1]
    clear hB1 hb1 hz0 hb0
    have z0 : w1.cell? ⟨b1, 0, none⟩ = some (.int .i64 0) := (blk_cell HZ1.out 0).trans rfl
    have z1 : w1.cell? ⟨b1, 1, none⟩ = some (.slice none 0 0) := (blk_cell HZ1.out 1).trans rfl
    have zf0 := blk_frozen HZ1.out 0
    have zf1 := blk_frozen HZ1.out 1
    go_wp2
    refine bodyPost_ret (results_list (rs := [.tmp 4, .cell 5 24, .tmp 6]) rfl (by simp) (.tmp (.cell b1 24 #[.int .i64 0, .slice none 0 0] (0, 0) _ rfl (by refine blk_put (cs := #[.int .i64 0, .slice none 0 0]) ?_ 1 _ rfl; exact blk_put (cs := #[.int .i64 0, .slice none 0 0]) HZ1.out 0 _ rfl) Try.underlying24 rfl (by kernel_rfl) (.tmp .nil)))) rfl ?_
    rw [show r = ([], 0, [], 10) by rw [HR.out]; exact if_neg HM.out]
    refine enc_fail w _ 10 ?_ _ rfl
    exact (HB1.out.setCell hwb _).setCell hwb _
end Go.Proofs.Ytpnmedmghncpiaa.Encode
