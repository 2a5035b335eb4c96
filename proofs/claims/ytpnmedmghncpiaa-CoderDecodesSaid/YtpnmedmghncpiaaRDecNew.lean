import Derived.Test.YtpnmedmghncpiaaPCoderShortx2
import Derived.Test.YtpnmedmghncpiaaAid
import Derived.Test.YtpnmedmghncpiaaHandAid
import Derived.Test.YtpnmedmghncpiaaCod1
import Derived.Test.YtpnmedmghncpiaaCod2
import Derived.Test.YtpnmedmghncpiaaCod3
import Derived.Test.YtpnmedmghncpiaaMod
import Derived.Test.YtpnmedmghncpiaaEnc
import Derived.Test.YtpnmedmghncpiaaMods
import Derived.Test.YtpnmedmghncpiaaEncAt
import Derived.Test.YtpnmedmghncpiaaPut
import Derived.Test.YtpnmedmghncpiaaEnd
import Derived.Test.YtpnmedmghncpiaaEncode
import Derived.Test.YtpnmedmghncpiaaRefAt
import Derived.Test.YtpnmedmghncpiaaDec
import Derived.Test.YtpnmedmghncpiaaGet
import Derived.Test.YtpnmedmghncpiaaDecNew
import Derived.Test.YtpnmedmghncpiaaRDec
-- needs: Aid HandAid Cod1 Cod2 Cod3 Mod Enc Mods EncAt Put End Encode RefAt Dec Get DecNew RDec
-- print: incunableref02_Whole
namespace Go.Proofs.Ytpnmedmghncpiaa.RDecNew
open Go Go.RowKit Go.Proofs.YtpnmedmghncpiaaW.PrintWords Go.Proofs.YtpnmedmghncpiaaW.PrintLast Go.Proofs.YtpnmedmghncpiaaW.PrintMore Go.Proofs.Ytpnmedmghncpiaa.Aid Go.Proofs.Ytpnmedmghncpiaa.HandAid Go.Proofs.Ytpnmedmghncpiaa.Cod1 Go.Proofs.Ytpnmedmghncpiaa.Cod2 Go.Proofs.Ytpnmedmghncpiaa.Cod3 Go.Proofs.Ytpnmedmghncpiaa.Mod Go.Proofs.Ytpnmedmghncpiaa.Enc Go.Proofs.Ytpnmedmghncpiaa.Mods Go.Proofs.Ytpnmedmghncpiaa.EncAt Go.Proofs.Ytpnmedmghncpiaa.Put Go.Proofs.Ytpnmedmghncpiaa.End Go.Proofs.Ytpnmedmghncpiaa.Encode Go.Proofs.Ytpnmedmghncpiaa.RefAt Go.Proofs.Ytpnmedmghncpiaa.Dec Go.Proofs.Ytpnmedmghncpiaa.Get Go.Proofs.Ytpnmedmghncpiaa.DecNew Go.Proofs.Ytpnmedmghncpiaa.RDec Go.Proofs.Ytpnmedmghncpiaa.PCoderShort
set_option linter.unusedVariables false
set_option linter.unusedSimpArgs false
attribute [local go_sem low] max2_int
attribute [local go_sem] min2_int max_two min_two
theorem max_sub4 (n : Nat) : Builtin.max2 (.int .i64 0) (.int .i64 (4 - (n : Int))) = pure (.int .i64 ((4 - n : Nat) : Int)) := by
  rw [max2_int]
  congr 2
  split <;> omega
attribute [local go_sem high] max_sub4
theorem shV_small {code : List Int} (hb : Bytes code) (k : Nat) (hk : k < 4) : shV code k 0 0 < 16777216 := by
  have h0 := byteOf_range hb 0
  have h1 := byteOf_range hb 1
  have h2 := byteOf_range hb 2
  match k, hk with
  | 0, _ => simp only [shV]; omega
  | 1, _ => simp only [shV, Nat.zero_add, Nat.reduceAdd]; omega
  | 2, _ => simp only [shV, Nat.zero_add, Nat.reduceAdd]; omega
  | 3, _ => simp only [shV, Nat.zero_add, Nat.reduceAdd]; omega
/-- The reference's decoder in memory. -/
def RDecAt (W : World) (S : Nat → Prop) (g : Nat) (s : DS) : Prop := ∃ A c vc, RDecRow W S g s.kind A c s.st s.low s.high vc s.code s.a s.value ((s.a - s.code.length : Nat) : Int) s.ended
theorem RDecAt.kept {W W' : World} {S S' : Nat → Prop} {g : Nat} {s : DS} (h : RDecAt W S g s) (hk : Mods W W' S') (hne : ∀ k, S k → ¬ S' k) : RDecAt W' S g s := by
  obtain ⟨A, c, vo, h⟩ := h
  exact ⟨A, c, vo, h.kept hk hne⟩
theorem RDecAt.below {W W' : World} {S : Nat → Prop} {g : Nat} {s : DS} (h : RDecAt W S g s) (hb : Below W.heap.size W W') : RDecAt W' S g s := by
  obtain ⟨A, c, vo, h⟩ := h
  exact ⟨A, c, vo, h.below hb⟩
theorem RDecAt.mono {W : World} {S S' : Nat → Prop} {g : Nat} {s : DS} (h : RDecAt W S g s) (hs : ∀ k, S k → S' k) : RDecAt W S' g s := by
  obtain ⟨A, c, vo, h⟩ := h
  exact ⟨A, c, vo, h.mono hs⟩
theorem rget_end (w : World) (g : Nat) (i : Nat) (n : Nat) (A : Option Addr) (c : Nat) (hi : i < n) (h1 : w.cell? ⟨g, 1, none⟩ = some (.slice A n c)) (h3 : w.cell? ⟨g, 8, none⟩ = some (.bool true)) :
    Calls Try.prog 39 #[.pointer (some ⟨g, 0, none⟩), .int .i64 i] w fun e w' => e = .returned (.tuple #[.int .i64 0, .int .i64 6]) ∧ w = w' := by
  have hi1 : (0 : Int) ≤ (i : Int) := by omega
  have hi2 : (i : Int) < (n : Int) := by omega
  go_enter Try.func39, Try.ntmps39
  go_wp2
  go_ret2
  exact ⟨rfl, rfl⟩
theorem rget_bad (w : World) (g : Nat) (i : Int) (n : Nat) (A : Option Addr) (c : Nat) (hi : ¬ (0 ≤ i ∧ i < n)) (h1 : w.cell? ⟨g, 1, none⟩ = some (.slice A n c)) :
    Calls Try.prog 39 #[.pointer (some ⟨g, 0, none⟩), .int .i64 i] w fun e w' => e = .returned (.tuple #[.int .i64 0, .int .i64 2]) ∧ w = w' := by
  have hi' : i < 0 ∨ (i ≥ n ∧ ¬ i < 0) := by omega
  clear hi
  rcases hi' with h | ⟨h, h0⟩
  · go_enter Try.func39, Try.ntmps39
    go_wp2
    go_ret2
    exact ⟨rfl, rfl⟩
  · go_enter Try.func39, Try.ntmps39
    go_wp2
    go_ret2
    exact ⟨rfl, rfl⟩
theorem rget_calls (w : World) (S : Nat → Prop) (g : Nat) (s : DS) (i : Int) (hE : RDecAt w S g s) (hS : ∀ k, S k → k < w.heap.size) (hok : s.ok) :
    Calls Try.prog 39 #[.pointer (some ⟨g, 0, none⟩), .int .i64 i] w fun e w' => e = .returned (.tuple #[.int .i64 (s.getI i).2.1, .int .i64 (s.getI i).2.2]) ∧ RDecAt w' S g (s.getI i).1 ∧ Mods w w' S := by
  obtain ⟨A, c, vo, hR⟩ := hE
  unfold DS.getI
  by_cases hi : 0 ≤ i ∧ i < s.st.length
  · rw [if_pos hi]
    obtain ⟨j, rfl⟩ : ∃ j : Nat, i = (j : Int) := ⟨i.toNat, by omega⟩
    rw [Int.toNat_natCast]
    have hj : j < s.st.length := by omega
    by_cases he : s.ended = true
    · rw [if_pos he]
      have h40 := hR.c8
      rw [he] at h40
      refine (rget_end w g j s.st.length A c hj hR.c1 h40).mono ?_
      rintro e w' ⟨rfl, rfl⟩
      exact ⟨rfl, ⟨A, c, vo, hR⟩, Mods.refl _ _⟩
    · rw [if_neg he]
      have hef : s.ended = false := by simpa using he
      obtain ⟨b, rfl, _⟩ := hR.cell hj
      have hm := DS.mid_ hok hj
      have hc := DS.cut_ hok hj
      have hl := hok.l
      have hh := hok.h
      have hI : PutInv [] (cutL s.low (s.mid j) (s.bit j)) (cutH s.high (s.mid j) (s.bit j)) 4 (cutL s.low (s.mid j) (s.bit j)) (cutH s.high (s.mid j) (s.bit j)) [] := ⟨hc.1, hc.2.1, hc.2.2, by rw [show (256 : Int) ^ 4 = 4294967296 from rfl]; omega, rfl, rfl, Nat.le_refl _⟩
      have key : Calls Try.prog 39 #[.pointer (some ⟨g, 0, none⟩), .int .i64 j] w (RGetPost w S g s.kind b c s.st s.low s.high (s.mid j) vo s.code s.a s.value j (s.bit j)) := by
        rw [hef] at hR
        by_cases hv : s.value ≤ s.mid j
        · have hb : s.bit j = 1 := if_pos hv
          rw [hb] at hI ⊢
          exact rget_row1 w S g s.kind b c s.st s.low s.high (s.mid j) vo s.code s.a s.value j hR hS hj hok.m.2.1 (DS.at_ hok hj) hl hok.lh hh rfl (by omega) (by omega) hI hok.v0 hok.v1 hok.by_ hok.len hok.be hv
        · have hb : s.bit j = 0 := if_neg hv
          rw [hb] at hI ⊢
          exact rget_row0 w S g s.kind b c s.st s.low s.high (s.mid j) vo s.code s.a s.value j hR hS hj hok.m.2.1 (DS.at_ hok hj) hl hok.lh hh rfl (by omega) (by omega) hI hok.v0 hok.v1 hok.by_ hok.len hok.be hv
      refine key.mono ?_
      rintro e w' ⟨⟨l, h, n, hn, hq⟩, hk⟩
      have hn' : s.norm j = (n, l, h) := hn
      rw [hn']
      rcases hq with ⟨hb, rfl, hD⟩ | ⟨hb, rfl, hD⟩
      · rw [if_pos hb]
        exact ⟨rfl, ⟨_, c, vo, hD⟩, hk⟩
      · rw [if_neg hb]
        refine ⟨rfl, ⟨some ⟨b, 0, none⟩, c, vo, ?_⟩, hk⟩
        have e1 : s.next j = ⟨s.kind, s.st.set j (after s.kind (rd s.st j) (s.bit j)), l, h, s.code, s.a + n.length, shV s.code n.length s.value s.a, false⟩ := by
          unfold DS.next
          rw [hn']
        rw [e1]
        exact hD
  · rw [if_neg hi]
    refine (rget_bad w g i s.st.length A c hi hR.c1).mono ?_
    rintro e w' ⟨rfl, rfl⟩
    exact ⟨rfl, ⟨A, c, vo, hR⟩, Mods.refl _ _⟩
theorem rbeyond_calls (w : World) (S : Nat → Prop) (g : Nat) (s : DS) (hE : RDecAt w S g s) :
    Calls Try.prog 40 #[.pointer (some ⟨g, 0, none⟩)] w fun e w' => e = .returned (.int .i64 ((s.a - s.code.length : Nat) : Int)) ∧ w = w' := by
  obtain ⟨A, c, vo, hR⟩ := hE
  have k7 := hR.c7
  go_enter Try.func40, Try.ntmps40
  go_wp2
  go_ret
  exact ⟨rfl, rfl⟩
theorem rnewdec_bad (A : Option Addr) (c : Nat) (kind : Int) (st : List Int) (vc : Value) (w : World) (hC : Kd.C (Kd.int .i64) w A st.length st) (hc : st.length ≤ c) (hm : ¬ okModel kind st) :
    Calls Try.prog 38 #[.agg #[.int .i64 kind, .slice A st.length c], vc] w fun e w' => e = .returned (.tuple #[.pointer none, .int .i64 10]) ∧ Below w.heap.size w w' := by
  have HC := Aside0.mk hC
  have hv := ref_valid_calls A c kind st
  rw [decide_eq_false hm] at hv
  have HV := Aside0.mk hv
  clear hC hv
  have hb0 := Aside0.mk (below_alloc (Below.refl w.heap.size w) (.cells #[.int .i64 kind, .slice A st.length c] 24))
  go_enter Try.func38, Try.ntmps38
  go_wp2_with (go_at_call 16; refine (HV.out _ (Kd.C_below HC.out hb0.out) hc).mono ?_; rintro e w1 ⟨rfl, hB⟩; have HB := Aside0.mk (below_then hb0.out hb0.out.size hB); clear hB)
  go_ret2
  exact ⟨rfl, HB.out⟩
theorem dec9_new (kind : Int) (v vc : Value) (be : Int) : dec9 kind v 0 4294967295 vc 4 0 be false = #[.int .i64 kind, v, .int .u64 0, .int .u64 4294967295, vc, .int .i64 4, .int .u64 0, .int .i64 be, .bool false] := rfl
def RNewDecPost (w : World) (kind : Int) (st code : List Int) (e : Ending) (w' : World) : Prop := ∃ g, e = .returned (.tuple #[.pointer (some ⟨g, 0, none⟩), .int .i64 0]) ∧ RDecAt w' (Since w.heap.size w') g (newDS kind st code) ∧ Below w.heap.size w w'
set_option maxHeartbeats 4000000 in
set_option maxRecDepth 100000 in
theorem rnew_dec (A : Option Addr) (c : Nat) (kind : Int) (st : List Int) (Ac : Option Addr) (cc : Nat) (code : List Int) (w : World) (hC : Kd.C (Kd.int .i64) w A st.length st) (hc : st.length ≤ c) (hm : okModel kind st) (hCc : Kd.C (Kd.int .u8) w Ac code.length code) (hcc : code.length ≤ cc) (hby : Bytes code) (hlen : code.length ≤ 1099511627776) :
    Calls Try.prog 38 #[.agg #[.int .i64 kind, .slice A st.length c], .slice Ac code.length cc] w (RNewDecPost w kind st code) := by
  have HC := Aside0.mk hC
  have HCc := Aside0.mk hCc
  have hv := ref_valid_calls A c kind st
  rw [decide_eq_true hm] at hv
  have HV := Aside0.mk hv
  have HM := Aside0.mk hm
  have HBY := Aside0.mk hby
  have hl := hm.2.1
  have hu := Try.underlying24
  clear hC hv hm hCc hby
  have hb0 := Aside0.mk (below_alloc (Below.refl w.heap.size w) (.cells #[.int .i64 kind, .slice A st.length c] 24))
  have hq0 : Aside0 ((w.alloc (.cells #[.int .i64 kind, .slice A st.length c] 24)).heap[w.heap.size]? = some (.cells #[.int .i64 kind, .slice A st.length c] 24 (0, 0))) := ⟨heap_new _ _⟩
  go_enter Try.func38, Try.ntmps38
  go_wp2_with (first
    | (go_at_call 16; refine (HV.out _ (Kd.C_below HC.out hb0.out) hc).mono ?_; rintro e w1 ⟨rfl, hB⟩; have HB := Aside0.mk (below_then hb0.out hb0.out.size hB); have hq1 : Aside0 (w1.heap[w.heap.size]? = some (.cells #[.int .i64 kind, .slice A st.length c] 24 (0, 0))) := ⟨(hB.block _ (blk_lt hq0.out)).trans hq0.out⟩; have k0 : w1.cell? ⟨w.heap.size, 0, none⟩ = some (.int .i64 kind) := (blk_cell hq1.out 0).trans rfl; have k1 : w1.cell? ⟨w.heap.size, 1, none⟩ = some (.slice A st.length c) := (blk_cell hq1.out 1).trans rfl; clear hB)
    | (go_at_call 18; refine (copy_calls A c kind st _ (Kd.C_below HC.out HB.out) hc (by omega)).mono ?_; rintro e w2 ⟨A2, c2, rfl, hR, hB⟩; have HB2 := Aside0.mk (below_then HB.out HB.out.size hB); have HR := Aside0.mk (Kd.R_lower hR HB.out.size); clear hR hB)
    | (go_at_call 48; refine (incunableref02_Whole.calls 0 4294967295 _ rfl).mono ?_; rintro e w3 ⟨rfl, hB⟩; have HB3 := Aside0.mk (below_then HB2.out HB2.out.size hB); have HR3 := Aside0.mk (Kd.R_alloc (Kd.R_below HR.out hB) (.cells #[] 5)); have HR1 : Aside0 (Kd.R (Kd.int .u8) 5 (w3.alloc (.cells #[] 5)) w.heap.size (fun _ => True) (.slice (some ⟨w3.heap.size, 0, none⟩) 0 0) []) := ⟨Kd.R_of_own (enc := Value.int .u8) (World.ownsRow_lit w3 #[] 0 HB3.out.size (by decide) rfl) (fun _ _ => trivial)⟩; have HB3' := Aside0.mk (below_alloc HB3.out (.cells #[] 5)); have HCo := Aside0.mk (Kd.C_below HCc.out HB3'.out); clear hB)
    | (at_builtin; refine Kd.R_append_rows (Kd.int .u8) (w0 := w) w.heap.size (by rfl) (.tmp 14) (.tmp 15) 34 5 (.int .u8 0) 1 rfl Try.underlying34 infoU8 rfl (by decide) (by omega) (.slice (some ⟨w3.heap.size, 0, none⟩) 0 0) [] code _ _ _ (fun _ => True) (fun _ => False) rfl rfl HR1.out HCo.out (fun _ _ h => h) (fun _ h => h.elim) (fun _ _ => trivial) HB3'.out HB3'.out.size (by simp only [List.length_nil]; omega) ?_; intro v4 w4 hR4 hB4 hg4 hat4; rw [List.nil_append] at hR4; obtain ⟨A3, c3, hv3⟩ := Kd.R_slice hR4; subst hv3; have HS4 := Aside0.mk (Kd.R_over HR3.out HR1.out (by decide) hg4); have HR4 := Aside0.mk hR4; have HB4 := Aside0.mk hB4; clear hR4 hB4 hg4 hat4))
  clear HR1 HR HR3 HCo HB3' HV
  rw [← dec9_new]
  have HR0 := Aside0.mk (heap_new w4 (.cells (dec9 kind (.slice A2 st.length c2) 0 4294967295 (.slice A3 code.length c3) 4 0 ((4 - code.length : Nat) : Int) false) 98))
  have HB5 := Aside0.mk (below_alloc HB4.out (.cells (dec9 kind (.slice A2 st.length c2) 0 4294967295 (.slice A3 code.length c3) 4 0 ((4 - code.length : Nat) : Int) false) 98))
  have HRS := Aside0.mk (Kd.R_alloc HS4.out (.cells (dec9 kind (.slice A2 st.length c2) 0 4294967295 (.slice A3 code.length c3) 4 0 ((4 - code.length : Nat) : Int) false) 98))
  have HRO := Aside0.mk (Kd.R_alloc HR4.out (.cells (dec9 kind (.slice A2 st.length c2) 0 4294967295 (.slice A3 code.length c3) 4 0 ((4 - code.length : Nat) : Int) false) 98))
  generalize w4.alloc (.cells (dec9 kind (.slice A2 st.length c2) 0 4294967295 (.slice A3 code.length c3) 4 0 ((4 - code.length : Nat) : Int) false) 98) = w5 at HR0 HB5 HRS HRO ⊢
  have HQ3 := Aside0.mk HB4.out.size
  obtain ⟨q, hq⟩ : ∃ q, w4.heap.size = q := ⟨_, rfl⟩
  rw [hq] at HR0 HQ3 ⊢
  obtain ⟨S, hS⟩ : ∃ S : Nat → Prop, S = Since w.heap.size w5 := ⟨_, rfl⟩
  have HE0 : Aside0 (RDecRow w5 S q kind A2 c2 st 0 4294967295 (.slice A3 code.length c3) code 4 0 ((4 - code.length : Nat) : Int) false) := ⟨by
    subst hS
    exact ⟨HR0.out, Kd.R_lower (Kd.R_mono (Kd.R_bound HRS.out) fun k hk => ⟨hk.2.1, hk.2.2.1⟩) (Nat.zero_le _), Kd.R_lower (Kd.R_mono (Kd.R_bound HRO.out) fun k hk => ⟨hk.2.1, hk.2.2.1⟩) (Nat.zero_le _), ⟨HQ3.out, blk_lt HR0.out⟩⟩⟩
  have HS := Aside0.mk hS
  clear hS HR0 HRS HRO HS4 HR4 HB4 HB3 HB2 HB hq hq0 hq1 hb0 k0 k1
  go_loopw [7] (fun i wr => ∃ (k : Nat), k ≤ 4 ∧ i = .int .i64 k ∧ Aside0 (RDecRow wr S q kind A2 c2 st 0 4294967295 (.slice A3 code.length c3) code 4 (shV code k 0 0) ((4 - code.length : Nat) : Int) false) ∧ Aside0 (Mods w5 wr S)) (fun i _ => 5 - (intOf i).toNat)
  case atStart => exact ⟨0, by omega, rfl, HE0, ⟨Mods.refl _ _⟩⟩
  clear HE0
  case round =>
    obtain ⟨k, hk, rfl, HE, HK⟩ := hrel
    by_cases h4 : (k : Int) < 4
    · have hv0 := shV_range HBY.out k 0 0 (by omega) (by omega)
      have hv1 := shV_small HBY.out k (by omega)
      have hbr := byteOf_range HBY.out k
      go_wp2
      have HE := Aside0.mk HE.out.drew
      have HK := Aside0.mk HK.out.drew
      have p4 := HE.out.c4
      have p6 := HE.out.c6
      have f6 := HE.out.fz 6
      refine start_ (n := 16) (S := fun w' => w'.cell? ⟨q, 4, none⟩ = some (.slice A3 code.length c3) ∧ w'.cell? ⟨q, 6, none⟩ = some (.int .u64 (shV code k 0 0))) (ds := [15]) #[false, false, false, false, false, false, false, false, false, false, false, false, false, false, false, false] (by kernel_rfl) rfl rfl ⟨p4, p6⟩ (fun hHeld => ?_)
      refine pure_ (i := 0) (N := some 27) (v := ?_) (a' := ?_) #[true, false, false, false, false, false, false, false, false, false, false, false, false, false, false, false] rfl rfl (by kernel_rfl) (fun _ _ _ h => h) (Or.inl ⟨by rfl, ?_⟩) ?_ ?_
      rotate_left
      · intro w'
        go_simp
        with_reducible rfl
      rotate_left
      · simp only [Act.put, List.setIfInBounds_toArray, List.set_cons_zero, List.set_cons_succ, i64_w, i32_w]
        rfl
      refine pure_ (i := 1) (N := some 28) (v := ?_) (a' := ?_) #[true, true, false, false, false, false, false, false, false, false, false, false, false, false, false, false] rfl rfl (by kernel_rfl) (fun _ _ _ h => h) (Or.inl ⟨by rfl, ?_⟩) ?_ ?_
      rotate_left
      · intro w'
        go_simp
        with_reducible rfl
      rotate_left
      · simp only [Act.put, List.setIfInBounds_toArray, List.set_cons_zero, List.set_cons_succ, i64_w, i32_w]
        rfl
      refine pure_ (i := 2) (N := some 29) (v := ?_) (a' := ?_) #[true, true, true, false, false, false, false, false, false, false, false, false, false, false, false, false] rfl rfl (by kernel_rfl) (fun _ _ _ h => h) (Or.inl ⟨by rfl, ?_⟩) ?_ ?_
      rotate_left
      · intro w'
        go_simp
        with_reducible rfl
      rotate_left
      · simp only [Act.put, List.setIfInBounds_toArray, List.set_cons_zero, List.set_cons_succ, i64_w, i32_w]
        rfl
      refine pure_ (i := 3) (N := some 30) (v := ?_) (a' := ?_) #[true, true, true, true, false, false, false, false, false, false, false, false, false, false, false, false] rfl rfl (by kernel_rfl) (fun _ _ _ h => h) (Or.inl ⟨by rfl, ?_⟩) ?_ ?_
      rotate_left
      · intro w'
        go_simp
        with_reducible rfl
      rotate_left
      · simp only [Act.put, List.setIfInBounds_toArray, List.set_cons_zero, List.set_cons_succ, i64_w, i32_w]
        rfl
      refine pure_ (i := 6) (N := some 33) (v := ?_) (a' := ?_) #[true, true, true, true, false, false, true, false, false, false, false, false, false, false, false, false] rfl rfl (by kernel_rfl) (fun _ _ _ h => h) (Or.inl ⟨by rfl, ?_⟩) ?_ ?_
      rotate_left
      · intro w'
        go_simp
        with_reducible rfl
      rotate_left
      · simp only [Act.put, List.setIfInBounds_toArray, List.set_cons_zero, List.set_cons_succ, i64_w, i32_w]
        rfl
      refine pure_ (i := 7) (N := some 34) (v := ?_) (a' := ?_) #[true, true, true, true, false, false, true, true, false, false, false, false, false, false, false, false] rfl rfl (by kernel_rfl) (fun _ _ _ h => h) (Or.inl ⟨by rfl, ?_⟩) ?_ ?_
      rotate_left
      · intro w'
        go_simp
        with_reducible rfl
      rotate_left
      · simp only [Act.put, List.setIfInBounds_toArray, List.set_cons_zero, List.set_cons_succ, i64_w, i32_w]
        rfl
      refine pure_ (i := 8) (N := some 35) (v := ?_) (a' := ?_) #[true, true, true, true, false, false, true, true, true, false, false, false, false, false, false, false] rfl rfl (by kernel_rfl) (fun _ _ _ h => h) (Or.inl ⟨by rfl, ?_⟩) ?_ ?_
      rotate_left
      · intro w'
        go_simp
        with_reducible rfl
      rotate_left
      · simp only [Act.put, List.setIfInBounds_toArray, List.set_cons_zero, List.set_cons_succ, i64_w, i32_w]
        rfl
      refine pure_ (i := 10) (N := some 37) (v := ?_) (a' := ?_) #[true, true, true, true, false, false, true, true, true, false, true, false, false, false, false, false] rfl rfl (by kernel_rfl) (fun _ _ _ h => h) (Or.inl ⟨by rfl, ?_⟩) ?_ ?_
      rotate_left
      · intro w'
        go_simp
        with_reducible rfl
      rotate_left
      · simp only [Act.put, List.setIfInBounds_toArray, List.set_cons_zero, List.set_cons_succ, i64_w, i32_w]
        rfl
      refine take_ (i := 4) (N := some 31) (v := ?_) (a' := ?_) #[true, true, true, true, true, false, true, true, true, false, true, false, false, false, false, false] rfl rfl (by kernel_rfl) (fun _ _ _ h => h) (Or.inl ⟨by rfl, ?_⟩) hHeld ?_ ?_
      rotate_left
      · rintro w' ⟨s0, s1⟩
        go_simp
        with_reducible rfl
      rotate_left
      · simp only [Act.put, List.setIfInBounds_toArray, List.set_cons_zero, List.set_cons_succ, i64_w, i32_w]
        rfl
      refine pure_ (i := 5) (N := some 32) (v := ?_) (a' := ?_) #[true, true, true, true, true, true, true, true, true, false, true, false, false, false, false, false] rfl rfl (by kernel_rfl) (fun _ _ _ h => h) (Or.inl ⟨by rfl, ?_⟩) ?_ ?_
      rotate_left
      · intro w'
        go_simp
        with_reducible rfl
      rotate_left
      · simp only [Act.put, List.setIfInBounds_toArray, List.set_cons_zero, List.set_cons_succ, i64_w, i32_w]
        rfl
      refine take_ (i := 9) (N := some 36) (v := ?_) (a' := ?_) #[true, true, true, true, true, true, true, true, true, true, true, false, false, false, false, false] rfl rfl (by kernel_rfl) (fun _ _ _ h => h) (Or.inl ⟨by rfl, ?_⟩) hHeld ?_ ?_
      rotate_left
      · rintro w' ⟨s0, s1⟩
        go_simp
        with_reducible rfl
      rotate_left
      · simp only [Act.put, List.setIfInBounds_toArray, List.set_cons_zero, List.set_cons_succ, i64_w, i32_w]
        rfl
      refine one_ (i := 11) (N := some 38) #[true, true, true, true, true, true, true, true, true, true, true, true, false, false, false, false] rfl rfl (by kernel_rfl) (by decide) (fun K hK => ?_)
      refine goes_ Try.func64 (by kernel_rfl) rfl #[.slice A3 code.length c3, .int .i64 k] (by rfl) rfl rfl (by simp only [List.map_toArray, List.map_cons, List.map_nil]; rfl) ?_
      with_reducible refine (byte_calls A3 c3 code k _ (Kd.R_reads' HE.out.o).2.2 HBY.out).mono ?_
      rintro e w8 ⟨rfl, rfl⟩
      refine ⟨_, rfl, ?_⟩
      refine hK.out _ _ ⟨p4, p6⟩ (fun hHeld => ?_)
      clear hK K
      refine norm_ (a' := ?_) ?_ ?_
      rotate_left
      · show Act.put _ (some 38) _ = _
        simp only [Act.put, List.setIfInBounds_toArray, List.set_cons_zero, List.set_cons_succ, i64_w, i32_w]
        rfl
      refine pure_ (i := 12) (N := some 39) (v := ?_) (a' := ?_) #[true, true, true, true, true, true, true, true, true, true, true, true, true, false, false, false] rfl rfl (by kernel_rfl) (fun _ _ _ h => h) (Or.inl ⟨by rfl, ?_⟩) ?_ ?_
      rotate_left
      · intro w'
        go_simp
        with_reducible rfl
      rotate_left
      · simp only [Act.put, List.setIfInBounds_toArray, List.set_cons_zero, List.set_cons_succ, i64_w, i32_w]
        rfl
      refine pure_ (i := 13) (N := some 40) (v := ?_) (a' := ?_) #[true, true, true, true, true, true, true, true, true, true, true, true, true, true, false, false] rfl rfl (by kernel_rfl) (fun _ _ _ h => h) (Or.inl ⟨by rfl, ?_⟩) ?_ ?_
      rotate_left
      · intro w'
        go_simp
        with_reducible rfl
      rotate_left
      · simp only [Act.put, List.setIfInBounds_toArray, List.set_cons_zero, List.set_cons_succ, i64_w, i32_w]
        rfl
      refine pure_ (i := 14) (N := some 41) (v := ?_) (a' := ?_) #[true, true, true, true, true, true, true, true, true, true, true, true, true, true, true, false] rfl rfl (by kernel_rfl) (fun _ _ _ h => h) (Or.inl ⟨by rfl, ?_⟩) ?_ ?_
      rotate_left
      · intro w'
        go_simp
        with_reducible rfl
      rotate_left
      · simp only [Act.put, List.setIfInBounds_toArray, List.set_cons_zero, List.set_cons_succ, i64_w, i32_w]
        rfl
      refine last_ (i := 15) (N := none) #[true, true, true, true, true, true, true, true, true, true, true, true, true, true, true, true] rfl rfl (by kernel_rfl) (by decide) (fun K hK => ?_)
      refine skip_ (w1 := ?_) (by rfl) rfl ?_ ?_
      rotate_left
      · go_simp
        rfl
      refine hK.out _ _ ?_
      clear hK K
      refine done_ (by kernel_rfl) ?_

      go_wp2
      go_roundw
      case measure => simp only [intOf]; omega
      case rel =>
        refine ⟨k + 1, by omega, rfl, ⟨?_⟩, ⟨HK.out.setCell (p := ⟨q, 6, none⟩) (.inl HE.out.g) _⟩⟩
        have e9 := shV_succ code k 0 0
        rw [Nat.zero_add, Int.emod_eq_of_lt hv0.1 hv1] at e9
        rw [e9]
        exact HE.out.put 6 _ rfl
    · have e4 : k = 4 := by omega
      subst e4
      go_wp2
      go_ret2
      have hb := below_mods HB5.out HK.out (fun k hk => by rw [HS.out] at hk; exact hk.1) HB5.out.size
      refine ⟨q, rfl, ⟨A2, c2, .slice A3 code.length c3, HE.out.mono fun k hk => ?_⟩, hb⟩
      rw [HS.out] at hk
      exact ⟨hk.1, Nat.lt_of_lt_of_le hk.2 HK.out.size⟩
set_option maxRecDepth 100000 in
theorem rdec_model_calls (w : World) (S : Nat → Prop) (g : Nat) (s : DS) (hE : RDecAt w S g s) (hok : s.ok) :
    Calls Try.prog 41 #[.pointer (some ⟨g, 0, none⟩)] w (MPost w s.kind s.st) := by
  obtain ⟨A, c, vo, hR⟩ := hE
  have HE := Aside0.mk (hR.below (below_alloc (Below.refl _ _) (.cells #[.int .i64 0, .slice none 0 0] 24)))
  have HB := Aside0.mk (below_alloc (Below.refl w.heap.size w) (.cells #[.int .i64 0, .slice none 0 0] 24))
  have HZ := Aside0.mk (heap_new w (.cells #[.int .i64 0, .slice none 0 0] 24))
  have hu := Try.underlying24
  have k0 := HE.out.c0
  have k1 := HE.out.c1
  have hl := hok.m.2.1
  obtain ⟨hn, hc, hC⟩ := Kd.R_reads' HE.out.s
  have HC := Aside0.mk hC
  obtain ⟨b2, hb2⟩ : ∃ b2, w.heap.size = b2 := ⟨_, rfl⟩
  have HSZ := Aside0.mk hb2
  rw [hb2] at HZ
  clear hR hn hC
  go_enter Try.func41, Try.ntmps41
  go_wp2_with (go_at_call 18; refine (copy_calls A c s.kind s.st _ HC.out hc (by omega)).mono ?_; rintro e w4 ⟨A4, c4, rfl, hR4, hB4⟩; have HR4 := Aside0.mk (Kd.R_lower hR4 HB.out.size); have HB4 := Aside0.mk (below_then HB.out HB.out.size hB4); have HZ4 := Aside0.mk (blk_below HZ.out hB4); have z0 : w4.cell? ⟨b2, 0, none⟩ = some (.int .i64 0) := (blk_cell HZ4.out 0).trans rfl; have z1 : w4.cell? ⟨b2, 1, none⟩ = some (.slice none 0 0) := (blk_cell HZ4.out 1).trans rfl; have zf0 := blk_frozen HZ4.out 0; have zf1 := blk_frozen HZ4.out 1; clear hR4 hB4)
  have hz2 : (w4.setCell ⟨b2, 0, none⟩ (.int .i64 s.kind)).heap[b2]? = some (.cells #[.int .i64 s.kind, .slice none 0 0] 24 (0, 0)) := blk_put (cs := #[.int .i64 0, .slice none 0 0]) HZ4.out 0 _ rfl
  refine bodyPost_ret (results_cell_row rfl _ _ b2 24 #[.int .i64 s.kind, .slice A4 s.st.length c4] (0, 0) _ rfl (blk_put (cs := #[.int .i64 s.kind, .slice none 0 0]) hz2 1 _ rfl) Try.underlying24 rfl (by kernel_rfl)) rfl ?_
  have hwb : w.heap.size ≤ b2 := by rw [HSZ.out]; exact Nat.le_refl _
  exact ⟨A4, c4, rfl, Kd.R_set (Kd.R_set HR4.out HZ4.out (by decide) _ _) hz2 (by decide) _ _, (HB4.out.setCell hwb _).setCell hwb _⟩
end Go.Proofs.Ytpnmedmghncpiaa.RDecNew
