import Derived.Test.YtpnmedmghncpiaaAid
import Derived.Test.YtpnmedmghncpiaaHandAid
import Derived.Test.YtpnmedmghncpiaaCod1
import Derived.Test.YtpnmedmghncpiaaCod2
import Derived.Test.YtpnmedmghncpiaaCod3
import Derived.Test.YtpnmedmghncpiaaMod
import Derived.Test.YtpnmedmghncpiaaEnc
import Derived.Test.YtpnmedmghncpiaaMods
import Derived.Test.YtpnmedmghncpiaaEncAt
import Derived.Test.YtpnmedmghncpiaaPut
import Derived.Test.YtpnmedmghncpiaaEnd
import Derived.Test.YtpnmedmghncpiaaEncode
import Derived.Test.YtpnmedmghncpiaaDec
import Derived.Test.YtpnmedmghncpiaaGet
-- needs: Aid HandAid Cod1 Cod2 Cod3 Mod Enc Mods EncAt Put End Encode Dec Get
namespace Go.Proofs.Ytpnmedmghncpiaa.DecNew
open Go Go.RowKit Go.Proofs.YtpnmedmghncpiaaW.PrintWords Go.Proofs.YtpnmedmghncpiaaW.PrintLast Go.Proofs.YtpnmedmghncpiaaW.PrintMore Go.Proofs.Ytpnmedmghncpiaa.Aid Go.Proofs.Ytpnmedmghncpiaa.HandAid Go.Proofs.Ytpnmedmghncpiaa.Cod1 Go.Proofs.Ytpnmedmghncpiaa.Cod2 Go.Proofs.Ytpnmedmghncpiaa.Cod3 Go.Proofs.Ytpnmedmghncpiaa.Mod Go.Proofs.Ytpnmedmghncpiaa.Enc Go.Proofs.Ytpnmedmghncpiaa.Mods Go.Proofs.Ytpnmedmghncpiaa.EncAt Go.Proofs.Ytpnmedmghncpiaa.Put Go.Proofs.Ytpnmedmghncpiaa.End Go.Proofs.Ytpnmedmghncpiaa.Encode Go.Proofs.Ytpnmedmghncpiaa.Dec Go.Proofs.Ytpnmedmghncpiaa.Get
set_option linter.unusedVariables false
set_option linter.unusedSimpArgs false
/-- A fresh decoder. -/
def newDS (kind : Int) (st code : List Int) : DS := ⟨kind, st, 0, 4294967295, code, 4, shV code 4 0 0, false⟩
theorem newDS_ok {kind : Int} {st code : List Int} (h : okModel kind st) (hb : Bytes code) (hl : code.length ≤ 1099511627776) : (newDS kind st code).ok := by
  have hv := shV_range hb 4 0 0 (by omega) (by omega)
  exact ⟨h, show (0 : Int) ≤ 0 by decide, show (0 : Int) ≤ 4294967295 by decide, show (4294967295 : Int) ≤ 4294967295 by decide, show (0 : Int) / 16777216 ≠ 4294967295 / 16777216 by decide, hv.1, hv.2, hb, hl, show 4 - code.length ≤ 4 by omega⟩
theorem newdec_bad (A : Option Addr) (c : Nat) (kind : Int) (st : List Int) (vc : Value) (w : World) (hC : Kd.C (Kd.int .i64) w A st.length st) (hc : st.length ≤ c) (hm : ¬ okModel kind st) :
    Calls Try.prog 37 #[.agg #[.int .i64 kind, .slice A st.length c], vc] w fun e w' => e = .returned (.tuple #[.pointer none, .int .i64 10]) ∧ Below w.heap.size w w' := by
  have HC := Aside0.mk hC
  have hv := valid_calls A c kind st
  rw [decide_eq_false hm] at hv
  have HV := Aside0.mk hv
  clear hC hv
  have hb0 := Aside0.mk (below_alloc (Below.refl w.heap.size w) (.cells #[.int .i64 kind, .slice A st.length c] 24))
  go_enter Try.func37, Try.ntmps37
  go_wp2_with (go_at_call 15; refine (HV.out _ (Kd.C_below HC.out hb0.out) hc).mono ?_; rintro e w1 ⟨rfl, hB⟩; have HB := Aside0.mk (below_then hb0.out hb0.out.size hB); clear hB)
  go_ret2
  exact ⟨rfl, HB.out⟩
theorem dec42_new (kind : Int) (v vc : Value) : dec42 kind v 0 4294967295 vc 0 0 0 false true = #[.int .i64 kind, v, .int .i64 2048, .int .i64 1792, .int .i64 1568, .int .i64 1372, .int .i64 1201, .int .i64 1051, .int .i64 920, .int .i64 805, .int .i64 705, .int .i64 617, .int .i64 540, .int .i64 473, .int .i64 414, .int .i64 363, .int .i64 318, .int .i64 279, .int .i64 245, .int .i64 215, .int .i64 189, .int .i64 166, .int .i64 146, .int .i64 128, .int .i64 112, .int .i64 98, .int .i64 86, .int .i64 76, .int .i64 67, .int .i64 59, .int .i64 52, .int .i64 46, .int .i64 41, .int .i64 36, .int .u64 0, .int .u64 4294967295, vc, .int .i64 0, .int .u64 0, .int .i64 0, .bool false, .bool true] := rfl
def NewDecPost (w : World) (kind : Int) (st code : List Int) (e : Ending) (w' : World) : Prop := ∃ g, e = .returned (.tuple #[.pointer (some ⟨g, 0, none⟩), .int .i64 0]) ∧ DecAt w' (Since w.heap.size w') g (newDS kind st code) ∧ Below w.heap.size w w'
set_option maxHeartbeats 4000000 in
set_option maxRecDepth 100000 in
theorem new_dec (A : Option Addr) (c : Nat) (kind : Int) (st : List Int) (Ac : Option Addr) (cc : Nat) (code : List Int) (w : World) (hC : Kd.C (Kd.int .i64) w A st.length st) (hc : st.length ≤ c) (hm : okModel kind st) (hCc : Kd.C (Kd.int .u8) w Ac code.length code) (hcc : code.length ≤ cc) (hby : Bytes code) (hlen : code.length ≤ 1099511627776) :
    Calls Try.prog 37 #[.agg #[.int .i64 kind, .slice A st.length c], .slice Ac code.length cc] w (NewDecPost w kind st code) := by
  have HC := Aside0.mk hC
  have HCc := Aside0.mk hCc
  have hv := valid_calls A c kind st
  rw [decide_eq_true hm] at hv
  have HV := Aside0.mk hv
  have HM := Aside0.mk hm
  have HBY := Aside0.mk hby
  have hl := hm.2.1
  clear hC hv hm hCc hby
  have hb0 := Aside0.mk (below_alloc (Below.refl w.heap.size w) (.cells #[.int .i64 kind, .slice A st.length c] 24))
  have hq0 : Aside0 ((w.alloc (.cells #[.int .i64 kind, .slice A st.length c] 24)).heap[w.heap.size]? = some (.cells #[.int .i64 kind, .slice A st.length c] 24 (0, 0))) := ⟨heap_new _ _⟩
  go_enter Try.func37, Try.ntmps37
  go_wp2_with (first
    | (go_at_call 15; refine (HV.out _ (Kd.C_below HC.out hb0.out) hc).mono ?_; rintro e w1 ⟨rfl, hB⟩; have HB := Aside0.mk (below_then hb0.out hb0.out.size hB); have hq1 : Aside0 (w1.heap[w.heap.size]? = some (.cells #[.int .i64 kind, .slice A st.length c] 24 (0, 0))) := ⟨(hB.block _ (blk_lt hq0.out)).trans hq0.out⟩; have k0 : w1.cell? ⟨w.heap.size, 0, none⟩ = some (.int .i64 kind) := (blk_cell hq1.out 0).trans rfl; have k1 : w1.cell? ⟨w.heap.size, 1, none⟩ = some (.slice A st.length c) := (blk_cell hq1.out 1).trans rfl; clear hB)
    | (go_at_call 47; refine (begin_calls A c kind st _ (Kd.C_below HC.out HB.out) hc (by omega)).mono ?_; rintro e w2 ⟨A2, c2, rfl, hR, hB⟩; have HB2 := Aside0.mk (below_then HB.out HB.out.size hB); have HR := Aside0.mk (Kd.R_alloc (Kd.R_lower hR HB.out.size) (.cells #[] 5)); have HR1 : Aside0 (Kd.R (Kd.int .u8) 5 (w2.alloc (.cells #[] 5)) w.heap.size (fun _ => True) (.slice (some ⟨w2.heap.size, 0, none⟩) 0 0) []) := ⟨Kd.R_of_own (enc := Value.int .u8) (World.ownsRow_lit w2 #[] 0 HB2.out.size (by decide) rfl) (fun _ _ => trivial)⟩; have HB2' := Aside0.mk (below_alloc HB2.out (.cells #[] 5)); have HCo := Aside0.mk (Kd.C_below HCc.out HB2'.out); clear hR hB; unfold iv36)
    | (at_builtin; refine Kd.R_append_rows (Kd.int .u8) (w0 := w) w.heap.size (by rfl) (.tmp 12) (.tmp 13) 34 5 (.int .u8 0) 1 rfl Try.underlying34 infoU8 rfl (by decide) (by omega) (.slice (some ⟨w2.heap.size, 0, none⟩) 0 0) [] code _ _ _ (fun _ => True) (fun _ => False) rfl rfl HR1.out HCo.out (fun _ _ h => h) (fun _ h => h.elim) (fun _ _ => trivial) HB2'.out HB2'.out.size (by simp only [List.length_nil]; omega) ?_; intro v3 w3 hR3 hB3 hg3 hat3; rw [List.nil_append] at hR3; obtain ⟨A3, c3, hv3⟩ := Kd.R_slice hR3; subst hv3; have HS3 := Aside0.mk (Kd.R_over HR.out HR1.out (by decide) hg3); have HR3 := Aside0.mk hR3; have HB3 := Aside0.mk hB3; clear hR3 hB3 hg3 hat3))
  clear HR1 HR HCo HB2' HV
  rw [← dec42_new]
  have HR0 := Aside0.mk (heap_new w3 (.cells (dec42 kind (.slice A2 st.length c2) 0 4294967295 (.slice A3 code.length c3) 0 0 0 false true) 68))
  have HB4 := Aside0.mk (below_alloc HB3.out (.cells (dec42 kind (.slice A2 st.length c2) 0 4294967295 (.slice A3 code.length c3) 0 0 0 false true) 68))
  have HRS := Aside0.mk (Kd.R_alloc HS3.out (.cells (dec42 kind (.slice A2 st.length c2) 0 4294967295 (.slice A3 code.length c3) 0 0 0 false true) 68))
  have HRO := Aside0.mk (Kd.R_alloc HR3.out (.cells (dec42 kind (.slice A2 st.length c2) 0 4294967295 (.slice A3 code.length c3) 0 0 0 false true) 68))
  generalize w3.alloc (.cells (dec42 kind (.slice A2 st.length c2) 0 4294967295 (.slice A3 code.length c3) 0 0 0 false true) 68) = w4 at HR0 HB4 HRS HRO ⊢
  have HQ3 := Aside0.mk HB3.out.size
  obtain ⟨q, hq⟩ : ∃ q, w3.heap.size = q := ⟨_, rfl⟩
  rw [hq] at HR0 HQ3 ⊢
  obtain ⟨S, hS⟩ : ∃ S : Nat → Prop, S = Since w.heap.size w4 := ⟨_, rfl⟩
  have HE0 : Aside0 (DecRow w4 S q kind A2 c2 st 0 4294967295 (.slice A3 code.length c3) code 0 0 false) := ⟨by
    subst hS
    refine ⟨?_, Kd.R_lower (Kd.R_mono (Kd.R_bound HRS.out) fun k hk => ⟨hk.2.1, hk.2.2.1⟩) (Nat.zero_le _), Kd.R_lower (Kd.R_mono (Kd.R_bound HRO.out) fun k hk => ⟨hk.2.1, hk.2.2.1⟩) (Nat.zero_le _), ⟨HQ3.out, blk_lt HR0.out⟩⟩
    rw [Nat.zero_sub]
    exact HR0.out⟩
  have HS := Aside0.mk hS
  clear hS HR0 HRS HRO HS3 HR3 HB3 HB2 HB hq hq0 hq1 hb0 k0 k1
  go_loopw [17] (fun i wr => ∃ (k : Nat), k ≤ 4 ∧ i = .int .i64 k ∧ Aside0 (DecRow wr S q kind A2 c2 st 0 4294967295 (.slice A3 code.length c3) code k (shV code k 0 0) false) ∧ Aside0 (Mods w4 wr S)) (fun i _ => 5 - (intOf i).toNat)
  case atStart => exact ⟨0, by omega, rfl, HE0, ⟨Mods.refl _ _⟩⟩
  clear HE0
  case round =>
    obtain ⟨k, hk, rfl, HE, HK⟩ := hrel
    by_cases h4 : (k : Int) < 4
    · have HV := Aside0.mk (shV_range HBY.out k 0 0 (by omega) (by omega))
      go_wp2_with (go_at_call 63; refine (shift_row _ S q kind _ c2 st _ _ _ code _ _ false HE.out HV.out.1 HV.out.2 HBY.out hlen (by omega)).mono ?_; rintro e w8 ⟨rfl, hE9, hK9⟩; have HE9 := Aside0.mk hE9; have HK9 := Aside0.mk (HK.out.then_ hK9 (fun _ h => .inl h)); clear hE9 hK9)
      go_roundw
      case measure => simp only [intOf]; omega
      case rel =>
        refine ⟨k + 1, by omega, rfl, ⟨?_⟩, HK9⟩
        have h9 := HE9.out
        have e9 := shV_succ code k 0 0
        rw [Nat.zero_add] at e9
        rw [e9]
        exact h9
    · have e4 : k = 4 := by omega
      subst e4
      go_wp2
      go_ret2
      have hb := below_mods HB4.out HK.out (fun k hk => by rw [HS.out] at hk; exact hk.1) HB4.out.size
      refine ⟨q, rfl, ⟨A2, c2, .slice A3 code.length c3, HE.out.mono fun k hk => ?_⟩, hb⟩
      rw [HS.out] at hk
      exact ⟨hk.1, Nat.lt_of_lt_of_le hk.2 HK.out.size⟩
def BeyondPost (s : DS) : Int := ((s.a - s.code.length : Nat) : Int)
theorem beyond_calls (w : World) (S : Nat → Prop) (g : Nat) (s : DS) (hE : DecAt w S g s) :
    Calls Try.prog 35 #[.pointer (some ⟨g, 0, none⟩)] w fun e w' => e = .returned (.int .i64 ((s.a - s.code.length : Nat) : Int)) ∧ w = w' := by
  obtain ⟨A, c, vo, hR⟩ := hE
  have h2 := hR.c41
  have k39 := hR.c39
  go_enter Try.func35, Try.ntmps35
  go_wp2_with (go_at_call 62; refine (dec_none _ _ _ h2).mono ?_; rintro e w' ⟨rfl, rfl⟩)
  go_ret
  exact ⟨rfl, rfl⟩
theorem beyond_nil (w : World) : Calls Try.prog 35 #[.pointer none] w fun e w' => e = .returned (.int .i64 0) ∧ w = w' := by
  go_enter Try.func35, Try.ntmps35
  go_wp2_with (go_at_call 62; refine (dec_none_nil _).mono ?_; rintro e w' ⟨rfl, rfl⟩)
  go_ret
  exact ⟨rfl, rfl⟩
set_option maxRecDepth 100000 in
theorem dec_model_calls (w : World) (S : Nat → Prop) (g : Nat) (s : DS) (hE : DecAt w S g s) (hok : s.ok) :
    Calls Try.prog 36 #[.pointer (some ⟨g, 0, none⟩)] w (MPost w s.kind s.st) := by
  obtain ⟨A, c, vo, hR⟩ := hE
  have HE := Aside0.mk (hR.below (below_alloc (Below.refl _ _) (.cells #[.int .i64 0, .slice none 0 0] 24)))
  have HB := Aside0.mk (below_alloc (Below.refl w.heap.size w) (.cells #[.int .i64 0, .slice none 0 0] 24))
  have HZ := Aside0.mk (heap_new w (.cells #[.int .i64 0, .slice none 0 0] 24))
  have hu := Try.underlying24
  have h2 := HE.out.c41
  have k0 := HE.out.iv.k
  have k1 := HE.out.iv.s
  have hl := hok.m.2.1
  obtain ⟨hn, hc, hC⟩ := Kd.R_reads' HE.out.s
  have HC := Aside0.mk hC
  obtain ⟨b2, hb2⟩ : ∃ b2, w.heap.size = b2 := ⟨_, rfl⟩
  have HSZ := Aside0.mk hb2
  rw [hb2] at HZ
  clear hR hn hC
  go_enter Try.func36, Try.ntmps36
  go_wp2_with (first
    | (go_at_call 62; refine (dec_none _ _ _ h2).mono ?_; rintro e w' ⟨rfl, rfl⟩)
    | (go_at_call 57; refine (clone_calls A c s.kind s.st _ HC.out hc (by omega)).mono ?_; rintro e w4 ⟨A4, c4, rfl, hR4, hB4⟩; have HR4 := Aside0.mk (Kd.R_lower hR4 HB.out.size); have HB4 := Aside0.mk (below_then HB.out HB.out.size hB4); have HZ4 := Aside0.mk (blk_below HZ.out hB4); have z0 : w4.cell? ⟨b2, 0, none⟩ = some (.int .i64 0) := (blk_cell HZ4.out 0).trans rfl; have z1 : w4.cell? ⟨b2, 1, none⟩ = some (.slice none 0 0) := (blk_cell HZ4.out 1).trans rfl; have zf0 := blk_frozen HZ4.out 0; have zf1 := blk_frozen HZ4.out 1; clear hR4 hB4))
  have hz2 : (w4.setCell ⟨b2, 0, none⟩ (.int .i64 s.kind)).heap[b2]? = some (.cells #[.int .i64 s.kind, .slice none 0 0] 24 (0, 0)) := blk_put (cs := #[.int .i64 0, .slice none 0 0]) HZ4.out 0 _ rfl
  refine bodyPost_ret (results_cell_row rfl _ _ b2 24 #[.int .i64 s.kind, .slice A4 s.st.length c4] (0, 0) _ rfl (blk_put (cs := #[.int .i64 s.kind, .slice none 0 0]) hz2 1 _ rfl) Try.underlying24 rfl (by kernel_rfl)) rfl ?_
  have hwb : w.heap.size ≤ b2 := by rw [HSZ.out]; exact Nat.le_refl _
  exact ⟨A4, c4, rfl, Kd.R_set (Kd.R_set HR4.out HZ4.out (by decide) _ _) hz2 (by decide) _ _, (HB4.out.setCell hwb _).setCell hwb _⟩
end Go.Proofs.Ytpnmedmghncpiaa.DecNew
