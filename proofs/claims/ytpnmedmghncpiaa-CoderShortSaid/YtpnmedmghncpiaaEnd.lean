import Derived.Test.YtpnmedmghncpiaaAid
import Derived.Test.YtpnmedmghncpiaaHandAid
import Derived.Test.YtpnmedmghncpiaaCod1
import Derived.Test.YtpnmedmghncpiaaCod2
import Derived.Test.YtpnmedmghncpiaaCod3
import Derived.Test.YtpnmedmghncpiaaMod
import Derived.Test.YtpnmedmghncpiaaEnc
import Derived.Test.YtpnmedmghncpiaaMods
import Derived.Test.YtpnmedmghncpiaaEncAt
import Derived.Test.YtpnmedmghncpiaaPut
-- needs: Aid HandAid Cod1 Cod2 Cod3 Mod Enc Mods EncAt Put
namespace Go.Proofs.Ytpnmedmghncpiaa.End
open Go Go.RowKit Go.Proofs.YtpnmedmghncpiaaW.PrintWords Go.Proofs.YtpnmedmghncpiaaW.PrintLast Go.Proofs.YtpnmedmghncpiaaW.PrintMore Go.Proofs.Ytpnmedmghncpiaa.Aid Go.Proofs.Ytpnmedmghncpiaa.HandAid Go.Proofs.Ytpnmedmghncpiaa.Cod1 Go.Proofs.Ytpnmedmghncpiaa.Cod2 Go.Proofs.Ytpnmedmghncpiaa.Cod3 Go.Proofs.Ytpnmedmghncpiaa.Mod Go.Proofs.Ytpnmedmghncpiaa.Enc Go.Proofs.Ytpnmedmghncpiaa.Mods Go.Proofs.Ytpnmedmghncpiaa.EncAt Go.Proofs.Ytpnmedmghncpiaa.Put
set_option linter.unusedVariables false
set_option linter.unusedSimpArgs false
theorem put_calls (w : World) (S : Nat → Prop) (g : Nat) (s : ES) (i bit : Int) (hE : EncAt w S g s) (hok : s.ok) (hlen : s.out.length ≤ 1099511627776) :
    Calls Try.prog 24 #[.pointer (some ⟨g, 0, none⟩), .int .i64 i, .int .i64 bit] w fun e w' => e = .returned (.int .i64 (s.err i bit)) ∧ EncAt w' (fun k => (S k ∨ w.heap.size ≤ k) ∧ k < w'.heap.size) g (s.putI i bit) ∧ Mods w w' S := by
  obtain ⟨A, c, vo, hR⟩ := hE
  by_cases hg : s.good i bit = true
  · have e1 : s.err i bit = 0 := if_pos hg
    have e2 : s.putI i bit = s.put i.toNat bit := if_pos hg
    rw [e1, e2]
    simp only [ES.good, Bool.and_eq_true, Bool.or_eq_true, decide_eq_true_eq] at hg
    obtain ⟨⟨h0, h1⟩, hb⟩ := hg
    obtain ⟨j, rfl⟩ : ∃ j : Nat, i = (j : Int) := ⟨i.toNat, by omega⟩
    rw [Int.toNat_natCast]
    have hj : j < s.st.length := by omega
    obtain ⟨b, rfl, _⟩ := hR.cell hj
    have hm := ES.mid_ hok hj
    have hc := ES.cut_ hok hj (bit := bit)
    have := hok.l
    have := hok.h
    have hI : PutInv s.out (cutL s.low (s.mid j) bit) (cutH s.high (s.mid j) bit) 4 (cutL s.low (s.mid j) bit) (cutH s.high (s.mid j) bit) s.out := ⟨hc.1, hc.2.1, hc.2.2, by rw [show (256 : Int) ^ 4 = 4294967296 from rfl]; omega, rfl, rfl, Nat.le_refl _⟩
    have key : Calls Try.prog 24 #[.pointer (some ⟨g, 0, none⟩), .int .i64 j, .int .i64 bit] w (PutPost w S g s.kind s.st s.low s.high (s.mid j) s.out j bit) := by
      rcases hb with rfl | rfl
      · exact put_row0 w S g s.kind b c s.st s.low s.high (s.mid j) vo s.out j hR hj hok.m.2.1 (ES.at_ hok hj) hok.l hok.lh hok.h rfl (by omega) (by omega) hI hlen
      · exact put_row1 w S g s.kind b c s.st s.low s.high (s.mid j) vo s.out j hR hj hok.m.2.1 (ES.at_ hok hj) hok.l hok.lh hok.h rfl (by omega) (by omega) hI hlen
    refine key.mono ?_
    rintro e w' ⟨he, ⟨l, h, out1, hE', ho, hn⟩, hk⟩
    refine ⟨he, ?_, hk⟩
    have hE2 : EncAt w' (fun k => S k ∨ w.heap.size ≤ k) g (s.put j bit) := by
      obtain ⟨A', c', vo', h'⟩ := hE'
      refine ⟨A', c', vo', ?_⟩
      have hn' : s.norm j bit = (out1.drop s.out.length, l, h) := by
        show normE 4 _ _ = _
        rw [ho, List.drop_left, ← hn]
      simp only [ES.put]
      rw [show (s.norm j bit).2.1 = l by rw [hn'], show (s.norm j bit).2.2 = h by rw [hn'], show s.out ++ (s.norm j bit).1 = out1 from ho.symm]
      exact h'
    exact hE2.bound
  · have e1 : s.err i bit = 2 := if_neg hg
    have e2 : s.putI i bit = s := if_neg hg
    rw [e1, e2]
    have hbad : i < 0 ∨ (s.st.length : Int) ≤ i ∨ (bit ≠ 0 ∧ bit ≠ 1) := by
      simp only [ES.good, Bool.and_eq_true, Bool.or_eq_true, decide_eq_true_eq] at hg
      omega
    refine (enc_put_arg w g A s.st.length c i bit hR.iv.s hR.real hbad).mono ?_
    rintro e w' ⟨rfl, rfl⟩
    exact ⟨rfl, ⟨A, c, vo, hR.bound.mono (fun k hk => ⟨.inl hk.1, hk.2⟩)⟩, Mods.refl _ _⟩
def EndPost (w : World) (l : List Int) (e : Ending) (w' : World) : Prop := ∃ A c, e = .returned (.slice A l.length c) ∧ Kd.R (Kd.int .u8) 5 w' w.heap.size (fun _ => True) (.slice A l.length c) l ∧ Below w.heap.size w w'
set_option maxHeartbeats 4000000 in
set_option maxRecDepth 100000 in
theorem end_row (w : World) (S : Nat → Prop) (g : Nat) (kind : Int) (A : Option Addr) (c : Nat) (st : List Int) (low high : Int) (vo : Value) (out : List Int) (hE : EncRow w S g kind A c st low high vo out) (hl0 : 0 ≤ low) (hlh : low ≤ high) (hh : high ≤ 4294967295) (hlen : out.length ≤ 1099511627880) :
    Calls Try.prog 26 #[.pointer (some ⟨g, 0, none⟩)] w (EndPost w (out ++ endOf low high)) := by
  have HE := Aside0.mk hE
  have h2 := hE.real
  have hh0 : 0 ≤ high := by omega
  clear hE
  have HE1 := Aside0.mk (HE.out.below (below_alloc (Below.refl _ _) (.cells #[] 5)))
  have HB1 := Aside0.mk (below_alloc (Below.refl w.heap.size w) (.cells #[] 5))
  have HR1 : Aside0 (Kd.R (Kd.int .u8) 5 (w.alloc (.cells #[] 5)) w.heap.size (fun _ => True) (.slice (some ⟨w.heap.size, 0, none⟩) 0 0) []) := ⟨Kd.R_of_own (enc := Value.int .u8) (World.ownsRow_lit w #[] 0 (Nat.le_refl _) (by decide) rfl) (fun _ _ => trivial)⟩
  have hcv : (w.alloc (.cells #[] 5)).cell? ⟨g, 36, none⟩ = some vo := HE1.out.vo_
  obtain ⟨Ao, co, hvo⟩ := Kd.R_slice HE.out.o
  subst hvo
  have HCo := Aside0.mk (Kd.R_reads' HE1.out.o).2.2
  go_enter Try.func26, Try.ntmps26
  go_wp2_with (first
    | (go_at_call 49; refine (enc_none _ _ _ h2).mono ?_; rintro e w' ⟨rfl, rfl⟩)
    | (at_builtin; refine Kd.R_append_rows (Kd.int .u8) (w0 := w) w.heap.size (by rfl) (.tmp 9) (.tmp 13) 34 5 (.int .u8 0) 1 rfl Try.underlying34 infoU8 rfl (by decide) (by omega) (.slice (some ⟨w.heap.size, 0, none⟩) 0 0) [] out _ _ _ (fun _ => True) (fun _ => False) rfl rfl HR1.out HCo.out (fun _ _ h => h) (fun _ h => h.elim) (fun _ _ => trivial) HB1.out (Nat.le_of_lt (by simp)) (by simp only [List.length_nil]; omega) ?_; intro v3 w3 hR3 hB3 hg3 hat3; have HR3 := Aside0.mk hR3; have HB3 := Aside0.mk hB3; clear hR3 hB3 hg3 hat3))
  clear HR1 HB1 HE1 HCo hcv
  rw [List.nil_append] at HR3
  obtain ⟨A3, c3, hv3⟩ := Kd.R_slice HR3.out
  subst hv3
  go_loopw [3, 15] (fun o i wr => ∃ (k : Nat), k ≤ 4 ∧ i = .int .i64 k ∧ o = .slice A3 out.length c3 ∧ Aside0 (k ≤ endN low high) ∧ Aside0 (Kd.R (Kd.int .u8) 5 wr w.heap.size (fun _ => True) (.slice A3 out.length c3) out) ∧ Aside0 (Below w.heap.size w wr)) (fun _ i _ => 5 - (intOf i).toNat)
  case atStart => exact ⟨0, by omega, rfl, rfl, ⟨Nat.zero_le _⟩, HR3, HB3⟩
  clear HR3 HB3 h2
  case round =>
    obtain ⟨k, hk, rfl, rfl, HK, HR4, HB4⟩ := hrel
    have k34 := (HE.out.below HB4.out).iv.l
    have k35 := (HE.out.below HB4.out).iv.h
    have hcase : k = 0 ∨ k = 1 ∨ k = 2 ∨ k = 3 ∨ k = 4 := by omega
    rcases hcase with rfl | rfl | rfl | rfl | rfl
    · by_cases ct : low ≤ high / 4294967296 * 4294967296
      · have hEN : endN low high = 0 := by
          have := HK.out
          unfold endN at this ⊢
          repeat' split
          all_goals (first | rfl | omega | (split at this <;> omega))
        have hend : out ++ endOf low high = out ++ (hiBytes high).take 0 := by unfold endOf; rw [hEN]
        have HEND := Aside0.mk hend
        clear hEN hend
        go_wp2
        go_quiet (fail)
        go_wp2
        clear k34 k35 HK
        go_loopg [3, 38] 0 (fun d o i w5 => ∃ (j : Nat), j ≤ 0 ∧ Aside0 (j + d = 0) ∧ i = .int .i64 j ∧ ∃ A5 c5, o = .slice A5 (out.length + j) c5 ∧ Aside0 (Kd.R (Kd.int .u8) 5 w5 w.heap.size (fun _ => True) (.slice A5 (out.length + j) c5) (out ++ (hiBytes high).take j)) ∧ Aside0 (Below w.heap.size w w5))
        case atStart => exact ⟨0, by omega, ⟨by omega⟩, rfl, A3, c3, rfl, ⟨by rw [List.take_zero, List.append_nil]; exact Kd.R_drewN HR4.out _⟩, ⟨pw_below_drewN HB4.out _⟩⟩
        clear HR4 HB4
        case round =>
          obtain ⟨j, hj, HD, rfl, A5, c5, rfl, HR6, HB6⟩ := hrel
          have k35 := (HE.out.below HB6.out).iv.h
          have hcase : j = 0 := by omega
          subst hcase
          · go_wp2
            go_ret
            refine ⟨A5, c5, ?_, ?_, HB6.out⟩
            · rw [HEND.out]; simp [hiBytes]
            · have := HR6.out
              rw [HEND.out]
              simp [hiBytes] at this ⊢
              exact this
      · have HN : 1 ≤ endN low high := by
          have := HK.out
          unfold endN at this ⊢
          repeat' split
          all_goals (first | omega | (split at this <;> omega))
        go_wp2
        go_quiet (fail)
        go_wp2
        go_roundw
        case rel => exact ⟨1, by omega, rfl, rfl, ⟨HN⟩, ⟨Kd.R_drewN HR4.out _⟩, ⟨pw_below_drewN HB4.out _⟩⟩
        case measure => simp [intOf]
    · by_cases ct : low ≤ high / 16777216 * 16777216
      · have hEN : endN low high = 1 := by
          have := HK.out
          unfold endN at this ⊢
          repeat' split
          all_goals (first | rfl | omega | (split at this <;> omega))
        have hend : out ++ endOf low high = out ++ (hiBytes high).take 1 := by unfold endOf; rw [hEN]
        have HEND := Aside0.mk hend
        clear hEN hend
        go_wp2
        go_quiet (fail)
        go_wp2
        clear k34 k35 HK
        go_loopg [3, 38] 1 (fun d o i w5 => ∃ (j : Nat), j ≤ 1 ∧ Aside0 (j + d = 1) ∧ i = .int .i64 j ∧ ∃ A5 c5, o = .slice A5 (out.length + j) c5 ∧ Aside0 (Kd.R (Kd.int .u8) 5 w5 w.heap.size (fun _ => True) (.slice A5 (out.length + j) c5) (out ++ (hiBytes high).take j)) ∧ Aside0 (Below w.heap.size w w5))
        case atStart => exact ⟨0, by omega, ⟨by omega⟩, rfl, A3, c3, rfl, ⟨by rw [List.take_zero, List.append_nil]; exact Kd.R_drewN HR4.out _⟩, ⟨pw_below_drewN HB4.out _⟩⟩
        clear HR4 HB4
        case round =>
          obtain ⟨j, hj, HD, rfl, A5, c5, rfl, HR6, HB6⟩ := hrel
          have k35 := (HE.out.below HB6.out).iv.h
          have hcase : j = 0 ∨ j = 1 := by omega
          rcases hcase with rfl | rfl
          · have HB7 := Aside0.mk (below_alloc HB6.out (.cells #[.int .u8 (high / 16777216)] 5))
            have hle := HB6.out.size
            go_wp2_with (at_builtin; refine Kd.R_append (Kd.int .u8) (w0 := w) w.heap.size (by rfl) (.tmp 41) (.tmp 52) 34 5 (.int .u8 0) 1 rfl Try.underlying34 infoU8 rfl (by decide) (by decide) (.slice A5 (out.length + 0) c5) (out ++ (hiBytes high).take 0) (high / 16777216) [.int .u8 (high / 16777216)] (fun _ => True) (fun _ => False) rfl rfl rfl (fun _ h => h.elim) (fun _ _ => trivial) HR6.out HB6.out hle (by simp only [hiBytes, List.length_append, List.length_take, List.length_cons, List.length_nil]; omega) ?_; intro v8 w8 hR8 hB8 hg8 hat8; obtain ⟨A8, c8, hv8⟩ := Kd.R_slice hR8; rw [show (out ++ (hiBytes high).take 0 ++ [high / 16777216]).length = out.length + 1 by simp [hiBytes]] at hv8; subst hv8; have HR8 := Aside0.mk (show Kd.R (Kd.int .u8) 5 w8 w.heap.size (fun _ => True) (.slice A8 (out.length + 1) c8) (out ++ (hiBytes high).take 1) from by simpa [hiBytes] using hR8); have HB8 := Aside0.mk hB8; clear hR8 hB8 hg8 hat8)
            go_roundg 0
            case measure => have := HD.out; omega
            case rel => exact ⟨1, by omega, ⟨by omega⟩, rfl, A8, c8, rfl, HR8, HB8⟩
          · go_wp2
            go_ret
            refine ⟨A5, c5, ?_, ?_, HB6.out⟩
            · rw [HEND.out]; simp [hiBytes]
            · have := HR6.out
              rw [HEND.out]
              simp [hiBytes] at this ⊢
              exact this
      · have HN : 2 ≤ endN low high := by
          have := HK.out
          unfold endN at this ⊢
          repeat' split
          all_goals (first | omega | (split at this <;> omega))
        go_wp2
        go_quiet (fail)
        go_wp2
        go_roundw
        case rel => exact ⟨2, by omega, rfl, rfl, ⟨HN⟩, ⟨Kd.R_drewN HR4.out _⟩, ⟨pw_below_drewN HB4.out _⟩⟩
        case measure => simp [intOf]
    · by_cases ct : low ≤ high / 65536 * 65536
      · have hEN : endN low high = 2 := by
          have := HK.out
          unfold endN at this ⊢
          repeat' split
          all_goals (first | rfl | omega | (split at this <;> omega))
        have hend : out ++ endOf low high = out ++ (hiBytes high).take 2 := by unfold endOf; rw [hEN]
        have HEND := Aside0.mk hend
        clear hEN hend
        go_wp2
        go_quiet (fail)
        go_wp2
        clear k34 k35 HK
        go_loopg [3, 38] 2 (fun d o i w5 => ∃ (j : Nat), j ≤ 2 ∧ Aside0 (j + d = 2) ∧ i = .int .i64 j ∧ ∃ A5 c5, o = .slice A5 (out.length + j) c5 ∧ Aside0 (Kd.R (Kd.int .u8) 5 w5 w.heap.size (fun _ => True) (.slice A5 (out.length + j) c5) (out ++ (hiBytes high).take j)) ∧ Aside0 (Below w.heap.size w w5))
        case atStart => exact ⟨0, by omega, ⟨by omega⟩, rfl, A3, c3, rfl, ⟨by rw [List.take_zero, List.append_nil]; exact Kd.R_drewN HR4.out _⟩, ⟨pw_below_drewN HB4.out _⟩⟩
        clear HR4 HB4
        case round =>
          obtain ⟨j, hj, HD, rfl, A5, c5, rfl, HR6, HB6⟩ := hrel
          have k35 := (HE.out.below HB6.out).iv.h
          have hcase : j = 0 ∨ j = 1 ∨ j = 2 := by omega
          rcases hcase with rfl | rfl | rfl
          · have HB7 := Aside0.mk (below_alloc HB6.out (.cells #[.int .u8 (high / 16777216)] 5))
            have hle := HB6.out.size
            go_wp2_with (at_builtin; refine Kd.R_append (Kd.int .u8) (w0 := w) w.heap.size (by rfl) (.tmp 41) (.tmp 52) 34 5 (.int .u8 0) 1 rfl Try.underlying34 infoU8 rfl (by decide) (by decide) (.slice A5 (out.length + 0) c5) (out ++ (hiBytes high).take 0) (high / 16777216) [.int .u8 (high / 16777216)] (fun _ => True) (fun _ => False) rfl rfl rfl (fun _ h => h.elim) (fun _ _ => trivial) HR6.out HB6.out hle (by simp only [hiBytes, List.length_append, List.length_take, List.length_cons, List.length_nil]; omega) ?_; intro v8 w8 hR8 hB8 hg8 hat8; obtain ⟨A8, c8, hv8⟩ := Kd.R_slice hR8; rw [show (out ++ (hiBytes high).take 0 ++ [high / 16777216]).length = out.length + 1 by simp [hiBytes]] at hv8; subst hv8; have HR8 := Aside0.mk (show Kd.R (Kd.int .u8) 5 w8 w.heap.size (fun _ => True) (.slice A8 (out.length + 1) c8) (out ++ (hiBytes high).take 1) from by simpa [hiBytes] using hR8); have HB8 := Aside0.mk hB8; clear hR8 hB8 hg8 hat8)
            go_roundg 1
            case measure => have := HD.out; omega
            case rel => exact ⟨1, by omega, ⟨by omega⟩, rfl, A8, c8, rfl, HR8, HB8⟩
          · have HB7 := Aside0.mk (below_alloc HB6.out (.cells #[.int .u8 (high / 65536 % 256)] 5))
            have hle := HB6.out.size
            go_wp2_with (at_builtin; refine Kd.R_append (Kd.int .u8) (w0 := w) w.heap.size (by rfl) (.tmp 41) (.tmp 52) 34 5 (.int .u8 0) 1 rfl Try.underlying34 infoU8 rfl (by decide) (by decide) (.slice A5 (out.length + 1) c5) (out ++ (hiBytes high).take 1) (high / 65536 % 256) [.int .u8 (high / 65536 % 256)] (fun _ => True) (fun _ => False) rfl rfl rfl (fun _ h => h.elim) (fun _ _ => trivial) HR6.out HB6.out hle (by simp only [hiBytes, List.length_append, List.length_take, List.length_cons, List.length_nil]; omega) ?_; intro v8 w8 hR8 hB8 hg8 hat8; obtain ⟨A8, c8, hv8⟩ := Kd.R_slice hR8; rw [show (out ++ (hiBytes high).take 1 ++ [high / 65536 % 256]).length = out.length + 2 by simp [hiBytes]] at hv8; subst hv8; have HR8 := Aside0.mk (show Kd.R (Kd.int .u8) 5 w8 w.heap.size (fun _ => True) (.slice A8 (out.length + 2) c8) (out ++ (hiBytes high).take 2) from by simpa [hiBytes] using hR8); have HB8 := Aside0.mk hB8; clear hR8 hB8 hg8 hat8)
            go_roundg 0
            case measure => have := HD.out; omega
            case rel => exact ⟨2, by omega, ⟨by omega⟩, rfl, A8, c8, rfl, HR8, HB8⟩
          · go_wp2
            go_ret
            refine ⟨A5, c5, ?_, ?_, HB6.out⟩
            · rw [HEND.out]; simp [hiBytes]
            · have := HR6.out
              rw [HEND.out]
              simp [hiBytes] at this ⊢
              exact this
      · have HN : 3 ≤ endN low high := by
          have := HK.out
          unfold endN at this ⊢
          repeat' split
          all_goals (first | omega | (split at this <;> omega))
        go_wp2
        go_quiet (fail)
        go_wp2
        go_roundw
        case rel => exact ⟨3, by omega, rfl, rfl, ⟨HN⟩, ⟨Kd.R_drewN HR4.out _⟩, ⟨pw_below_drewN HB4.out _⟩⟩
        case measure => simp [intOf]
    · by_cases ct : low ≤ high / 256 * 256
      · have hEN : endN low high = 3 := by
          have := HK.out
          unfold endN at this ⊢
          repeat' split
          all_goals (first | rfl | omega | (split at this <;> omega))
        have hend : out ++ endOf low high = out ++ (hiBytes high).take 3 := by unfold endOf; rw [hEN]
        have HEND := Aside0.mk hend
        clear hEN hend
        go_wp2
        go_quiet (fail)
        go_wp2
        clear k34 k35 HK
        go_loopg [3, 38] 3 (fun d o i w5 => ∃ (j : Nat), j ≤ 3 ∧ Aside0 (j + d = 3) ∧ i = .int .i64 j ∧ ∃ A5 c5, o = .slice A5 (out.length + j) c5 ∧ Aside0 (Kd.R (Kd.int .u8) 5 w5 w.heap.size (fun _ => True) (.slice A5 (out.length + j) c5) (out ++ (hiBytes high).take j)) ∧ Aside0 (Below w.heap.size w w5))
        case atStart => exact ⟨0, by omega, ⟨by omega⟩, rfl, A3, c3, rfl, ⟨by rw [List.take_zero, List.append_nil]; exact Kd.R_drewN HR4.out _⟩, ⟨pw_below_drewN HB4.out _⟩⟩
        clear HR4 HB4
        case round =>
          obtain ⟨j, hj, HD, rfl, A5, c5, rfl, HR6, HB6⟩ := hrel
          have k35 := (HE.out.below HB6.out).iv.h
          have hcase : j = 0 ∨ j = 1 ∨ j = 2 ∨ j = 3 := by omega
          rcases hcase with rfl | rfl | rfl | rfl
          · have HB7 := Aside0.mk (below_alloc HB6.out (.cells #[.int .u8 (high / 16777216)] 5))
            have hle := HB6.out.size
            go_wp2_with (at_builtin; refine Kd.R_append (Kd.int .u8) (w0 := w) w.heap.size (by rfl) (.tmp 41) (.tmp 52) 34 5 (.int .u8 0) 1 rfl Try.underlying34 infoU8 rfl (by decide) (by decide) (.slice A5 (out.length + 0) c5) (out ++ (hiBytes high).take 0) (high / 16777216) [.int .u8 (high / 16777216)] (fun _ => True) (fun _ => False) rfl rfl rfl (fun _ h => h.elim) (fun _ _ => trivial) HR6.out HB6.out hle (by simp only [hiBytes, List.length_append, List.length_take, List.length_cons, List.length_nil]; omega) ?_; intro v8 w8 hR8 hB8 hg8 hat8; obtain ⟨A8, c8, hv8⟩ := Kd.R_slice hR8; rw [show (out ++ (hiBytes high).take 0 ++ [high / 16777216]).length = out.length + 1 by simp [hiBytes]] at hv8; subst hv8; have HR8 := Aside0.mk (show Kd.R (Kd.int .u8) 5 w8 w.heap.size (fun _ => True) (.slice A8 (out.length + 1) c8) (out ++ (hiBytes high).take 1) from by simpa [hiBytes] using hR8); have HB8 := Aside0.mk hB8; clear hR8 hB8 hg8 hat8)
            go_roundg 2
            case measure => have := HD.out; omega
            case rel => exact ⟨1, by omega, ⟨by omega⟩, rfl, A8, c8, rfl, HR8, HB8⟩
          · have HB7 := Aside0.mk (below_alloc HB6.out (.cells #[.int .u8 (high / 65536 % 256)] 5))
            have hle := HB6.out.size
            go_wp2_with (at_builtin; refine Kd.R_append (Kd.int .u8) (w0 := w) w.heap.size (by rfl) (.tmp 41) (.tmp 52) 34 5 (.int .u8 0) 1 rfl Try.underlying34 infoU8 rfl (by decide) (by decide) (.slice A5 (out.length + 1) c5) (out ++ (hiBytes high).take 1) (high / 65536 % 256) [.int .u8 (high / 65536 % 256)] (fun _ => True) (fun _ => False) rfl rfl rfl (fun _ h => h.elim) (fun _ _ => trivial) HR6.out HB6.out hle (by simp only [hiBytes, List.length_append, List.length_take, List.length_cons, List.length_nil]; omega) ?_; intro v8 w8 hR8 hB8 hg8 hat8; obtain ⟨A8, c8, hv8⟩ := Kd.R_slice hR8; rw [show (out ++ (hiBytes high).take 1 ++ [high / 65536 % 256]).length = out.length + 2 by simp [hiBytes]] at hv8; subst hv8; have HR8 := Aside0.mk (show Kd.R (Kd.int .u8) 5 w8 w.heap.size (fun _ => True) (.slice A8 (out.length + 2) c8) (out ++ (hiBytes high).take 2) from by simpa [hiBytes] using hR8); have HB8 := Aside0.mk hB8; clear hR8 hB8 hg8 hat8)
            go_roundg 1
            case measure => have := HD.out; omega
            case rel => exact ⟨2, by omega, ⟨by omega⟩, rfl, A8, c8, rfl, HR8, HB8⟩
          · have HB7 := Aside0.mk (below_alloc HB6.out (.cells #[.int .u8 (high / 256 % 256)] 5))
            have hle := HB6.out.size
            go_wp2_with (at_builtin; refine Kd.R_append (Kd.int .u8) (w0 := w) w.heap.size (by rfl) (.tmp 41) (.tmp 52) 34 5 (.int .u8 0) 1 rfl Try.underlying34 infoU8 rfl (by decide) (by decide) (.slice A5 (out.length + 2) c5) (out ++ (hiBytes high).take 2) (high / 256 % 256) [.int .u8 (high / 256 % 256)] (fun _ => True) (fun _ => False) rfl rfl rfl (fun _ h => h.elim) (fun _ _ => trivial) HR6.out HB6.out hle (by simp only [hiBytes, List.length_append, List.length_take, List.length_cons, List.length_nil]; omega) ?_; intro v8 w8 hR8 hB8 hg8 hat8; obtain ⟨A8, c8, hv8⟩ := Kd.R_slice hR8; rw [show (out ++ (hiBytes high).take 2 ++ [high / 256 % 256]).length = out.length + 3 by simp [hiBytes]] at hv8; subst hv8; have HR8 := Aside0.mk (show Kd.R (Kd.int .u8) 5 w8 w.heap.size (fun _ => True) (.slice A8 (out.length + 3) c8) (out ++ (hiBytes high).take 3) from by simpa [hiBytes] using hR8); have HB8 := Aside0.mk hB8; clear hR8 hB8 hg8 hat8)
            go_roundg 0
            case measure => have := HD.out; omega
            case rel => exact ⟨3, by omega, ⟨by omega⟩, rfl, A8, c8, rfl, HR8, HB8⟩
          · go_wp2
            go_ret
            refine ⟨A5, c5, ?_, ?_, HB6.out⟩
            · rw [HEND.out]; simp [hiBytes]
            · have := HR6.out
              rw [HEND.out]
              simp [hiBytes] at this ⊢
              exact this
      · have HN : 4 ≤ endN low high := by
          have := HK.out
          unfold endN at this ⊢
          repeat' split
          all_goals (first | omega | (split at this <;> omega))
        go_wp2
        go_quiet (fail)
        go_wp2
        go_roundw
        case rel => exact ⟨4, by omega, rfl, rfl, ⟨HN⟩, ⟨Kd.R_drewN HR4.out _⟩, ⟨pw_below_drewN HB4.out _⟩⟩
        case measure => simp [intOf]
    · by_cases ct : low ≤ high / 1 * 1
      · have hEN : endN low high = 4 := by
          have := HK.out
          unfold endN at this ⊢
          repeat' split
          all_goals (first | rfl | omega | (split at this <;> omega))
        have hend : out ++ endOf low high = out ++ (hiBytes high).take 4 := by unfold endOf; rw [hEN]
        have HEND := Aside0.mk hend
        clear hEN hend
        go_wp2
        go_quiet (fail)
        go_wp2
        clear k34 k35 HK
        go_loopg [3, 38] 4 (fun d o i w5 => ∃ (j : Nat), j ≤ 4 ∧ Aside0 (j + d = 4) ∧ i = .int .i64 j ∧ ∃ A5 c5, o = .slice A5 (out.length + j) c5 ∧ Aside0 (Kd.R (Kd.int .u8) 5 w5 w.heap.size (fun _ => True) (.slice A5 (out.length + j) c5) (out ++ (hiBytes high).take j)) ∧ Aside0 (Below w.heap.size w w5))
        case atStart => exact ⟨0, by omega, ⟨by omega⟩, rfl, A3, c3, rfl, ⟨by rw [List.take_zero, List.append_nil]; exact Kd.R_drewN HR4.out _⟩, ⟨pw_below_drewN HB4.out _⟩⟩
        clear HR4 HB4
        case round =>
          obtain ⟨j, hj, HD, rfl, A5, c5, rfl, HR6, HB6⟩ := hrel
          have k35 := (HE.out.below HB6.out).iv.h
          have hcase : j = 0 ∨ j = 1 ∨ j = 2 ∨ j = 3 ∨ j = 4 := by omega
          rcases hcase with rfl | rfl | rfl | rfl | rfl
          · have HB7 := Aside0.mk (below_alloc HB6.out (.cells #[.int .u8 (high / 16777216)] 5))
            have hle := HB6.out.size
            go_wp2_with (at_builtin; refine Kd.R_append (Kd.int .u8) (w0 := w) w.heap.size (by rfl) (.tmp 41) (.tmp 52) 34 5 (.int .u8 0) 1 rfl Try.underlying34 infoU8 rfl (by decide) (by decide) (.slice A5 (out.length + 0) c5) (out ++ (hiBytes high).take 0) (high / 16777216) [.int .u8 (high / 16777216)] (fun _ => True) (fun _ => False) rfl rfl rfl (fun _ h => h.elim) (fun _ _ => trivial) HR6.out HB6.out hle (by simp only [hiBytes, List.length_append, List.length_take, List.length_cons, List.length_nil]; omega) ?_; intro v8 w8 hR8 hB8 hg8 hat8; obtain ⟨A8, c8, hv8⟩ := Kd.R_slice hR8; rw [show (out ++ (hiBytes high).take 0 ++ [high / 16777216]).length = out.length + 1 by simp [hiBytes]] at hv8; subst hv8; have HR8 := Aside0.mk (show Kd.R (Kd.int .u8) 5 w8 w.heap.size (fun _ => True) (.slice A8 (out.length + 1) c8) (out ++ (hiBytes high).take 1) from by simpa [hiBytes] using hR8); have HB8 := Aside0.mk hB8; clear hR8 hB8 hg8 hat8)
            go_roundg 3
            case measure => have := HD.out; omega
            case rel => exact ⟨1, by omega, ⟨by omega⟩, rfl, A8, c8, rfl, HR8, HB8⟩
          · have HB7 := Aside0.mk (below_alloc HB6.out (.cells #[.int .u8 (high / 65536 % 256)] 5))
            have hle := HB6.out.size
            go_wp2_with (at_builtin; refine Kd.R_append (Kd.int .u8) (w0 := w) w.heap.size (by rfl) (.tmp 41) (.tmp 52) 34 5 (.int .u8 0) 1 rfl Try.underlying34 infoU8 rfl (by decide) (by decide) (.slice A5 (out.length + 1) c5) (out ++ (hiBytes high).take 1) (high / 65536 % 256) [.int .u8 (high / 65536 % 256)] (fun _ => True) (fun _ => False) rfl rfl rfl (fun _ h => h.elim) (fun _ _ => trivial) HR6.out HB6.out hle (by simp only [hiBytes, List.length_append, List.length_take, List.length_cons, List.length_nil]; omega) ?_; intro v8 w8 hR8 hB8 hg8 hat8; obtain ⟨A8, c8, hv8⟩ := Kd.R_slice hR8; rw [show (out ++ (hiBytes high).take 1 ++ [high / 65536 % 256]).length = out.length + 2 by simp [hiBytes]] at hv8; subst hv8; have HR8 := Aside0.mk (show Kd.R (Kd.int .u8) 5 w8 w.heap.size (fun _ => True) (.slice A8 (out.length + 2) c8) (out ++ (hiBytes high).take 2) from by simpa [hiBytes] using hR8); have HB8 := Aside0.mk hB8; clear hR8 hB8 hg8 hat8)
            go_roundg 2
            case measure => have := HD.out; omega
            case rel => exact ⟨2, by omega, ⟨by omega⟩, rfl, A8, c8, rfl, HR8, HB8⟩
          · have HB7 := Aside0.mk (below_alloc HB6.out (.cells #[.int .u8 (high / 256 % 256)] 5))
            have hle := HB6.out.size
            go_wp2_with (at_builtin; refine Kd.R_append (Kd.int .u8) (w0 := w) w.heap.size (by rfl) (.tmp 41) (.tmp 52) 34 5 (.int .u8 0) 1 rfl Try.underlying34 infoU8 rfl (by decide) (by decide) (.slice A5 (out.length + 2) c5) (out ++ (hiBytes high).take 2) (high / 256 % 256) [.int .u8 (high / 256 % 256)] (fun _ => True) (fun _ => False) rfl rfl rfl (fun _ h => h.elim) (fun _ _ => trivial) HR6.out HB6.out hle (by simp only [hiBytes, List.length_append, List.length_take, List.length_cons, List.length_nil]; omega) ?_; intro v8 w8 hR8 hB8 hg8 hat8; obtain ⟨A8, c8, hv8⟩ := Kd.R_slice hR8; rw [show (out ++ (hiBytes high).take 2 ++ [high / 256 % 256]).length = out.length + 3 by simp [hiBytes]] at hv8; subst hv8; have HR8 := Aside0.mk (show Kd.R (Kd.int .u8) 5 w8 w.heap.size (fun _ => True) (.slice A8 (out.length + 3) c8) (out ++ (hiBytes high).take 3) from by simpa [hiBytes] using hR8); have HB8 := Aside0.mk hB8; clear hR8 hB8 hg8 hat8)
            go_roundg 1
            case measure => have := HD.out; omega
            case rel => exact ⟨3, by omega, ⟨by omega⟩, rfl, A8, c8, rfl, HR8, HB8⟩
          · have HB7 := Aside0.mk (below_alloc HB6.out (.cells #[.int .u8 (high % 256)] 5))
            have hle := HB6.out.size
            go_wp2_with (at_builtin; refine Kd.R_append (Kd.int .u8) (w0 := w) w.heap.size (by rfl) (.tmp 41) (.tmp 52) 34 5 (.int .u8 0) 1 rfl Try.underlying34 infoU8 rfl (by decide) (by decide) (.slice A5 (out.length + 3) c5) (out ++ (hiBytes high).take 3) (high % 256) [.int .u8 (high % 256)] (fun _ => True) (fun _ => False) rfl rfl rfl (fun _ h => h.elim) (fun _ _ => trivial) HR6.out HB6.out hle (by simp only [hiBytes, List.length_append, List.length_take, List.length_cons, List.length_nil]; omega) ?_; intro v8 w8 hR8 hB8 hg8 hat8; obtain ⟨A8, c8, hv8⟩ := Kd.R_slice hR8; rw [show (out ++ (hiBytes high).take 3 ++ [high % 256]).length = out.length + 4 by simp [hiBytes]] at hv8; subst hv8; have HR8 := Aside0.mk (show Kd.R (Kd.int .u8) 5 w8 w.heap.size (fun _ => True) (.slice A8 (out.length + 4) c8) (out ++ (hiBytes high).take 4) from by simpa [hiBytes] using hR8); have HB8 := Aside0.mk hB8; clear hR8 hB8 hg8 hat8)
            go_roundg 0
            case measure => have := HD.out; omega
            case rel => exact ⟨4, by omega, ⟨by omega⟩, rfl, A8, c8, rfl, HR8, HB8⟩
          · go_wp2
            go_ret
            refine ⟨A5, c5, ?_, ?_, HB6.out⟩
            · rw [HEND.out]; simp [hiBytes]
            · have := HR6.out
              rw [HEND.out]
              simp [hiBytes] at this ⊢
              exact this
      · exact absurd ct (by omega)
theorem end_calls (w : World) (S : Nat → Prop) (g : Nat) (s : ES) (hE : EncAt w S g s) (hok : s.ok) (hlen : s.out.length ≤ 1099511627880) :
    Calls Try.prog 26 #[.pointer (some ⟨g, 0, none⟩)] w (EndPost w s.end_) := by
  obtain ⟨A, c, vo, hR⟩ := hE
  exact end_row w S g s.kind A c s.st s.low s.high vo s.out hR hok.l hok.lh hok.h hlen
end Go.Proofs.Ytpnmedmghncpiaa.End
