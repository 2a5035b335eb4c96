import Derived.Test.YtlnhahnnjbfjdaaMNumberPuts1
import Derived.Shelf.Small.Bits
import Derived.Shelf.Strconv.Itoa0
import Derived.Test.YtlnhahnnjbfjdaaProg
import Derived.Lib.ItoaNum
set_option linter.unusedVariables false
set_option linter.unusedSimpArgs false
namespace Go.Proofs.Ytlnhahnnjbfjdaa.End
open Go Go.RowKit Go.Proofs.YtlnhahnnjbfjdaaW.PrintWords Go.Proofs.YtlnhahnnjbfjdaaW.PrintLast Go.Proofs.YtlnhahnnjbfjdaaW.PrintMore Go.Proofs.Ytlnhahnnjbfjdaa.Aid Go.Proofs.Ytlnhahnnjbfjdaa.HandAid Go.Proofs.Ytlnhahnnjbfjdaa.Cod1 Go.Proofs.Ytlnhahnnjbfjdaa.Cod2 Go.Proofs.Ytlnhahnnjbfjdaa.Cod3 Go.Proofs.Ytlnhahnnjbfjdaa.Mod Go.Proofs.Ytlnhahnnjbfjdaa.Enc Go.Proofs.Ytlnhahnnjbfjdaa.Mods Go.Proofs.Ytlnhahnnjbfjdaa.EncAt Go.Proofs.Ytlnhahnnjbfjdaa.Put
theorem put_calls (w : World) (S : Nat → Prop) (g : Nat) (s : ES) (i bit : Int) (hE : EncAt w S g s) (hok : s.ok) (hlen : s.out.length ≤ 1099511627776) :
    Calls Try.prog 63 #[.pointer (some ⟨g, 0, none⟩), .int .i64 i, .int .i64 bit] w fun e w' => e = .returned (.int .i64 (s.err i bit)) ∧ EncAt w' (fun k => (S k ∨ w.heap.size ≤ k) ∧ k < w'.heap.size) g (s.putI i bit) ∧ Mods w w' S := by
  obtain ⟨A, c, vo, hR⟩ := hE
  by_cases hg : s.good i bit = true
  · have e1 : s.err i bit = 0 := if_pos hg
    have e2 : s.putI i bit = s.put i.toNat bit := if_pos hg
    rw [e1, e2]
    simp only [ES.good, Bool.and_eq_true, Bool.or_eq_true, decide_eq_true_eq] at hg
    obtain ⟨⟨h0, h1⟩, hb⟩ := hg
    obtain ⟨j, rfl⟩ : ∃ j : Nat, i = (j : Int) := ⟨i.toNat, by omega⟩
    rw [Int.toNat_natCast]
    have hj : j < s.st.length := by omega
    obtain ⟨b, rfl, _⟩ := hR.cell hj
    have hm := ES.mid_ hok hj
    have hc := ES.cut_ hok hj (bit := bit)
    have := hok.l
    have := hok.h
    have hI : PutInv s.out (cutL s.low (s.mid j) bit) (cutH s.high (s.mid j) bit) 4 (cutL s.low (s.mid j) bit) (cutH s.high (s.mid j) bit) s.out := ⟨hc.1, hc.2.1, hc.2.2, by rw [show (256 : Int) ^ 4 = 4294967296 from rfl]; omega, rfl, rfl, Nat.le_refl _⟩
    have key : Calls Try.prog 63 #[.pointer (some ⟨g, 0, none⟩), .int .i64 j, .int .i64 bit] w (PutPost w S g s.kind s.st s.low s.high (s.mid j) s.out j bit) := by
      rcases hb with rfl | rfl
      · exact put_row0 w S g s.kind b c s.st s.low s.high (s.mid j) vo s.out j hR hj hok.m.2.1 (ES.at_ hok hj) hok.l hok.lh hok.h rfl (by omega) (by omega) hI hlen
      · exact put_row1 w S g s.kind b c s.st s.low s.high (s.mid j) vo s.out j hR hj hok.m.2.1 (ES.at_ hok hj) hok.l hok.lh hok.h rfl (by omega) (by omega) hI hlen
    refine key.mono ?_
    rintro e w' ⟨he, ⟨l, h, out1, hE', ho, hn⟩, hk⟩
    refine ⟨he, ?_, hk⟩
    have hE2 : EncAt w' (fun k => S k ∨ w.heap.size ≤ k) g (s.put j bit) := by
      obtain ⟨A', c', vo', h'⟩ := hE'
      refine ⟨A', c', vo', ?_⟩
      have hn' : s.norm j bit = (out1.drop s.out.length, l, h) := by
        show normE 4 _ _ = _
        rw [ho, List.drop_left, ← hn]
      simp only [ES.put]
      rw [show (s.norm j bit).2.1 = l by rw [hn'], show (s.norm j bit).2.2 = h by rw [hn'], show s.out ++ (s.norm j bit).1 = out1 from ho.symm]
      exact h'
    exact hE2.bound
  · have e1 : s.err i bit = 2 := if_neg hg
    have e2 : s.putI i bit = s := if_neg hg
    rw [e1, e2]
    have hbad : i < 0 ∨ (s.st.length : Int) ≤ i ∨ (bit ≠ 0 ∧ bit ≠ 1) := by
      simp only [ES.good, Bool.and_eq_true, Bool.or_eq_true, decide_eq_true_eq] at hg
      omega
    refine (enc_put_arg w g A s.st.length c i bit hR.iv.s hR.real hbad).mono ?_
    rintro e w' ⟨rfl, rfl⟩
    exact ⟨rfl, ⟨A, c, vo, hR.bound.mono (fun k hk => ⟨.inl hk.1, hk.2⟩)⟩, Mods.refl _ _⟩
def EndPost (w : World) (l : List Int) (e : Ending) (w' : World) : Prop := ∃ A c, e = .returned (.slice A l.length c) ∧ Kd.R (Kd.int .u8) 5 w' w.heap.size (fun _ => True) (.slice A l.length c) l ∧ Below w.heap.size w w'
set_option maxHeartbeats 4000000 in
set_option maxRecDepth 100000 in
theorem end_row (w : World) (S : Nat → Prop) (g : Nat) (kind : Int) (A : Option Addr) (c : Nat) (st : List Int) (low high : Int) (vo : Value) (out : List Int) (hE : EncRow w S g kind A c st low high vo out) (hl0 : 0 ≤ low) (hlh : low ≤ high) (hh : high ≤ 4294967295) (hlen : out.length ≤ 1099511627880) :
    Calls Try.prog 39 #[.pointer (some ⟨g, 0, none⟩)] w (EndPost w (out ++ endOf low high)) := by
  have HE := Aside0.mk hE
  have h2 := hE.real
  have hh0 : 0 ≤ high := by omega
  clear hE
  have HE1 := Aside0.mk (HE.out.below (below_alloc (Below.refl _ _) (.cells #[] 5)))
  have HB1 := Aside0.mk (below_alloc (Below.refl w.heap.size w) (.cells #[] 5))
  have HR1 : Aside0 (Kd.R (Kd.int .u8) 5 (w.alloc (.cells #[] 5)) w.heap.size (fun _ => True) (.slice (some ⟨w.heap.size, 0, none⟩) 0 0) []) := ⟨Kd.R_of_own (enc := Value.int .u8) (World.ownsRow_lit w #[] 0 (Nat.le_refl _) (by decide) rfl) (fun _ _ => trivial)⟩
  have hcv : (w.alloc (.cells #[] 5)).cell? ⟨g, 36, none⟩ = some vo := HE1.out.vo_
  obtain ⟨Ao, co, hvo⟩ := Kd.R_slice HE.out.o
  subst hvo
  have HCo := Aside0.mk (Kd.R_reads' HE1.out.o).2.2
  go_enter Try.func39, Try.ntmps39
  go_wp2_with (first
    | (go_at_call 66; refine (enc_none _ _ _ h2).mono ?_; rintro e w' ⟨rfl, rfl⟩)
    | (at_builtin; refine Kd.R_append_rows (Kd.int .u8) (w0 := w) w.heap.size (by rfl) (.tmp 9) (.tmp 13) 34 5 (.int .u8 0) 1 rfl Try.underlying34 infoU8 rfl (by decide) (by omega) (.slice (some ⟨w.heap.size, 0, none⟩) 0 0) [] out _ _ _ (fun _ => True) (fun _ => False) rfl rfl HR1.out HCo.out (fun _ _ h => h) (fun _ h => h.elim) (fun _ _ => trivial) HB1.out (Nat.le_of_lt (by simp)) (by simp only [List.length_nil]; omega) ?_; intro v3 w3 hR3 hB3 hg3 hat3; have HR3 := Aside0.mk hR3; have HB3 := Aside0.mk hB3; clear hR3 hB3 hg3 hat3))
  clear HR1 HB1 HE1 HCo hcv
  rw [List.nil_append] at HR3
  obtain ⟨A3, c3, hv3⟩ := Kd.R_slice HR3.out
  subst hv3
  go_loopw [3, 15] (fun o i wr => ∃ (k : Nat), k ≤ 4 ∧ i = .int .i64 k ∧ o = .slice A3 out.length c3 ∧ Aside0 (k ≤ endN low high) ∧ Aside0 (Kd.R (Kd.int .u8) 5 wr w.heap.size (fun _ => True) (.slice A3 out.length c3) out) ∧ Aside0 (Below w.heap.size w wr)) (fun _ i _ => 5 - (intOf i).toNat)
  case atStart => exact ⟨0, by omega, rfl, rfl, ⟨Nat.zero_le _⟩, HR3, HB3⟩
  clear HR3 HB3 h2
  case round =>
    obtain ⟨k, hk, rfl, rfl, HK, HR4, HB4⟩ := hrel
    have k34 := (HE.out.below HB4.out).iv.l
    have k35 := (HE.out.below HB4.out).iv.h
    have hcase : k = 0 ∨ k = 1 ∨ k = 2 ∨ k = 3 ∨ k = 4 := by omega
    rcases hcase with rfl | rfl | rfl | rfl | rfl
    · by_cases ct : low ≤ high / 4294967296 * 4294967296
      · have hEN : endN low high = 0 := by
          have := HK.out
          unfold endN at this ⊢
          repeat' split
          all_goals (first | rfl | omega | (split at this <;> omega))
        have hend : out ++ endOf low high = out ++ (hiBytes high).take 0 := by unfold endOf; rw [hEN]
        have HEND := Aside0.mk hend
        clear hEN hend
        go_wp2
        go_quiet (fail)
        go_wp2
        clear k34 k35 HK
        go_loopg [3, 38] 0 (fun d o i w5 => ∃ (j : Nat), j ≤ 0 ∧ Aside0 (j + d = 0) ∧ i = .int .i64 j ∧ ∃ A5 c5, o = .slice A5 (out.length + j) c5 ∧ Aside0 (Kd.R (Kd.int .u8) 5 w5 w.heap.size (fun _ => True) (.slice A5 (out.length + j) c5) (out ++ (hiBytes high).take j)) ∧ Aside0 (Below w.heap.size w w5))
        case atStart => exact ⟨0, by omega, ⟨by omega⟩, rfl, A3, c3, rfl, ⟨by rw [List.take_zero, List.append_nil]; exact Kd.R_drewN HR4.out _⟩, ⟨pw_below_drewN HB4.out _⟩⟩
        clear HR4 HB4
        case round =>
          obtain ⟨j, hj, HD, rfl, A5, c5, rfl, HR6, HB6⟩ := hrel
          have k35 := (HE.out.below HB6.out).iv.h
          have hcase : j = 0 := by omega
          subst hcase
          · go_wp2
            go_ret
            refine ⟨A5, c5, ?_, ?_, HB6.out⟩
            · rw [HEND.out]; simp [hiBytes]
            · have := HR6.out
              rw [HEND.out]
              simp [hiBytes] at this ⊢
              exact this
      · have HN : 1 ≤ endN low high := by
          have := HK.out
          unfold endN at this ⊢
          repeat' split
          all_goals (first | omega | (split at this <;> omega))
        go_wp2
        go_quiet (fail)
        go_wp2
        go_roundw
        case rel => exact ⟨1, by omega, rfl, rfl, ⟨HN⟩, ⟨Kd.R_drewN HR4.out _⟩, ⟨pw_below_drewN HB4.out _⟩⟩
        case measure => simp [intOf]
    · by_cases ct : low ≤ high / 16777216 * 16777216
      · have hEN : endN low high = 1 := by
          have := HK.out
          unfold endN at this ⊢
          repeat' split
          all_goals (first | rfl | omega | (split at this <;> omega))
        have hend : out ++ endOf low high = out ++ (hiBytes high).take 1 := by unfold endOf; rw [hEN]
        have HEND := Aside0.mk hend
        clear hEN hend
        go_wp2
        go_quiet (fail)
        go_wp2
        clear k34 k35 HK
        go_loopg [3, 38] 1 (fun d o i w5 => ∃ (j : Nat), j ≤ 1 ∧ Aside0 (j + d = 1) ∧ i = .int .i64 j ∧ ∃ A5 c5, o = .slice A5 (out.length + j) c5 ∧ Aside0 (Kd.R (Kd.int .u8) 5 w5 w.heap.size (fun _ => True) (.slice A5 (out.length + j) c5) (out ++ (hiBytes high).take j)) ∧ Aside0 (Below w.heap.size w w5))
        case atStart => exact ⟨0, by omega, ⟨by omega⟩, rfl, A3, c3, rfl, ⟨by rw [List.take_zero, List.append_nil]; exact Kd.R_drewN HR4.out _⟩, ⟨pw_below_drewN HB4.out _⟩⟩
        clear HR4 HB4
        case round =>
          obtain ⟨j, hj, HD, rfl, A5, c5, rfl, HR6, HB6⟩ := hrel
          have k35 := (HE.out.below HB6.out).iv.h
          have hcase : j = 0 ∨ j = 1 := by omega
          rcases hcase with rfl | rfl
          · have HB7 := Aside0.mk (below_alloc HB6.out (.cells #[.int .u8 (high / 16777216)] 5))
            have hle := HB6.out.size
            go_wp2_with (at_builtin; refine Kd.R_append (Kd.int .u8) (w0 := w) w.heap.size (by rfl) (.tmp 41) (.tmp 52) 34 5 (.int .u8 0) 1 rfl Try.underlying34 infoU8 rfl (by decide) (by decide) (.slice A5 (out.length + 0) c5) (out ++ (hiBytes high).take 0) (high / 16777216) [.int .u8 (high / 16777216)] (fun _ => True) (fun _ => False) rfl rfl rfl (fun _ h => h.elim) (fun _ _ => trivial) HR6.out HB6.out hle (by simp only [hiBytes, List.length_append, List.length_take, List.length_cons, List.length_nil]; omega) ?_; intro v8 w8 hR8 hB8 hg8 hat8; obtain ⟨A8, c8, hv8⟩ := Kd.R_slice hR8; rw [show (out ++ (hiBytes high).take 0 ++ [high / 16777216]).length = out.length + 1 by simp [hiBytes]] at hv8; subst hv8; have HR8 := Aside0.mk (show Kd.R (Kd.int .u8) 5 w8 w.heap.size (fun _ => True) (.slice A8 (out.length + 1) c8) (out ++ (hiBytes high).take 1) from by simpa [hiBytes] using hR8); have HB8 := Aside0.mk hB8; clear hR8 hB8 hg8 hat8)
            go_roundg 0
            case measure => have := HD.out; omega
            case rel => exact ⟨1, by omega, ⟨by omega⟩, rfl, A8, c8, rfl, HR8, HB8⟩
          · go_wp2
            go_ret
            refine ⟨A5, c5, ?_, ?_, HB6.out⟩
            · rw [HEND.out]; simp [hiBytes]
            · have := HR6.out
              rw [HEND.out]
              simp [hiBytes] at this ⊢
              exact this
      · have HN : 2 ≤ endN low high := by
          have := HK.out
          unfold endN at this ⊢
          repeat' split
          all_goals (first | omega | (split at this <;> omega))
        go_wp2
        go_quiet (fail)
        go_wp2
        go_roundw
        case rel => exact ⟨2, by omega, rfl, rfl, ⟨HN⟩, ⟨Kd.R_drewN HR4.out _⟩, ⟨pw_below_drewN HB4.out _⟩⟩
        case measure => simp [intOf]
    · by_cases ct : low ≤ high / 65536 * 65536
      · have hEN : endN low high = 2 := by
          have := HK.out
          unfold endN at this ⊢
          repeat' split
          all_goals (first | rfl | omega | (split at this <;> omega))
        have hend : out ++ endOf low high = out ++ (hiBytes high).take 2 := by unfold endOf; rw [hEN]
        have HEND := Aside0.mk hend
        clear hEN hend
        go_wp2
        go_quiet (fail)
        go_wp2
        clear k34 k35 HK
        go_loopg [3, 38] 2 (fun d o i w5 => ∃ (j : Nat), j ≤ 2 ∧ Aside0 (j + d = 2) ∧ i = .int .i64 j ∧ ∃ A5 c5, o = .slice A5 (out.length + j) c5 ∧ Aside0 (Kd.R (Kd.int .u8) 5 w5 w.heap.size (fun _ => True) (.slice A5 (out.length + j) c5) (out ++ (hiBytes high).take j)) ∧ Aside0 (Below w.heap.size w w5))
        case atStart => exact ⟨0, by omega, ⟨by omega⟩, rfl, A3, c3, rfl, ⟨by rw [List.take_zero, List.append_nil]; exact Kd.R_drewN HR4.out _⟩, ⟨pw_below_drewN HB4.out _⟩⟩
        clear HR4 HB4
        case round =>
          obtain ⟨j, hj, HD, rfl, A5, c5, rfl, HR6, HB6⟩ := hrel
          have k35 := (HE.out.below HB6.out).iv.h
          have hcase : j = 0 ∨ j = 1 ∨ j = 2 := by omega
          rcases hcase with rfl | rfl | rfl
          · have HB7 := Aside0.mk (below_alloc HB6.out (.cells #[.int .u8 (high / 16777216)] 5))
            have hle := HB6.out.size
            go_wp2_with (at_builtin; refine Kd.R_append (Kd.int .u8) (w0 := w) w.heap.size (by rfl) (.tmp 41) (.tmp 52) 34 5 (.int .u8 0) 1 rfl Try.underlying34 infoU8 rfl (by decide) (by decide) (.slice A5 (out.length + 0) c5) (out ++ (hiBytes high).take 0) (high / 16777216) [.int .u8 (high / 16777216)] (fun _ => True) (fun _ => False) rfl rfl rfl (fun _ h => h.elim) (fun _ _ => trivial) HR6.out HB6.out hle (by simp only [hiBytes, List.length_append, List.length_take, List.length_cons, List.length_nil]; omega) ?_; intro v8 w8 hR8 hB8 hg8 hat8; obtain ⟨A8, c8, hv8⟩ := Kd.R_slice hR8; rw [show (out ++ (hiBytes high).take 0 ++ [high / 16777216]).length = out.length + 1 by simp [hiBytes]] at hv8; subst hv8; have HR8 := Aside0.mk (show Kd.R (Kd.int .u8) 5 w8 w.heap.size (fun _ => True) (.slice A8 (out.length + 1) c8) (out ++ (hiBytes high).take 1) from by simpa [hiBytes] using hR8); have HB8 := Aside0.mk hB8; clear hR8 hB8 hg8 hat8)
            go_roundg 1
            case measure => have := HD.out; omega
            case rel => exact ⟨1, by omega, ⟨by omega⟩, rfl, A8, c8, rfl, HR8, HB8⟩
          · have HB7 := Aside0.mk (below_alloc HB6.out (.cells #[.int .u8 (high / 65536 % 256)] 5))
            have hle := HB6.out.size
            go_wp2_with (at_builtin; refine Kd.R_append (Kd.int .u8) (w0 := w) w.heap.size (by rfl) (.tmp 41) (.tmp 52) 34 5 (.int .u8 0) 1 rfl Try.underlying34 infoU8 rfl (by decide) (by decide) (.slice A5 (out.length + 1) c5) (out ++ (hiBytes high).take 1) (high / 65536 % 256) [.int .u8 (high / 65536 % 256)] (fun _ => True) (fun _ => False) rfl rfl rfl (fun _ h => h.elim) (fun _ _ => trivial) HR6.out HB6.out hle (by simp only [hiBytes, List.length_append, List.length_take, List.length_cons, List.length_nil]; omega) ?_; intro v8 w8 hR8 hB8 hg8 hat8; obtain ⟨A8, c8, hv8⟩ := Kd.R_slice hR8; rw [show (out ++ (hiBytes high).take 1 ++ [high / 65536 % 256]).length = out.length + 2 by simp [hiBytes]] at hv8; subst hv8; have HR8 := Aside0.mk (show Kd.R (Kd.int .u8) 5 w8 w.heap.size (fun _ => True) (.slice A8 (out.length + 2) c8) (out ++ (hiBytes high).take 2) from by simpa [hiBytes] using hR8); have HB8 := Aside0.mk hB8; clear hR8 hB8 hg8 hat8)
            go_roundg 0
            case measure => have := HD.out; omega
            case rel => exact ⟨2, by omega, ⟨by omega⟩, rfl, A8, c8, rfl, HR8, HB8⟩
          · go_wp2
            go_ret
            refine ⟨A5, c5, ?_, ?_, HB6.out⟩
            · rw [HEND.out]; simp [hiBytes]
            · have := HR6.out
              rw [HEND.out]
              simp [hiBytes] at this ⊢
              exact this
      · have HN : 3 ≤ endN low high := by
          have := HK.out
          unfold endN at this ⊢
          repeat' split
          all_goals (first | omega | (split at this <;> omega))
        go_wp2
        go_quiet (fail)
        go_wp2
        go_roundw
        case rel => exact ⟨3, by omega, rfl, rfl, ⟨HN⟩, ⟨Kd.R_drewN HR4.out _⟩, ⟨pw_below_drewN HB4.out _⟩⟩
        case measure => simp [intOf]
    · by_cases ct : low ≤ high / 256 * 256
      · have hEN : endN low high = 3 := by
          have := HK.out
          unfold endN at this ⊢
          repeat' split
          all_goals (first | rfl | omega | (split at this <;> omega))
        have hend : out ++ endOf low high = out ++ (hiBytes high).take 3 := by unfold endOf; rw [hEN]
        have HEND := Aside0.mk hend
        clear hEN hend
        go_wp2
        go_quiet (fail)
        go_wp2
        clear k34 k35 HK
        go_loopg [3, 38] 3 (fun d o i w5 => ∃ (j : Nat), j ≤ 3 ∧ Aside0 (j + d = 3) ∧ i = .int .i64 j ∧ ∃ A5 c5, o = .slice A5 (out.length + j) c5 ∧ Aside0 (Kd.R (Kd.int .u8) 5 w5 w.heap.size (fun _ => True) (.slice A5 (out.length + j) c5) (out ++ (hiBytes high).take j)) ∧ Aside0 (Below w.heap.size w w5))
        case atStart => exact ⟨0, by omega, ⟨by omega⟩, rfl, A3, c3, rfl, ⟨by rw [List.take_zero, List.append_nil]; exact Kd.R_drewN HR4.out _⟩, ⟨pw_below_drewN HB4.out _⟩⟩
        clear HR4 HB4
        case round =>
          obtain ⟨j, hj, HD, rfl, A5, c5, rfl, HR6, HB6⟩ := hrel
          have k35 := (HE.out.below HB6.out).iv.h
          have hcase : j = 0 ∨ j = 1 ∨ j = 2 ∨ j = 3 := by omega
          rcases hcase with rfl | rfl | rfl | rfl
          · have HB7 := Aside0.mk (below_alloc HB6.out (.cells #[.int .u8 (high / 16777216)] 5))
            have hle := HB6.out.size
            go_wp2_with (at_builtin; refine Kd.R_append (Kd.int .u8) (w0 := w) w.heap.size (by rfl) (.tmp 41) (.tmp 52) 34 5 (.int .u8 0) 1 rfl Try.underlying34 infoU8 rfl (by decide) (by decide) (.slice A5 (out.length + 0) c5) (out ++ (hiBytes high).take 0) (high / 16777216) [.int .u8 (high / 16777216)] (fun _ => True) (fun _ => False) rfl rfl rfl (fun _ h => h.elim) (fun _ _ => trivial) HR6.out HB6.out hle (by simp only [hiBytes, List.length_append, List.length_take, List.length_cons, List.length_nil]; omega) ?_; intro v8 w8 hR8 hB8 hg8 hat8; obtain ⟨A8, c8, hv8⟩ := Kd.R_slice hR8; rw [show (out ++ (hiBytes high).take 0 ++ [high / 16777216]).length = out.length + 1 by simp [hiBytes]] at hv8; subst hv8; have HR8 := Aside0.mk (show Kd.R (Kd.int .u8) 5 w8 w.heap.size (fun _ => True) (.slice A8 (out.length + 1) c8) (out ++ (hiBytes high).take 1) from by simpa [hiBytes] using hR8); have HB8 := Aside0.mk hB8; clear hR8 hB8 hg8 hat8)
            go_roundg 2
            case measure => have := HD.out; omega
            case rel => exact ⟨1, by omega, ⟨by omega⟩, rfl, A8, c8, rfl, HR8, HB8⟩
          · have HB7 := Aside0.mk (below_alloc HB6.out (.cells #[.int .u8 (high / 65536 % 256)] 5))
            have hle := HB6.out.size
            go_wp2_with (at_builtin; refine Kd.R_append (Kd.int .u8) (w0 := w) w.heap.size (by rfl) (.tmp 41) (.tmp 52) 34 5 (.int .u8 0) 1 rfl Try.underlying34 infoU8 rfl (by decide) (by decide) (.slice A5 (out.length + 1) c5) (out ++ (hiBytes high).take 1) (high / 65536 % 256) [.int .u8 (high / 65536 % 256)] (fun _ => True) (fun _ => False) rfl rfl rfl (fun _ h => h.elim) (fun _ _ => trivial) HR6.out HB6.out hle (by simp only [hiBytes, List.length_append, List.length_take, List.length_cons, List.length_nil]; omega) ?_; intro v8 w8 hR8 hB8 hg8 hat8; obtain ⟨A8, c8, hv8⟩ := Kd.R_slice hR8; rw [show (out ++ (hiBytes high).take 1 ++ [high / 65536 % 256]).length = out.length + 2 by simp [hiBytes]] at hv8; subst hv8; have HR8 := Aside0.mk (show Kd.R (Kd.int .u8) 5 w8 w.heap.size (fun _ => True) (.slice A8 (out.length + 2) c8) (out ++ (hiBytes high).take 2) from by simpa [hiBytes] using hR8); have HB8 := Aside0.mk hB8; clear hR8 hB8 hg8 hat8)
            go_roundg 1
            case measure => have := HD.out; omega
            case rel => exact ⟨2, by omega, ⟨by omega⟩, rfl, A8, c8, rfl, HR8, HB8⟩
          · have HB7 := Aside0.mk (below_alloc HB6.out (.cells #[.int .u8 (high / 256 % 256)] 5))
            have hle := HB6.out.size
            go_wp2_with (at_builtin; refine Kd.R_append (Kd.int .u8) (w0 := w) w.heap.size (by rfl) (.tmp 41) (.tmp 52) 34 5 (.int .u8 0) 1 rfl Try.underlying34 infoU8 rfl (by decide) (by decide) (.slice A5 (out.length + 2) c5) (out ++ (hiBytes high).take 2) (high / 256 % 256) [.int .u8 (high / 256 % 256)] (fun _ => True) (fun _ => False) rfl rfl rfl (fun _ h => h.elim) (fun _ _ => trivial) HR6.out HB6.out hle (by simp only [hiBytes, List.length_append, List.length_take, List.length_cons, List.length_nil]; omega) ?_; intro v8 w8 hR8 hB8 hg8 hat8; obtain ⟨A8, c8, hv8⟩ := Kd.R_slice hR8; rw [show (out ++ (hiBytes high).take 2 ++ [high / 256 % 256]).length = out.length + 3 by simp [hiBytes]] at hv8; subst hv8; have HR8 := Aside0.mk (show Kd.R (Kd.int .u8) 5 w8 w.heap.size (fun _ => True) (.slice A8 (out.length + 3) c8) (out ++ (hiBytes high).take 3) from by simpa [hiBytes] using hR8); have HB8 := Aside0.mk hB8; clear hR8 hB8 hg8 hat8)
            go_roundg 0
            case measure => have := HD.out; omega
            case rel => exact ⟨3, by omega, ⟨by omega⟩, rfl, A8, c8, rfl, HR8, HB8⟩
          · go_wp2
            go_ret
            refine ⟨A5, c5, ?_, ?_, HB6.out⟩
            · rw [HEND.out]; simp [hiBytes]
            · have := HR6.out
              rw [HEND.out]
              simp [hiBytes] at this ⊢
              exact this
      · have HN : 4 ≤ endN low high := by
          have := HK.out
          unfold endN at this ⊢
          repeat' split
          all_goals (first | omega | (split at this <;> omega))
        go_wp2
        go_quiet (fail)
        go_wp2
        go_roundw
        case rel => exact ⟨4, by omega, rfl, rfl, ⟨HN⟩, ⟨Kd.R_drewN HR4.out _⟩, ⟨pw_below_drewN HB4.out _⟩⟩
        case measure => simp [intOf]
    · by_cases ct : low ≤ high / 1 * 1
      · have hEN : endN low high = 4 := by
          have := HK.out
          unfold endN at this ⊢
          repeat' split
          all_goals (first | rfl | omega | (split at this <;> omega))
        have hend : out ++ endOf low high = out ++ (hiBytes high).take 4 := by unfold endOf; rw [hEN]
        have HEND := Aside0.mk hend
        clear hEN hend
        go_wp2
        go_quiet (fail)
        go_wp2
        clear k34 k35 HK
        go_loopg [3, 38] 4 (fun d o i w5 => ∃ (j : Nat), j ≤ 4 ∧ Aside0 (j + d = 4) ∧ i = .int .i64 j ∧ ∃ A5 c5, o = .slice A5 (out.length + j) c5 ∧ Aside0 (Kd.R (Kd.int .u8) 5 w5 w.heap.size (fun _ => True) (.slice A5 (out.length + j) c5) (out ++ (hiBytes high).take j)) ∧ Aside0 (Below w.heap.size w w5))
        case atStart => exact ⟨0, by omega, ⟨by omega⟩, rfl, A3, c3, rfl, ⟨by rw [List.take_zero, List.append_nil]; exact Kd.R_drewN HR4.out _⟩, ⟨pw_below_drewN HB4.out _⟩⟩
        clear HR4 HB4
        case round =>
          obtain ⟨j, hj, HD, rfl, A5, c5, rfl, HR6, HB6⟩ := hrel
          have k35 := (HE.out.below HB6.out).iv.h
          have hcase : j = 0 ∨ j = 1 ∨ j = 2 ∨ j = 3 ∨ j = 4 := by omega
          rcases hcase with rfl | rfl | rfl | rfl | rfl
          · have HB7 := Aside0.mk (below_alloc HB6.out (.cells #[.int .u8 (high / 16777216)] 5))
            have hle := HB6.out.size
            go_wp2_with (at_builtin; refine Kd.R_append (Kd.int .u8) (w0 := w) w.heap.size (by rfl) (.tmp 41) (.tmp 52) 34 5 (.int .u8 0) 1 rfl Try.underlying34 infoU8 rfl (by decide) (by decide) (.slice A5 (out.length + 0) c5) (out ++ (hiBytes high).take 0) (high / 16777216) [.int .u8 (high / 16777216)] (fun _ => True) (fun _ => False) rfl rfl rfl (fun _ h => h.elim) (fun _ _ => trivial) HR6.out HB6.out hle (by simp only [hiBytes, List.length_append, List.length_take, List.length_cons, List.length_nil]; omega) ?_; intro v8 w8 hR8 hB8 hg8 hat8; obtain ⟨A8, c8, hv8⟩ := Kd.R_slice hR8; rw [show (out ++ (hiBytes high).take 0 ++ [high / 16777216]).length = out.length + 1 by simp [hiBytes]] at hv8; subst hv8; have HR8 := Aside0.mk (show Kd.R (Kd.int .u8) 5 w8 w.heap.size (fun _ => True) (.slice A8 (out.length + 1) c8) (out ++ (hiBytes high).take 1) from by simpa [hiBytes] using hR8); have HB8 := Aside0.mk hB8; clear hR8 hB8 hg8 hat8)
            go_roundg 3
            case measure => have := HD.out; omega
            case rel => exact ⟨1, by omega, ⟨by omega⟩, rfl, A8, c8, rfl, HR8, HB8⟩
          · have HB7 := Aside0.mk (below_alloc HB6.out (.cells #[.int .u8 (high / 65536 % 256)] 5))
            have hle := HB6.out.size
            go_wp2_with (at_builtin; refine Kd.R_append (Kd.int .u8) (w0 := w) w.heap.size (by rfl) (.tmp 41) (.tmp 52) 34 5 (.int .u8 0) 1 rfl Try.underlying34 infoU8 rfl (by decide) (by decide) (.slice A5 (out.length + 1) c5) (out ++ (hiBytes high).take 1) (high / 65536 % 256) [.int .u8 (high / 65536 % 256)] (fun _ => True) (fun _ => False) rfl rfl rfl (fun _ h => h.elim) (fun _ _ => trivial) HR6.out HB6.out hle (by simp only [hiBytes, List.length_append, List.length_take, List.length_cons, List.length_nil]; omega) ?_; intro v8 w8 hR8 hB8 hg8 hat8; obtain ⟨A8, c8, hv8⟩ := Kd.R_slice hR8; rw [show (out ++ (hiBytes high).take 1 ++ [high / 65536 % 256]).length = out.length + 2 by simp [hiBytes]] at hv8; subst hv8; have HR8 := Aside0.mk (show Kd.R (Kd.int .u8) 5 w8 w.heap.size (fun _ => True) (.slice A8 (out.length + 2) c8) (out ++ (hiBytes high).take 2) from by simpa [hiBytes] using hR8); have HB8 := Aside0.mk hB8; clear hR8 hB8 hg8 hat8)
            go_roundg 2
            case measure => have := HD.out; omega
            case rel => exact ⟨2, by omega, ⟨by omega⟩, rfl, A8, c8, rfl, HR8, HB8⟩
          · have HB7 := Aside0.mk (below_alloc HB6.out (.cells #[.int .u8 (high / 256 % 256)] 5))
            have hle := HB6.out.size
            go_wp2_with (at_builtin; refine Kd.R_append (Kd.int .u8) (w0 := w) w.heap.size (by rfl) (.tmp 41) (.tmp 52) 34 5 (.int .u8 0) 1 rfl Try.underlying34 infoU8 rfl (by decide) (by decide) (.slice A5 (out.length + 2) c5) (out ++ (hiBytes high).take 2) (high / 256 % 256) [.int .u8 (high / 256 % 256)] (fun _ => True) (fun _ => False) rfl rfl rfl (fun _ h => h.elim) (fun _ _ => trivial) HR6.out HB6.out hle (by simp only [hiBytes, List.length_append, List.length_take, List.length_cons, List.length_nil]; omega) ?_; intro v8 w8 hR8 hB8 hg8 hat8; obtain ⟨A8, c8, hv8⟩ := Kd.R_slice hR8; rw [show (out ++ (hiBytes high).take 2 ++ [high / 256 % 256]).length = out.length + 3 by simp [hiBytes]] at hv8; subst hv8; have HR8 := Aside0.mk (show Kd.R (Kd.int .u8) 5 w8 w.heap.size (fun _ => True) (.slice A8 (out.length + 3) c8) (out ++ (hiBytes high).take 3) from by simpa [hiBytes] using hR8); have HB8 := Aside0.mk hB8; clear hR8 hB8 hg8 hat8)
            go_roundg 1
            case measure => have := HD.out; omega
            case rel => exact ⟨3, by omega, ⟨by omega⟩, rfl, A8, c8, rfl, HR8, HB8⟩
          · have HB7 := Aside0.mk (below_alloc HB6.out (.cells #[.int .u8 (high % 256)] 5))
            have hle := HB6.out.size
            go_wp2_with (at_builtin; refine Kd.R_append (Kd.int .u8) (w0 := w) w.heap.size (by rfl) (.tmp 41) (.tmp 52) 34 5 (.int .u8 0) 1 rfl Try.underlying34 infoU8 rfl (by decide) (by decide) (.slice A5 (out.length + 3) c5) (out ++ (hiBytes high).take 3) (high % 256) [.int .u8 (high % 256)] (fun _ => True) (fun _ => False) rfl rfl rfl (fun _ h => h.elim) (fun _ _ => trivial) HR6.out HB6.out hle (by simp only [hiBytes, List.length_append, List.length_take, List.length_cons, List.length_nil]; omega) ?_; intro v8 w8 hR8 hB8 hg8 hat8; obtain ⟨A8, c8, hv8⟩ := Kd.R_slice hR8; rw [show (out ++ (hiBytes high).take 3 ++ [high % 256]).length = out.length + 4 by simp [hiBytes]] at hv8; subst hv8; have HR8 := Aside0.mk (show Kd.R (Kd.int .u8) 5 w8 w.heap.size (fun _ => True) (.slice A8 (out.length + 4) c8) (out ++ (hiBytes high).take 4) from by simpa [hiBytes] using hR8); have HB8 := Aside0.mk hB8; clear hR8 hB8 hg8 hat8)
            go_roundg 0
            case measure => have := HD.out; omega
            case rel => exact ⟨4, by omega, ⟨by omega⟩, rfl, A8, c8, rfl, HR8, HB8⟩
          · go_wp2
            go_ret
            refine ⟨A5, c5, ?_, ?_, HB6.out⟩
            · rw [HEND.out]; simp [hiBytes]
            · have := HR6.out
              rw [HEND.out]
              simp [hiBytes] at this ⊢
              exact this
      · exact absurd ct (by omega)
theorem end_calls (w : World) (S : Nat → Prop) (g : Nat) (s : ES) (hE : EncAt w S g s) (hok : s.ok) (hlen : s.out.length ≤ 1099511627880) :
    Calls Try.prog 39 #[.pointer (some ⟨g, 0, none⟩)] w (EndPost w s.end_) := by
  obtain ⟨A, c, vo, hR⟩ := hE
  exact end_row w S g s.kind A c s.st s.low s.high vo s.out hR hok.l hok.lh hok.h hlen
end Go.Proofs.Ytlnhahnnjbfjdaa.End
namespace Go.Proofs.Ytlnhahnnjbfjdaa.Snc
open Go Go.RowKit Go.Proofs.YtlnhahnnjbfjdaaW.PrintWords Go.Proofs.YtlnhahnnjbfjdaaW.PrintLast Go.Proofs.YtlnhahnnjbfjdaaW.PrintMore Go.Proofs.Ytlnhahnnjbfjdaa.Aid Go.Proofs.Ytlnhahnnjbfjdaa.HandAid Go.Proofs.Ytlnhahnnjbfjdaa.Cod1 Go.Proofs.Ytlnhahnnjbfjdaa.Cod2 Go.Proofs.Ytlnhahnnjbfjdaa.Cod3 Go.Proofs.Ytlnhahnnjbfjdaa.Mod Go.Proofs.Ytlnhahnnjbfjdaa.Enc Go.Proofs.Ytlnhahnnjbfjdaa.Mods Go.Proofs.Ytlnhahnnjbfjdaa.EncAt Go.Proofs.Ytlnhahnnjbfjdaa.Put Go.Proofs.Ytlnhahnnjbfjdaa.End Go.Proofs.Ytlnhahnnjbfjdaa.U
/-- A new encoder's state. -/
def newES (kind : Int) (st : List Int) : ES := ⟨kind, st, 0, 4294967295, []⟩
theorem newES_ok {kind : Int} {st : List Int} (h : okModel kind st) : (newES kind st).ok := ⟨h, show (0 : Int) ≤ 0 by decide, show (0 : Int) ≤ 4294967295 by decide, show (4294967295 : Int) ≤ 4294967295 by decide, show (0 : Int) / 16777216 ≠ 4294967295 / 16777216 by decide⟩
/-- The blocks from B on, as far as they go. -/
def Since (B : Nat) (W : World) (k : Nat) : Prop := B ≤ k ∧ k < W.heap.size
theorem new_enc (A : Option Addr) (c : Nat) (kind : Int) (st : List Int) (w : World) (hC : Kd.C (Kd.int .i64) w A st.length st) (hc : st.length ≤ c) (hm : okModel kind st) :
    Calls Try.prog 35 #[.agg #[.int .i64 kind, .slice A st.length c]] w fun e w' => ∃ g, e = .returned (.tuple #[.pointer (some ⟨g, 0, none⟩), .int .i64 0]) ∧ EncAt w' (Since w.heap.size w') g (newES kind st) ∧ Below w.heap.size w w' := by
  refine (newenc_calls A c kind st w hC hc hm).mono ?_
  rintro e w' ⟨g, rfl, hE, hb⟩
  refine ⟨g, rfl, ?_, hb⟩
  obtain ⟨A', n', c', vo, hh, hs, ho⟩ := hE.ex
  obtain ⟨hn, _, _⟩ := Kd.R_reads' hs
  subst hn
  exact ⟨A', c', vo, hh, Kd.R_lower hs (Nat.zero_le _), Kd.R_lower ho (Nat.zero_le _), hE.og⟩
end Go.Proofs.Ytlnhahnnjbfjdaa.Snc
/-
  DERIVED: THE SHELF's CONTRACTS AT THIS DUMP, IN PLAIN WORDS (tools/lay-plain.mjs out of 'TryShelf.lean', which tools/lay-shelf.mjs wrote): THE SAME DECLARATIONS UNDER THE SAME NAMES: 'import', 'namespace', 'open', 'def', 'theorem' AND NOTHING ELSE: no command of the shelf's: FOR A HAND-IN. Each laying: the table of numbers ('.._ren') and one theorem, a field a fact of the dump's own or the kernel's comparison; each contract: ONE APPLICATION.
-/
namespace Go.Proofs
open Go.Shelf
def Try.lays125_ren : Go.Shelf.Ren := ⟨fun | 125 => 47 | 128 => 70 | 129 => 71 | n => n, fun | 46 => 89 | 3 => 3 | 51 => 119 | 53 => 93 | 4 => 4 | 5 => 5 | 9 => 9 | n => n, fun | n => n⟩
theorem Try.lays125 : Go.Proofs.Lays.n125 Try.prog Try.lays125_ren := {
  mixed := by kernel_rfl
  f125 := Try.func47.trans (congrArg some (by kernel_rfl))
  f128 := Try.func70.trans (congrArg some (by kernel_rfl))
  f129 := Try.func71.trans (congrArg some (by kernel_rfl))
  t3 := Try.underlying3
  a3 := Try.isAgg3
  z3 := Try.sizeOf3
  v3 := Try.zeroValue3
  t4 := Try.underlying4
  a4 := Try.isAgg4
  z4 := Try.sizeOf4
  v4 := Try.zeroValue4
  t5 := Try.underlying5
  a5 := Try.isAgg5
  z5 := Try.sizeOf5
  v5 := Try.zeroValue5
  t9 := Try.underlying9
  a9 := Try.isAgg9
  z9 := Try.sizeOf9
  v9 := Try.zeroValue9
  t46 := Try.underlying89
  a46 := Try.isAgg89
  z46 := Try.sizeOf89
  v46 := Try.zeroValue89
  t51 := Try.underlying119
  a51 := Try.isAgg119
  z51 := Try.sizeOf119
  v51 := Try.zeroValue119
  t53 := Try.underlying93
  a53 := Try.isAgg93
  z53 := Try.sizeOf93
  v53 := Try.zeroValue93 }
/-- bits.Len: "Len returns the minimum number of bits required to represent x; the result is 0 for x == 0.": IT RETURNS 'Lib.bitLen x'; the world is as it was. (A uint has 64 bits in the model.) ITS CALLEE bits.Len64 IS MET BY ITS OWN CONTRACT OFF THE SHELF (lay that first). (LAID: no walk: one application.) -/
theorem Try.bits_Len (x : Int) (w : World) (h0 : 0 ≤ x) (h1 : x ≤ 18446744073709551615) :
    Calls Try.prog 47 #[.int .u64 x] w fun e w' => e = .returned (.int .i64 (Lib.bitLen x.toNat)) ∧ w' = w := Any.bits_Len Try.lays125 x w h0 h1
end Go.Proofs
namespace Go.Proofs.Ytlnhahnnjbfjdaa.U
open Go.RowKit Go.Proofs.YtlnhahnnjbfjdaaW.PrintWords Go.Proofs.YtlnhahnnjbfjdaaW.PrintLast Go.Proofs.YtlnhahnnjbfjdaaW.PrintMore
attribute [local go_sem] max2_int min2_int max_two min_two max_three min_three max_four min_four   -- for this text's walks alone
def number_Valid.f (a0_0 : Bool) (a0_1 : Int) : Option (Bool) := if a0_0 = true then (some (a0_1 == 0)) else (if a0_1 ≥ (-1048576) then (some (decide (a0_1 ≤ 1048576))) else (some false))
set_option maxHeartbeats 8000000 in
set_option maxRecDepth 100000 in
theorem number_Valid.calls (a0_0 : Bool) (a0_1 : Int) (r : Bool) (w : World) (h : number_Valid.f a0_0 a0_1 = some r) :
    Calls Try.prog 13 #[.agg #[.bool a0_0, .int .i64 a0_1]] w fun e w' => e = .returned (.bool r) ∧ Below w.heap.size w w' := by
 have hu23 := Try.underlying23; have HB := Aside0.mk (Below.refl w.heap.size w); have H : (if a0_0 = true then (some (a0_1 == 0)) else (if a0_1 ≥ (-1048576) then (some (decide (a0_1 ≤ 1048576))) else (some false))) = some r := h; clear h; by_cases c2 : a0_0 = true
 (· subst c2; (have H1 : (some (a0_1 == 0)) = some r := by rw [if_pos rfl] at H; exact H); clear H; have H := H1; clear H1; obtain rfl := Option.some.inj H; go_enter Try.func13, Try.ntmps13; go_wp2_with (first | ((with_reducible refine gate_dst (N := 1) rfl ?_); refine box_event ?hg (N := 1) ?hd (cs := #[.bool true, .int .i64 a0_1]) (t := 23) ?hr ?_; (case hd => rfl); (case hg => rfl); (case hr => first | (go_simp; done) | (go_simp; rfl)); intro gb101 hg w3 hbox hb; have n0_ := Aside0.mk (below_step (by repeat (first | (with_reducible first | exact HB.out | apply below_alloc | apply pw_below_drewN | apply below_drew1) | exact HB.out)) hb); have n1_ := Aside0.mk (hbox); have n2_ := Aside0.mk ((by rw [hg]; exact (below_size (by repeat (first | (with_reducible first | exact HB.out | apply below_alloc | apply pw_below_drewN | apply below_drew1) | exact HB.out))) : w.heap.size ≤ gb101)); have n3_ := Aside0.mk ((by rw [hg]; exact (below_size (by repeat (first | (with_reducible first | exact HB.out | apply below_alloc | apply pw_below_drewN | apply below_drew1) | exact HB.out))) : w.heap.size ≤ gb101)); clear HB; have HB := n0_; have BK101 := n1_; have GW101 := n2_; have GE101 := n3_; clear n0_ n1_ n2_ n3_; clear hb hbox hg; have hcz4_0 : w3.cell? ⟨gb101, 0, none⟩ = some (.bool true) := (blk_cell BK101.out 0).trans rfl; have hcz4_1 : w3.cell? ⟨gb101, 1, none⟩ = some (.int .i64 a0_1) := (blk_cell BK101.out 1).trans rfl; have hfz4_0 := blk_frozen BK101.out 0; have hfz4_1 := blk_frozen BK101.out 1)); go_ret; (exact ⟨by first | rfl | (simp [errW_none, errW_some] <;> rfl) | (simp [*, errW_none, errW_some] <;> rfl), by repeat (first | (with_reducible first | exact HB.out | apply below_alloc | apply pw_below_drewN | apply below_drew1 | refine below_set ?_ GE101.out) | exact HB.out)⟩))
 (· replace c2 := Bool.eq_false_iff.mpr c2; subst c2; (have H1 : (if a0_1 ≥ (-1048576) then (some (decide (a0_1 ≤ 1048576))) else (some false)) = some r := by rw [if_neg (show ¬ (false = true) by decide)] at H; exact H); clear H; have H := H1; clear H1; by_cases c5 : a0_1 ≥ (-1048576); (· rw [if_pos c5] at H; have c5b0 : decide ((-1048576) ≤ a0_1) = true := decide_eq_true c5; clear c5; obtain rfl := Option.some.inj H; go_enter Try.func13, Try.ntmps13; go_wp2_with (first | ((with_reducible refine gate_dst (N := 1) rfl ?_); refine box_event ?hg (N := 1) ?hd (cs := #[.bool false, .int .i64 a0_1]) (t := 23) ?hr ?_; (case hd => rfl); (case hg => rfl); (case hr => first | (go_simp; done) | (go_simp; rfl)); intro gb101 hg w6 hbox hb; have n0_ := Aside0.mk (below_step (by repeat (first | (with_reducible first | exact HB.out | apply below_alloc | apply pw_below_drewN | apply below_drew1) | exact HB.out)) hb); have n1_ := Aside0.mk (hbox); have n2_ := Aside0.mk ((by rw [hg]; exact (below_size (by repeat (first | (with_reducible first | exact HB.out | apply below_alloc | apply pw_below_drewN | apply below_drew1) | exact HB.out))) : w.heap.size ≤ gb101)); have n3_ := Aside0.mk ((by rw [hg]; exact (below_size (by repeat (first | (with_reducible first | exact HB.out | apply below_alloc | apply pw_below_drewN | apply below_drew1) | exact HB.out))) : w.heap.size ≤ gb101)); clear HB; have HB := n0_; have BK101 := n1_; have GW101 := n2_; have GE101 := n3_; clear n0_ n1_ n2_ n3_; clear hb hbox hg; have hcz7_0 : w6.cell? ⟨gb101, 0, none⟩ = some (.bool false) := (blk_cell BK101.out 0).trans rfl; have hcz7_1 : w6.cell? ⟨gb101, 1, none⟩ = some (.int .i64 a0_1) := (blk_cell BK101.out 1).trans rfl; have hfz7_0 := blk_frozen BK101.out 0; have hfz7_1 := blk_frozen BK101.out 1)); go_ret; (exact ⟨by first | rfl | (simp [errW_none, errW_some] <;> rfl) | (simp [*, errW_none, errW_some] <;> rfl), by repeat (first | (with_reducible first | exact HB.out | apply below_alloc | apply pw_below_drewN | apply below_drew1 | refine below_set ?_ GE101.out) | exact HB.out)⟩)); (· rw [if_neg c5] at H; have c5b0 : decide ((-1048576) ≤ a0_1) = false := decide_eq_false c5; clear c5; obtain rfl := Option.some.inj H; go_enter Try.func13, Try.ntmps13; go_wp2_with (first | ((with_reducible refine gate_dst (N := 1) rfl ?_); refine box_event ?hg (N := 1) ?hd (cs := #[.bool false, .int .i64 a0_1]) (t := 23) ?hr ?_; (case hd => rfl); (case hg => rfl); (case hr => first | (go_simp; done) | (go_simp; rfl)); intro gb101 hg w8 hbox hb; have n0_ := Aside0.mk (below_step (by repeat (first | (with_reducible first | exact HB.out | apply below_alloc | apply pw_below_drewN | apply below_drew1) | exact HB.out)) hb); have n1_ := Aside0.mk (hbox); have n2_ := Aside0.mk ((by rw [hg]; exact (below_size (by repeat (first | (with_reducible first | exact HB.out | apply below_alloc | apply pw_below_drewN | apply below_drew1) | exact HB.out))) : w.heap.size ≤ gb101)); have n3_ := Aside0.mk ((by rw [hg]; exact (below_size (by repeat (first | (with_reducible first | exact HB.out | apply below_alloc | apply pw_below_drewN | apply below_drew1) | exact HB.out))) : w.heap.size ≤ gb101)); clear HB; have HB := n0_; have BK101 := n1_; have GW101 := n2_; have GE101 := n3_; clear n0_ n1_ n2_ n3_; clear hb hbox hg; have hcz9_0 : w8.cell? ⟨gb101, 0, none⟩ = some (.bool false) := (blk_cell BK101.out 0).trans rfl; have hcz9_1 : w8.cell? ⟨gb101, 1, none⟩ = some (.int .i64 a0_1) := (blk_cell BK101.out 1).trans rfl; have hfz9_0 := blk_frozen BK101.out 0; have hfz9_1 := blk_frozen BK101.out 1)); go_ret; (exact ⟨by first | rfl | (simp [errW_none, errW_some] <;> rfl) | (simp [*, errW_none, errW_some] <;> rfl), by repeat (first | (with_reducible first | exact HB.out | apply below_alloc | apply pw_below_drewN | apply below_drew1 | refine below_set ?_ GE101.out) | exact HB.out)⟩)))
end Go.Proofs.Ytlnhahnnjbfjdaa.U
namespace Go.Proofs.Ytlnhahnnjbfjdaa.U
open Go.RowKit Go.Proofs.YtlnhahnnjbfjdaaW.PrintWords Go.Proofs.YtlnhahnnjbfjdaaW.PrintLast Go.Proofs.YtlnhahnnjbfjdaaW.PrintMore
attribute [local go_sem] max2_int min2_int max_two min_two max_three min_three max_four min_four   -- for this text's walks alone
def IsS117 (w0 W : World) (g : Nat) (f0 : Int) : Prop := W.heap[g]? = some (.cells #[.int .i64 f0] 117 (0, 0)) ∧ w0.heap.size ≤ g
theorem IsS117.grown {w0 W : World} {g : Nat} {f0 : Int} {W1 : World} {row : Option Nat} (h : IsS117 w0 W g f0) (hw : W.grownBy W1 row) (hne : some g ≠ row) : IsS117 w0 W1 g f0 := by
 obtain ⟨hb, hg⟩ := h; exact ⟨blk_grown hb hw hne, hg⟩
theorem IsS117.fresh {w0 W : World} {g : Nat} {f0 : Int} (h : IsS117 w0 W g f0) : ∀ k, W.heap.size ≤ k → k ≠ g := by
 obtain ⟨hb, hg⟩ := h; exact Kd.freshB hb
theorem IsS117.kept {w0 W : World} {g : Nat} {f0 : Int} {W1 : World} {S : Nat → Prop} (h : IsS117 w0 W g f0) (hk : Kept W W1 S) (hne : ¬ S g) : IsS117 w0 W1 g f0 := by
 obtain ⟨hb, hg⟩ := h; exact ⟨blk_kept hb hk hne, hg⟩
theorem IsS117.below {w0 W : World} {g : Nat} {f0 : Int} {W1 : World} (h : IsS117 w0 W g f0) (hw : Below W.heap.size W W1) : IsS117 w0 W1 g f0 := h.grown (grown_of_below hw none) (by simp)
theorem IsS117.alloc {w0 W : World} {g : Nat} {f0 : Int} (h : IsS117 w0 W g f0) (o : Obj) : IsS117 w0 (W.alloc o) g f0 := h.below (below_alloc (Below.refl _ _) o)
theorem IsS117.drewN {w0 W : World} {g : Nat} {f0 : Int} (h : IsS117 w0 W g f0) (m : Nat) : IsS117 w0 (W.drewN m) g f0 := h
theorem IsS117.drew {w0 W : World} {g : Nat} {f0 : Int} (h : IsS117 w0 W g f0) : IsS117 w0 W.drew g f0 := h
theorem IsS117.apart {w0 W : World} {g : Nat} {f0 : Int} {α : Type} {d : Kd α} {e : Nat} {base : Nat} {ok : Nat → Prop} {v : Value} {xs : List α} (h : IsS117 w0 W g f0) (ho : d.R e W base ok v xs) (ht : ∀ q, q ∈ e :: d.E → q ≠ 117) : d.R e W base (fun k => ok k ∧ k ≠ g) v xs := by
 obtain ⟨hb, hg⟩ := h; exact Kd.R_types ho hb ht
theorem IsS117.own_ne {w0 W : World} {g : Nat} {f0 : Int} {α : Type} {d : Kd α} {e : Nat} {base : Nat} {ok : Nat → Prop} {v : Value} {xs : List α} (h : IsS117 w0 W g f0) (ho : d.R e W base ok v xs) (ht : e ≠ 117) : some g ≠ v.ownBlock := by
 obtain ⟨hb, hg⟩ := h; exact Kd.R_ne ho hb ht
theorem IsS117.ge {w0 W : World} {g : Nat} {f0 : Int} (h : IsS117 w0 W g f0) : w0.heap.size ≤ g := by
 obtain ⟨hb, hg⟩ := h; exact hg
theorem IsS117.ne_blk {w0 W : World} {g : Nat} {f0 : Int} {a : Nat} {cs : Array Value} {t : TypeId} {fr : Nat × Nat} (h : IsS117 w0 W g f0) (hb2 : W.heap[a]? = some (.cells cs t fr)) (ht : t ≠ 117) : g ≠ a := by
 obtain ⟨hb, hg⟩ := h; rintro rfl; rw [hb] at hb2; injection hb2 with hb2; injection hb2 with _ ht2; exact ht ht2.symm
theorem IsS117.far {w0 W : World} {g : Nat} {f0 : Int} {p : Addr} (h : IsS117 w0 W g f0) (hne : g ≠ p.block) (u : Value) : IsS117 w0 (W.setCell p u) g f0 := by
 obtain ⟨hb, hg⟩ := h; exact ⟨blk_far hb hne u, hg⟩
theorem cellS117_0 {W : World} {g : Nat} {f0 : Int} (h : W.heap[g]? = some (.cells #[.int .i64 f0] 117 (0, 0))) : W.cell? ⟨g, 0, none⟩ = some (.int .i64 f0) := (blk_cell h 0).trans rfl
theorem IsS117.set_0 {w0 W : World} {g : Nat} {f0 : Int} (h : IsS117 w0 W g f0) (x : Int) : IsS117 w0 (W.setCell ⟨g, 0, none⟩ (.int .i64 x)) g x := by
 obtain ⟨hb, hg⟩ := h; exact ⟨by simpa using blk_set hb 0 (.int .i64 x), hg⟩
theorem IsS117.new (w0 W : World) (f0 : Int) (hB : Below w0.heap.size w0 W) : IsS117 w0 (W.alloc (.cells #[.int .i64 f0] 117)) W.heap.size f0 := ⟨by simpa using heap_alloc_new W _, hB.size⟩
def number_tail_take.f (s0_0 : Int) : Option (Int × Int) := some (s0_0, mn (wrap64 (s0_0 + 1)) 47)
set_option maxHeartbeats 8000000 in
set_option maxRecDepth 100000 in
theorem number_tail_take.calls (g : Nat) (s0_0 : Int) (r1 : Int) (r2 : Int) (w0 w : World) (hI : IsS117 w0 w g s0_0) (hB : Below w0.heap.size w0 w) (h : number_tail_take.f s0_0 = some (r1, r2)) :
    Calls Try.prog 69 #[.pointer (some ⟨g, 0, none⟩)] w fun e w' => e = .returned (.int .i64 r1) ∧ IsS117 w0 w' g r2 ∧ Below w0.heap.size w0 w' ∧ KeepBut w w' g none := by
 have HI0 := Aside0.mk hI; have HK := Aside0.mk (KeepBut.refl w g none); have HL := Aside0.mk hB.size; clear hI; have HW0 := Aside0.mk hB.size; have HB := Aside0.mk hB; clear hB; have H : (some (s0_0, mn (wrap64 (s0_0 + 1)) 47)) = some (r1, r2) := h; clear h; obtain ⟨ji2, hji2⟩ : ∃ j_ : Int, (mn (wrap64 (s0_0 + 1)) 47) = j_ := ⟨_, rfl⟩; (replace H : (some (s0_0, ji2)) = some (r1, r2) := by first | (rw [hji2] at H; exact H) | (simp only [hji2] at H ⊢; exact H)); ((try (have hji2h : ji2 ≤ 47 := by (rw [← hji2]; unfold mn; (repeat' split) <;> omega)))); (try (have hji2g : ji2 ≤ 64 := by omega)); have hji2_ : (if 47 < (wrap64 (s0_0 + 1)) then 47 else (wrap64 (s0_0 + 1))) = ji2 := hji2; simp only [Option.some.injEq, Prod.mk.injEq] at H; obtain ⟨rfl, rfl⟩ := H; obtain ⟨HGz3, hgz3⟩ := HI0.out; have hcz3_0 := cellS117_0 HGz3; have hfz3_0 := blk_frozen HGz3 0; clear HGz3 hgz3; go_enter Try.func69, Try.ntmps69; go_wp2; go_ret
 (exact ⟨by first | rfl | (simp [errW_none, errW_some] <;> rfl) | (simp only [← hji2]; first | rfl | (simp [errW_none, errW_some] <;> rfl)) | (simp [*, errW_none, errW_some] <;> rfl), by repeat (first | (with_reducible first | exact HI0.out | apply IsS117.alloc | apply IsS117.drewN | apply IsS117.drew | apply IsS117.set_0) | exact HI0.out), by repeat (first | (with_reducible first | exact HB.out | apply below_alloc | apply pw_below_drewN | apply below_drew1 | refine below_set ?_ (IsS117.ge HI0.out)) | exact HB.out), by repeat (first | (with_reducible first | exact HK.out | apply KeepBut.set_ | apply keep_drewN | apply keep_drew | apply keep_alloc) | exact HK.out)⟩)
end Go.Proofs.Ytlnhahnnjbfjdaa.U
namespace Go.Proofs.Ytlnhahnnjbfjdaa.U
open Go.RowKit Go.Proofs.YtlnhahnnjbfjdaaW.PrintWords Go.Proofs.YtlnhahnnjbfjdaaW.PrintLast Go.Proofs.YtlnhahnnjbfjdaaW.PrintMore
attribute [local go_sem] max2_int min2_int max_two min_two max_three min_three max_four min_four   -- for this text's walks alone
def incunableref03_Valid.f (a0_0 : Bool) (a0_1 : Int) : Option (Bool) := if a0_0 = true then (some (a0_1 == 0)) else (if a0_1 ≥ (-1048576) then (some (decide (a0_1 ≤ 1048576))) else (some false))
set_option maxHeartbeats 8000000 in
set_option maxRecDepth 100000 in
theorem incunableref03_Valid.calls (a0_0 : Bool) (a0_1 : Int) (r : Bool) (w : World) (h : incunableref03_Valid.f a0_0 a0_1 = some r) :
    Calls Try.prog 14 #[.agg #[.bool a0_0, .int .i64 a0_1]] w fun e w' => e = .returned (.bool r) ∧ Below w.heap.size w w' := by
 have hu23 := Try.underlying23; have HB := Aside0.mk (Below.refl w.heap.size w); have H : (if a0_0 = true then (some (a0_1 == 0)) else (if a0_1 ≥ (-1048576) then (some (decide (a0_1 ≤ 1048576))) else (some false))) = some r := h; clear h; by_cases c2 : a0_0 = true
 (· subst c2; (have H1 : (some (a0_1 == 0)) = some r := by rw [if_pos rfl] at H; exact H); clear H; have H := H1; clear H1; obtain rfl := Option.some.inj H; go_enter Try.func14, Try.ntmps14; go_wp2_with (first | ((with_reducible refine gate_dst (N := 1) rfl ?_); refine box_event ?hg (N := 1) ?hd (cs := #[.bool true, .int .i64 a0_1]) (t := 23) ?hr ?_; (case hd => rfl); (case hg => rfl); (case hr => first | (go_simp; done) | (go_simp; rfl)); intro gb135 hg w3 hbox hb; have n0_ := Aside0.mk (below_step (by repeat (first | (with_reducible first | exact HB.out | apply below_alloc | apply pw_below_drewN | apply below_drew1) | exact HB.out)) hb); have n1_ := Aside0.mk (hbox); have n2_ := Aside0.mk ((by rw [hg]; exact (below_size (by repeat (first | (with_reducible first | exact HB.out | apply below_alloc | apply pw_below_drewN | apply below_drew1) | exact HB.out))) : w.heap.size ≤ gb135)); have n3_ := Aside0.mk ((by rw [hg]; exact (below_size (by repeat (first | (with_reducible first | exact HB.out | apply below_alloc | apply pw_below_drewN | apply below_drew1) | exact HB.out))) : w.heap.size ≤ gb135)); clear HB; have HB := n0_; have BK135 := n1_; have GW135 := n2_; have GE135 := n3_; clear n0_ n1_ n2_ n3_; clear hb hbox hg; have hcz4_0 : w3.cell? ⟨gb135, 0, none⟩ = some (.bool true) := (blk_cell BK135.out 0).trans rfl; have hcz4_1 : w3.cell? ⟨gb135, 1, none⟩ = some (.int .i64 a0_1) := (blk_cell BK135.out 1).trans rfl; have hfz4_0 := blk_frozen BK135.out 0; have hfz4_1 := blk_frozen BK135.out 1)); go_ret; (exact ⟨by first | rfl | (simp [errW_none, errW_some] <;> rfl) | (simp [*, errW_none, errW_some] <;> rfl), by repeat (first | (with_reducible first | exact HB.out | apply below_alloc | apply pw_below_drewN | apply below_drew1 | refine below_set ?_ GE135.out) | exact HB.out)⟩))
 (· replace c2 := Bool.eq_false_iff.mpr c2; subst c2; (have H1 : (if a0_1 ≥ (-1048576) then (some (decide (a0_1 ≤ 1048576))) else (some false)) = some r := by rw [if_neg (show ¬ (false = true) by decide)] at H; exact H); clear H; have H := H1; clear H1; by_cases c5 : a0_1 ≥ (-1048576); (· rw [if_pos c5] at H; have c5b0 : decide ((-1048576) ≤ a0_1) = true := decide_eq_true c5; clear c5; obtain rfl := Option.some.inj H; go_enter Try.func14, Try.ntmps14; go_wp2_with (first | ((with_reducible refine gate_dst (N := 1) rfl ?_); refine box_event ?hg (N := 1) ?hd (cs := #[.bool false, .int .i64 a0_1]) (t := 23) ?hr ?_; (case hd => rfl); (case hg => rfl); (case hr => first | (go_simp; done) | (go_simp; rfl)); intro gb135 hg w6 hbox hb; have n0_ := Aside0.mk (below_step (by repeat (first | (with_reducible first | exact HB.out | apply below_alloc | apply pw_below_drewN | apply below_drew1) | exact HB.out)) hb); have n1_ := Aside0.mk (hbox); have n2_ := Aside0.mk ((by rw [hg]; exact (below_size (by repeat (first | (with_reducible first | exact HB.out | apply below_alloc | apply pw_below_drewN | apply below_drew1) | exact HB.out))) : w.heap.size ≤ gb135)); have n3_ := Aside0.mk ((by rw [hg]; exact (below_size (by repeat (first | (with_reducible first | exact HB.out | apply below_alloc | apply pw_below_drewN | apply below_drew1) | exact HB.out))) : w.heap.size ≤ gb135)); clear HB; have HB := n0_; have BK135 := n1_; have GW135 := n2_; have GE135 := n3_; clear n0_ n1_ n2_ n3_; clear hb hbox hg; have hcz7_0 : w6.cell? ⟨gb135, 0, none⟩ = some (.bool false) := (blk_cell BK135.out 0).trans rfl; have hcz7_1 : w6.cell? ⟨gb135, 1, none⟩ = some (.int .i64 a0_1) := (blk_cell BK135.out 1).trans rfl; have hfz7_0 := blk_frozen BK135.out 0; have hfz7_1 := blk_frozen BK135.out 1)); go_ret; (exact ⟨by first | rfl | (simp [errW_none, errW_some] <;> rfl) | (simp [*, errW_none, errW_some] <;> rfl), by repeat (first | (with_reducible first | exact HB.out | apply below_alloc | apply pw_below_drewN | apply below_drew1 | refine below_set ?_ GE135.out) | exact HB.out)⟩)); (· rw [if_neg c5] at H; have c5b0 : decide ((-1048576) ≤ a0_1) = false := decide_eq_false c5; clear c5; obtain rfl := Option.some.inj H; go_enter Try.func14, Try.ntmps14; go_wp2_with (first | ((with_reducible refine gate_dst (N := 1) rfl ?_); refine box_event ?hg (N := 1) ?hd (cs := #[.bool false, .int .i64 a0_1]) (t := 23) ?hr ?_; (case hd => rfl); (case hg => rfl); (case hr => first | (go_simp; done) | (go_simp; rfl)); intro gb135 hg w8 hbox hb; have n0_ := Aside0.mk (below_step (by repeat (first | (with_reducible first | exact HB.out | apply below_alloc | apply pw_below_drewN | apply below_drew1) | exact HB.out)) hb); have n1_ := Aside0.mk (hbox); have n2_ := Aside0.mk ((by rw [hg]; exact (below_size (by repeat (first | (with_reducible first | exact HB.out | apply below_alloc | apply pw_below_drewN | apply below_drew1) | exact HB.out))) : w.heap.size ≤ gb135)); have n3_ := Aside0.mk ((by rw [hg]; exact (below_size (by repeat (first | (with_reducible first | exact HB.out | apply below_alloc | apply pw_below_drewN | apply below_drew1) | exact HB.out))) : w.heap.size ≤ gb135)); clear HB; have HB := n0_; have BK135 := n1_; have GW135 := n2_; have GE135 := n3_; clear n0_ n1_ n2_ n3_; clear hb hbox hg; have hcz9_0 : w8.cell? ⟨gb135, 0, none⟩ = some (.bool false) := (blk_cell BK135.out 0).trans rfl; have hcz9_1 : w8.cell? ⟨gb135, 1, none⟩ = some (.int .i64 a0_1) := (blk_cell BK135.out 1).trans rfl; have hfz9_0 := blk_frozen BK135.out 0; have hfz9_1 := blk_frozen BK135.out 1)); go_ret; (exact ⟨by first | rfl | (simp [errW_none, errW_some] <;> rfl) | (simp [*, errW_none, errW_some] <;> rfl), by repeat (first | (with_reducible first | exact HB.out | apply below_alloc | apply pw_below_drewN | apply below_drew1 | refine below_set ?_ GE135.out) | exact HB.out)⟩)))
end Go.Proofs.Ytlnhahnnjbfjdaa.U
namespace Go.Proofs.Ytlnhahnnjbfjdaa.U
open Go.RowKit Go.Proofs.YtlnhahnnjbfjdaaW.PrintWords Go.Proofs.YtlnhahnnjbfjdaaW.PrintLast Go.Proofs.YtlnhahnnjbfjdaaW.PrintMore
attribute [local go_sem] max2_int min2_int max_two min_two max_three min_three max_four min_four   -- for this text's walks alone
mutual
def incunableref03_events.j0 : Nat → List (S87) → Int → Int → Option ((List (S87)))
  | 0, _, _, _ => none
  | k + 1, x3, x4, x5 => incunableref03_events.l0 k x3 x4 x5 ([] : List Int) (wrap64 (x4 + 1))
def incunableref03_events.l0 : Nat → List (S87) → Int → Int → List Int → Int → Option ((List (S87)))
  | 0, _, _, _, _, _ => none
  | k + 1, x3, x4, x5, x6, x7 => if x7 > 0 then (if x6.length < 17592186044416 then (incunableref03_events.l0 k x3 x4 x5 (x6 ++ [Int.tmod x7 2]) (wrap64 (Int.tdiv x7 2))) else (none)) else (incunableref03_events.l1 k x3 x4 x5 x6 (wrap64 ((x6.length : Int) - 1)) 0)
def incunableref03_events.l1 : Nat → List (S87) → Int → Int → List Int → Int → Int → Option ((List (S87)))
  | 0, _, _, _, _, _, _ => none
  | k + 1, x3, x4, x5, x6, x8, x9 => if x9 < x8 then (if x3.length < 8796093022208 then (incunableref03_events.l1 k (x3 ++ [(⟨wrap64 (1 + x9), 1⟩ : S87)]) x4 x5 x6 x8 (wrap64 (x9 + 1))) else (none)) else (if x8 < 20 then (if x3.length < 8796093022208 then (incunableref03_events.j3 k (x3 ++ [(⟨wrap64 (1 + x8), 0⟩ : S87)]) x4 x5 x6 x8) else (none)) else (incunableref03_events.j3 k x3 x4 x5 x6 x8))
def incunableref03_events.j3 : Nat → List (S87) → Int → Int → List Int → Int → Option ((List (S87)))
  | 0, _, _, _, _, _ => none
  | k + 1, x3, x4, x5, x6, x8 => incunableref03_events.l2 k x3 x4 x5 x6 x8 0
def incunableref03_events.l2 : Nat → List (S87) → Int → Int → List Int → Int → Int → Option ((List (S87)))
  | 0, _, _, _, _, _, _ => none
  | k + 1, x3, x4, x5, x6, x8, x10 => if x10 < x8 then (if x10 = 0 then (if 0 ≤ (wrap64 ((wrap64 (x8 - 1)) - x10)) then (if (wrap64 ((wrap64 (x8 - 1)) - x10)) < (x6.length : Int) then (if x3.length < 8796093022208 then (incunableref03_events.l2 k (x3 ++ [(⟨wrap64 (23 + x8), rd x6 (wrap64 ((wrap64 (x8 - 1)) - x10))⟩ : S87)]) x4 x5 x6 x8 (wrap64 (x10 + 1))) else (none)) else (none)) else (none)) else (if 0 ≤ (wrap64 ((wrap64 (x8 - 1)) - x10)) then (if (wrap64 ((wrap64 (x8 - 1)) - x10)) < (x6.length : Int) then (if x3.length < 8796093022208 then (incunableref03_events.l2 k (x3 ++ [(⟨mn (wrap64 (43 + x10)) 47, rd x6 (wrap64 ((wrap64 (x8 - 1)) - x10))⟩ : S87)]) x4 x5 x6 x8 (wrap64 (x10 + 1))) else (none)) else (none)) else (none))) else (if x4 = 0 then (some x3) else (if x3.length < 8796093022208 then (some (x3 ++ [(⟨22, x5⟩ : S87)])) else (none)))
end
def incunableref03_events.f (k : Nat) (a0_0 : Bool) (a0_1 : Int) : Option ((List (S87))) := if a0_0 = true then (some (([(⟨0, 1⟩ : S87)] : List (S87)))) else ((some (([(⟨0, 0⟩ : S87)] : List (S87)) : List (S87))).bind fun y140 => (if a0_1 < 0 then (incunableref03_events.j0 k y140 (wrap64 (-a0_1)) 1) else (incunableref03_events.j0 k y140 a0_1 0)))
theorem incunableref03_events.mono_l : ∀ k, (∀ y0 y1 y2, LeO (incunableref03_events.j0 k y0 y1 y2) (incunableref03_events.j0 (k + 1) y0 y1 y2)) ∧ (∀ y0 y1 y2 y3 y4, LeO (incunableref03_events.l0 k y0 y1 y2 y3 y4) (incunableref03_events.l0 (k + 1) y0 y1 y2 y3 y4)) ∧ (∀ y0 y1 y2 y3 y4 y5, LeO (incunableref03_events.l1 k y0 y1 y2 y3 y4 y5) (incunableref03_events.l1 (k + 1) y0 y1 y2 y3 y4 y5)) ∧ (∀ y0 y1 y2 y3 y4, LeO (incunableref03_events.j3 k y0 y1 y2 y3 y4) (incunableref03_events.j3 (k + 1) y0 y1 y2 y3 y4)) ∧ (∀ y0 y1 y2 y3 y4 y5, LeO (incunableref03_events.l2 k y0 y1 y2 y3 y4 y5) (incunableref03_events.l2 (k + 1) y0 y1 y2 y3 y4 y5))
  | 0 => ⟨fun _ _ _ r h => by simp [incunableref03_events.j0] at h, fun _ _ _ _ _ r h => by simp [incunableref03_events.l0] at h, fun _ _ _ _ _ _ r h => by simp [incunableref03_events.l1] at h, fun _ _ _ _ _ r h => by simp [incunableref03_events.j3] at h, fun _ _ _ _ _ _ r h => by simp [incunableref03_events.l2] at h⟩
  | k + 1 => by
    obtain ⟨ih0, ih1, ih2, ih3, ih4⟩ := incunableref03_events.mono_l k
    refine ⟨?_, ?_, ?_, ?_, ?_⟩
    · intro y0 y1 y2
      unfold incunableref03_events.j0
      repeat' first
      | (with_reducible exact ih0 _ _ _)
      | (with_reducible exact ih1 _ _ _ _ _)
      | (with_reducible exact ih2 _ _ _ _ _ _)
      | (with_reducible exact ih3 _ _ _ _ _)
      | (with_reducible exact ih4 _ _ _ _ _ _)
      | (with_reducible exact LeO.refl _)
      | (with_reducible exact LeO.none _)
      | (with_reducible refine LeO.ite ?_ ?_)
      | (with_reducible refine LeO.bind ?_ (fun _ => ?_))
      | exact ih0 _ _ _
      | exact ih1 _ _ _ _ _
      | exact ih2 _ _ _ _ _ _
      | exact ih3 _ _ _ _ _
      | exact ih4 _ _ _ _ _ _
      | exact LeO.none _
      | refine LeO.ite ?_ ?_
      | refine LeO.bind ?_ (fun _ => ?_)
    · intro y0 y1 y2 y3 y4
      unfold incunableref03_events.l0
      repeat' first
      | (with_reducible exact ih0 _ _ _)
      | (with_reducible exact ih1 _ _ _ _ _)
      | (with_reducible exact ih2 _ _ _ _ _ _)
      | (with_reducible exact ih3 _ _ _ _ _)
      | (with_reducible exact ih4 _ _ _ _ _ _)
      | (with_reducible exact LeO.refl _)
      | (with_reducible exact LeO.none _)
      | (with_reducible refine LeO.ite ?_ ?_)
      | (with_reducible refine LeO.bind ?_ (fun _ => ?_))
      | exact ih0 _ _ _
      | exact ih1 _ _ _ _ _
      | exact ih2 _ _ _ _ _ _
      | exact ih3 _ _ _ _ _
      | exact ih4 _ _ _ _ _ _
      | exact LeO.none _
      | refine LeO.ite ?_ ?_
      | refine LeO.bind ?_ (fun _ => ?_)
    · intro y0 y1 y2 y3 y4 y5
      unfold incunableref03_events.l1
      repeat' first
      | (with_reducible exact ih0 _ _ _)
      | (with_reducible exact ih1 _ _ _ _ _)
      | (with_reducible exact ih2 _ _ _ _ _ _)
      | (with_reducible exact ih3 _ _ _ _ _)
      | (with_reducible exact ih4 _ _ _ _ _ _)
      | (with_reducible exact LeO.refl _)
      | (with_reducible exact LeO.none _)
      | (with_reducible refine LeO.ite ?_ ?_)
      | (with_reducible refine LeO.bind ?_ (fun _ => ?_))
      | exact ih0 _ _ _
      | exact ih1 _ _ _ _ _
      | exact ih2 _ _ _ _ _ _
      | exact ih3 _ _ _ _ _
      | exact ih4 _ _ _ _ _ _
      | exact LeO.none _
      | refine LeO.ite ?_ ?_
      | refine LeO.bind ?_ (fun _ => ?_)
    · intro y0 y1 y2 y3 y4
      unfold incunableref03_events.j3
      repeat' first
      | (with_reducible exact ih0 _ _ _)
      | (with_reducible exact ih1 _ _ _ _ _)
      | (with_reducible exact ih2 _ _ _ _ _ _)
      | (with_reducible exact ih3 _ _ _ _ _)
      | (with_reducible exact ih4 _ _ _ _ _ _)
      | (with_reducible exact LeO.refl _)
      | (with_reducible exact LeO.none _)
      | (with_reducible refine LeO.ite ?_ ?_)
      | (with_reducible refine LeO.bind ?_ (fun _ => ?_))
      | exact ih0 _ _ _
      | exact ih1 _ _ _ _ _
      | exact ih2 _ _ _ _ _ _
      | exact ih3 _ _ _ _ _
      | exact ih4 _ _ _ _ _ _
      | exact LeO.none _
      | refine LeO.ite ?_ ?_
      | refine LeO.bind ?_ (fun _ => ?_)
    · intro y0 y1 y2 y3 y4 y5
      unfold incunableref03_events.l2
      repeat' first
      | (with_reducible exact ih0 _ _ _)
      | (with_reducible exact ih1 _ _ _ _ _)
      | (with_reducible exact ih2 _ _ _ _ _ _)
      | (with_reducible exact ih3 _ _ _ _ _)
      | (with_reducible exact ih4 _ _ _ _ _ _)
      | (with_reducible exact LeO.refl _)
      | (with_reducible exact LeO.none _)
      | (with_reducible refine LeO.ite ?_ ?_)
      | (with_reducible refine LeO.bind ?_ (fun _ => ?_))
      | exact ih0 _ _ _
      | exact ih1 _ _ _ _ _
      | exact ih2 _ _ _ _ _ _
      | exact ih3 _ _ _ _ _
      | exact ih4 _ _ _ _ _ _
      | exact LeO.none _
      | refine LeO.ite ?_ ?_
      | refine LeO.bind ?_ (fun _ => ?_)
theorem incunableref03_events.mono : ∀ a0 a1 k, LeO (incunableref03_events.f k a0 a1) (incunableref03_events.f (k + 1) a0 a1) := by
 intro a0 a1 k; obtain ⟨ih0, ih1, ih2, ih3, ih4⟩ := incunableref03_events.mono_l k; unfold incunableref03_events.f
 repeat' first
  | (with_reducible exact ih0 _ _ _)
  | (with_reducible exact ih1 _ _ _ _ _)
  | (with_reducible exact ih2 _ _ _ _ _ _)
  | (with_reducible exact ih3 _ _ _ _ _)
  | (with_reducible exact ih4 _ _ _ _ _ _)
  | (with_reducible exact LeO.refl _)
  | (with_reducible exact LeO.none _)
  | (with_reducible refine LeO.ite ?_ ?_)
  | (with_reducible refine LeO.bind ?_ (fun _ => ?_))
  | exact ih0 _ _ _
  | exact ih1 _ _ _ _ _
  | exact ih2 _ _ _ _ _ _
  | exact ih3 _ _ _ _ _
  | exact ih4 _ _ _ _ _ _
  | exact LeO.none _
  | refine LeO.ite ?_ ?_
  | refine LeO.bind ?_ (fun _ => ?_)
set_option maxHeartbeats 8000000 in
set_option maxRecDepth 100000 in
theorem incunableref03_events.calls (k : Nat) (a0_0 : Bool) (a0_1 : Int) (r : List (S87)) (w : World) (h : incunableref03_events.f k a0_0 a0_1 = some r) :
    Calls Try.prog 46 #[.agg #[.bool a0_0, .int .i64 a0_1]] w fun e w' => ∃ v0_ : Value, e = .returned (v0_) ∧ Kd.R k87 87 w' w.heap.size (fun _ => True) v0_ r ∧ Below w.heap.size w w' := by
 have hu23 := Try.underlying23; have hu87 := Try.underlying87; have HB := Aside0.mk (Below.refl w.heap.size w); have H : (if a0_0 = true then (some (([(⟨0, 1⟩ : S87)] : List (S87)))) else ((some (([(⟨0, 0⟩ : S87)] : List (S87)) : List (S87))).bind fun y140 => (if a0_1 < 0 then (incunableref03_events.j0 k y140 (wrap64 (-a0_1)) 1) else (incunableref03_events.j0 k y140 a0_1 0)))) = some r := h; clear h; by_cases c2 : a0_0 = true
 (· subst c2; (have H1 : (some (([(⟨0, 1⟩ : S87)] : List (S87)))) = some r := by rw [if_pos rfl] at H; exact H); clear H; have H := H1; clear H1; obtain ⟨y137, hy137⟩ : ∃ y_ : List (S87), y_ = (([(⟨0, 1⟩ : S87)] : List (S87))) := ⟨_, rfl⟩; (replace H : (some y137) = some r := by first | (rw [hy137]; with_reducible exact H) | (have H2_ := (Option.bind_some _ _).symm.trans H; rw [hy137]; with_reducible exact H2_) | (have H2_ := (Option.bind_some _ _).symm.trans H; with_reducible exact H2_) | with_reducible exact H | (rw [hy137]; exact H) | exact H); have Ny137 := Aside0.mk hy137; clear hy137; obtain rfl := Option.some.inj H; go_enter Try.func46, Try.ntmps46; go_wp2_with (first | ((with_reducible refine gate_dst (N := 1) rfl ?_); refine box_event ?hg (N := 1) ?hd (cs := #[.bool true, .int .i64 a0_1]) (t := 23) ?hr ?_; (case hd => rfl); (case hg => rfl); (case hr => first | (go_simp; done) | (go_simp; rfl)); intro gb136 hg w3 hbox hb; have n0_ := Aside0.mk (below_step (by repeat (first | (with_reducible first | exact HB.out | apply below_alloc | apply pw_below_drewN | apply below_drew1) | exact HB.out)) hb); have n1_ := Aside0.mk (hbox); have n2_ := Aside0.mk ((by rw [hg]; exact (below_size (by repeat (first | (with_reducible first | exact HB.out | apply below_alloc | apply pw_below_drewN | apply below_drew1) | exact HB.out))) : w.heap.size ≤ gb136)); have n3_ := Aside0.mk ((by rw [hg]; exact (below_size (by repeat (first | (with_reducible first | exact HB.out | apply below_alloc | apply pw_below_drewN | apply below_drew1) | exact HB.out))) : w.heap.size ≤ gb136)); clear HB; have HB := n0_; have BK136 := n1_; have GW136 := n2_; have GE136 := n3_; clear n0_ n1_ n2_ n3_; clear hb hbox hg; have hcz4_0 : w3.cell? ⟨gb136, 0, none⟩ = some (.bool true) := (blk_cell BK136.out 0).trans rfl; have hcz4_1 : w3.cell? ⟨gb136, 1, none⟩ = some (.int .i64 a0_1) := (blk_cell BK136.out 1).trans rfl; have hfz4_0 := blk_frozen BK136.out 0; have hfz4_1 := blk_frozen BK136.out 1) | ((with_reducible refine gate_dst (N := 15) rfl ?_); refine Kd.R_lit k87 _ 87 ?hg (N := 15) ?hd (xs := ([(⟨0, 1⟩ : S87)] : List (S87))) (inner := [.int .i64 0, .int .i64 1]) (ok := fun _ => True) (okp := fun _ => True) ?hr ?hp (fun _ hk => hk) trivial (Below.refl _ _) (Nat.le_refl _) (by simp) ?_; (case hd => rfl); (case hg => rfl); (case hr => first | (go_simp; done) | (go_simp; rfl)); (case hp => exact (Reps.c2 (show Kd.M k87 _ _ _ (⟨0, 1⟩ : S87) [.int .i64 0, .int .i64 1] from (k87_mkM _ _ _ (⟨0, 1⟩ : S87) )) (Reps.none _ _))); intro v138 w5 ho6 hb hg_ hnew_; clear hg_ hnew_; (first | rw [← Ny137.out] at ho6 | (simp only [Int.reduceToNat] at ho6; rw [← Ny137.out] at ho6)); have n0_ := Aside0.mk (Kd.R_lower ho6 (below_size (by repeat (first | (with_reducible first | exact HB.out | apply below_alloc | apply pw_below_drewN | apply below_drew1 | refine below_set ?_ GE136.out) | exact HB.out)))); have n1_ := Aside0.mk (blk_below (g := gb136) (o := .cells #[.bool true, .int .i64 a0_1] 23 (0, 0)) (by (with_reducible repeat (first | refine blk_drewN ?_ _ | refine blk_drew ?_ | refine blk_alloc ?_ _)); exact BK136.out) hb); have n2_ := Aside0.mk (below_step (by repeat (first | (with_reducible first | exact HB.out | apply below_alloc | apply pw_below_drewN | apply below_drew1 | refine below_set ?_ GE136.out) | exact HB.out)) hb); clear BK136; clear HB; have HO139 := n0_; have BK136 := n1_; have HB := n2_; clear n0_ n1_ n2_; clear hb ho6)); go_ret; (exact ⟨_, by first | rfl | (simp [errW_none, errW_some] <;> rfl) | (simp [*, errW_none, errW_some] <;> rfl), by (with_reducible repeat (first | apply Kd.R_alloc | apply Kd.R_drewN | apply Kd.R_drew)); exact HO139.out, by repeat (first | (with_reducible first | exact HB.out | apply below_alloc | apply pw_below_drewN | apply below_drew1 | refine below_set ?_ GE136.out) | exact HB.out)⟩))
 · replace c2 := Bool.eq_false_iff.mpr c2
   subst c2; (have H1 : ((some (([(⟨0, 0⟩ : S87)] : List (S87)) : List (S87))).bind fun y140 => (if a0_1 < 0 then (incunableref03_events.j0 k y140 (wrap64 (-a0_1)) 1) else (incunableref03_events.j0 k y140 a0_1 0))) = some r := by rw [if_neg (show ¬ (false = true) by decide)] at H; exact H); clear H; have H := H1; clear H1; obtain ⟨y140, hy140⟩ : ∃ y_ : List (S87), y_ = (([(⟨0, 0⟩ : S87)] : List (S87))) := ⟨_, rfl⟩; (replace H : (if a0_1 < 0 then (incunableref03_events.j0 k y140 (wrap64 (-a0_1)) 1) else (incunableref03_events.j0 k y140 a0_1 0)) = some r := by first | (rw [hy140]; with_reducible exact H) | (have H2_ := (Option.bind_some _ _).symm.trans H; rw [hy140]; with_reducible exact H2_) | (have H2_ := (Option.bind_some _ _).symm.trans H; with_reducible exact H2_) | with_reducible exact H | (rw [hy140]; exact H) | exact H); have Ny140 := Aside0.mk hy140; clear hy140; have HC7 := Aside0.mk H; clear H; go_enter Try.func46, Try.ntmps46
   go_upto_if 21 with (first | ((with_reducible refine gate_dst (N := 1) rfl ?_); refine box_event ?hg (N := 1) ?hd (cs := #[.bool false, .int .i64 a0_1]) (t := 23) ?hr ?_; (case hd => rfl); (case hg => rfl); (case hr => first | (go_simp; done) | (go_simp; rfl)); intro gb136 hg w8 hbox hb; have n0_ := Aside0.mk (below_step (by repeat (first | (with_reducible first | exact HB.out | apply below_alloc | apply pw_below_drewN | apply below_drew1) | exact HB.out)) hb); have n1_ := Aside0.mk (hbox); have n2_ := Aside0.mk ((by rw [hg]; exact (below_size (by repeat (first | (with_reducible first | exact HB.out | apply below_alloc | apply pw_below_drewN | apply below_drew1) | exact HB.out))) : w.heap.size ≤ gb136)); have n3_ := Aside0.mk ((by rw [hg]; exact (below_size (by repeat (first | (with_reducible first | exact HB.out | apply below_alloc | apply pw_below_drewN | apply below_drew1) | exact HB.out))) : w.heap.size ≤ gb136)); clear HB; have HB := n0_; have BK136 := n1_; have GW136 := n2_; have GE136 := n3_; clear n0_ n1_ n2_ n3_; clear hb hbox hg; have hcz9_0 : w8.cell? ⟨gb136, 0, none⟩ = some (.bool false) := (blk_cell BK136.out 0).trans rfl; have hcz9_1 : w8.cell? ⟨gb136, 1, none⟩ = some (.int .i64 a0_1) := (blk_cell BK136.out 1).trans rfl; have hfz9_0 := blk_frozen BK136.out 0; have hfz9_1 := blk_frozen BK136.out 1) | ((with_reducible refine gate_dst (N := 17) rfl ?_); refine Kd.R_lit k87 _ 87 ?hg (N := 17) ?hd (xs := ([(⟨0, 0⟩ : S87)] : List (S87))) (inner := [.int .i64 0, .int .i64 0]) (ok := fun _ => True) (okp := fun _ => True) ?hr ?hp (fun _ hk => hk) trivial (Below.refl _ _) (Nat.le_refl _) (by simp) ?_; (case hd => rfl); (case hg => rfl); (case hr => first | (go_simp; done) | (go_simp; rfl)); (case hp => exact (Reps.c2 (show Kd.M k87 _ _ _ (⟨0, 0⟩ : S87) [.int .i64 0, .int .i64 0] from (k87_mkM _ _ _ (⟨0, 0⟩ : S87) )) (Reps.none _ _))); intro v141 w10 ho11 hb hg_ hnew_; clear hg_ hnew_; (first | rw [← Ny140.out] at ho11 | (simp only [Int.reduceToNat] at ho11; rw [← Ny140.out] at ho11)); have n0_ := Aside0.mk (Kd.R_lower ho11 (below_size (by repeat (first | (with_reducible first | exact HB.out | apply below_alloc | apply pw_below_drewN | apply below_drew1 | refine below_set ?_ GE136.out) | exact HB.out)))); have n1_ := Aside0.mk (blk_below (g := gb136) (o := .cells #[.bool false, .int .i64 a0_1] 23 (0, 0)) (by (with_reducible repeat (first | refine blk_drewN ?_ _ | refine blk_drew ?_ | refine blk_alloc ?_ _)); exact BK136.out) hb); have n2_ := Aside0.mk (below_step (by repeat (first | (with_reducible first | exact HB.out | apply below_alloc | apply pw_below_drewN | apply below_drew1 | refine below_set ?_ GE136.out) | exact HB.out)) hb); clear BK136; clear HB; have HO142 := n0_; have BK136 := n1_; have HB := n2_; clear n0_ n1_ n2_; clear hb ho11; have hcz12_0 : w10.cell? ⟨gb136, 0, none⟩ = some (.bool false) := (blk_cell BK136.out 0).trans rfl; have hcz12_1 : w10.cell? ⟨gb136, 1, none⟩ = some (.int .i64 a0_1) := (blk_cell BK136.out 1).trans rfl; have hfz12_0 := blk_frozen BK136.out 0; have hfz12_1 := blk_frozen BK136.out 1))
   (try simp only [Act.put, List.setIfInBounds_toArray, List.set_cons_zero, List.set_cons_succ]); go_cut [4, 5] (fun v4 v5 wc => ∃ (kq : Nat) (x4_6 : Int) (x5_6 : Int), v4 = .int .i64 x4_6 ∧ v5 = .int .i64 x5_6 ∧ Aside0 (incunableref03_events.j0 kq y140 x4_6 x5_6 = some r) ∧ Aside0 (kq ≤ k) ∧ Aside0 (Kd.R k87 87 wc w.heap.size (fun _ => True) v141 y140) ∧ Aside0 (wc.heap[gb136]? = some (.cells #[.bool false, .int .i64 a0_1] 23 (0, 0))) ∧ Aside0 (Below w.heap.size w wc))
   (case first => have H := HC7.out; clear HC7; by_cases c13 : a0_1 < 0; (· rw [if_pos c13] at H; have c13b0 : decide (a0_1 < 0) = true := decide_eq_true c13; clear c13; (first | rw [c13b0] | (simp only [i64_w, i32_w]; rw [c13b0]) | skip); have H' := Aside0.mk H; clear H; go_wp2; go_meet; (case rel => exact ⟨_, (wrap64 (-a0_1)), (1), (by first | rfl | (simp; done) | (simp [*]; done)), (by first | rfl | (simp; done) | (simp [*]; done)), H', ⟨by first | omega | exact Nat.le_refl _⟩, ⟨by (with_reducible repeat (first | apply Kd.R_alloc | apply Kd.R_drewN | apply Kd.R_drew)); exact HO142.out⟩, ⟨by (with_reducible repeat (first | refine blk_drewN ?_ _ | refine blk_drew ?_ | refine blk_alloc ?_ _)); exact BK136.out⟩, ⟨by repeat (first | (with_reducible first | exact HB.out | apply below_alloc | apply pw_below_drewN | apply below_drew1 | refine below_set ?_ GE136.out) | exact HB.out)⟩⟩)); (· rw [if_neg c13] at H; have c13b0 : decide (a0_1 < 0) = false := decide_eq_false c13; clear c13; (first | rw [c13b0] | (simp only [i64_w, i32_w]; rw [c13b0]) | skip); have H' := Aside0.mk H; clear H; go_wp2; go_meet; (case rel => exact ⟨_, (a0_1), (0), (by first | rfl | (simp; done) | (simp [*]; done)), (by first | rfl | (simp; done) | (simp [*]; done)), H', ⟨by first | omega | exact Nat.le_refl _⟩, ⟨by (with_reducible repeat (first | apply Kd.R_alloc | apply Kd.R_drewN | apply Kd.R_drew)); exact HO142.out⟩, ⟨by (with_reducible repeat (first | refine blk_drewN ?_ _ | refine blk_drew ?_ | refine blk_alloc ?_ _)); exact BK136.out⟩, ⟨by repeat (first | (with_reducible first | exact HB.out | apply below_alloc | apply pw_below_drewN | apply below_drew1 | refine below_set ?_ GE136.out) | exact HB.out)⟩⟩)))
   case rest =>
    clear HC7; (try clear c1); (try clear c2); (try clear p2); (try clear c4); (try clear p6); (try clear c13); (try clear c13b0); (try clear hcz12_0); (try clear hcz12_1); (try clear hcz4_0); (try clear hcz4_1); (try clear hcz9_0); (try clear hcz9_1); (try clear hfz12_0); (try clear hfz12_1); (try clear hfz4_0); (try clear hfz4_1); (try clear hfz9_0); (try clear hfz9_1); obtain ⟨kq, x4_6, x5_6, rfl, rfl, HA, HJ6, HO_3, BK136, HB⟩ := hcut
    cases kq with
    | zero => exact absurd HA.out (by simp [incunableref03_events.j0])
    | succ kj6 =>
     have H := HA.out; clear HA; simp only [incunableref03_events.j0] at H; have H' := Aside0.mk H; clear H; go_wp2; go_loopg [6, 7] kj6 (fun kq v6 v7 w' => ∃ (x6_2 : List Int) (x7_2 : Int), v7 = .int .i64 x7_2 ∧ Aside0 (incunableref03_events.l0 kq y140 x4_6 x5_6 x6_2 x7_2 = some r) ∧ Aside0 (kq ≤ kj6) ∧ Aside0 (Kd.R k87 87 w' w.heap.size (fun _ => True) v141 y140) ∧ Aside0 (Kd.R (Kd.int .i64) 3 w' w.heap.size (fun _ => True) v6 x6_2) ∧ Aside0 (w'.heap[gb136]? = some (.cells #[.bool false, .int .i64 a0_1] 23 (0, 0))) ∧ Aside0 (Below w.heap.size w w')); (case atStart => exact ⟨(([] : List Int)), (wrap64 (x4_6 + 1)), (by first | rfl | (simp; done) | (simp [*]; done)), H', ⟨Nat.le_refl _⟩, ⟨by (with_reducible repeat (first | apply Kd.R_alloc | apply Kd.R_drewN | apply Kd.R_drew)); exact HO_3.out⟩, ⟨by first | exact Kd.R_nil _ _ _ _ _ | exact Kd.N_nil _ _ _ _ _ | exact Kd.V_nil _ _ _ _ _ | exact Kd.Q_nil _ _ _ _ _ | exact Kd.S_nil _ _ _ _ _⟩, ⟨by (with_reducible repeat (first | refine blk_drewN ?_ _ | refine blk_drew ?_ | refine blk_alloc ?_ _)); exact BK136.out⟩, ⟨by repeat (first | (with_reducible first | exact HB.out | apply below_alloc | apply pw_below_drewN | apply below_drew1 | refine below_set ?_ GE136.out) | exact HB.out)⟩⟩)
     case round =>
      clear H'; (try clear c1); (try clear c2); (try clear p2); (try clear c4); (try clear p6); (try clear c13); (try clear c13b0); (try clear hcz12_0); (try clear hcz12_1); (try clear hcz4_0); (try clear hcz4_1); (try clear hcz9_0); (try clear hcz9_1); (try clear hfz12_0); (try clear hfz12_1); (try clear hfz4_0); (try clear hfz4_1); (try clear hfz9_0); (try clear hfz9_1); (try clear p2); (try clear p6); obtain ⟨x6_2, x7_2, rfl, HA, HK2, HO_3, HO_6, BK136, HB⟩ := hrel
      cases gk with
      | zero => exact absurd HA.out (by simp [incunableref03_events.l0])
      | succ k2 =>
       have H := HA.out; clear HA; simp only [incunableref03_events.l0] at H; by_cases c14 : x7_2 > 0
       (· rw [if_pos c14] at H; have c14b0 : decide (0 < x7_2) = true := decide_eq_true c14; clear c14; by_cases c15 : x6_2.length < 17592186044416; (· rw [if_pos c15] at H; have LMc15 := Aside0.mk c15; clear c15; obtain ⟨y143, hy143⟩ : ∃ y_ : List Int, y_ = (x6_2 ++ [Int.tmod x7_2 2]) := ⟨_, rfl⟩; (replace H : (incunableref03_events.l0 k2 y140 x4_6 x5_6 y143 (wrap64 (Int.tdiv x7_2 2))) = some r := by first | (rw [hy143]; with_reducible exact H) | (have H2_ := (Option.bind_some _ _).symm.trans H; rw [hy143]; with_reducible exact H2_) | (have H2_ := (Option.bind_some _ _).symm.trans H; with_reducible exact H2_) | with_reducible exact H | (rw [hy143]; exact H) | exact H); have Ny143 := Aside0.mk hy143; clear hy143; have H' := Aside0.mk H; clear H; go_wp2_with (first | ((with_reducible refine gate_builtin (b := .append) (xs := #[.tmp 30, .tmp 33]) rfl ?_); at_builtin; refine Kd.R_append (Kd.int .i64) (w0 := w) w.heap.size rfl (.tmp 30) (.tmp 33) 43 3 (.int .i64 0) 8 rfl Try.underlying43 info3 rfl (by decide) (by omega) u6 x6_2 (Int.tmod x7_2 2) [.int .i64 (Int.tmod x7_2 2)] (fun _ => True) (fun _ => False) rfl rfl ?aP (fun _ hk => hk.elim) ?aF ?aO ?aB ?aS ?aL ?_; (case aP => exact rfl); (case aB => exact (by repeat (first | (with_reducible first | exact HB.out | apply below_alloc | apply pw_below_drewN | apply below_drew1 | refine below_set ?_ GE136.out) | exact HB.out))); (case aF => exact (fun _ _ => trivial)); (case aO => exact (by (with_reducible repeat (first | apply Kd.R_alloc | apply Kd.R_drewN | apply Kd.R_drew)); exact HO_6.out)); (case aS => exact (below_size (by repeat (first | (with_reducible first | exact HB.out | apply below_alloc | apply pw_below_drewN | apply below_drew1 | refine below_set ?_ GE136.out) | exact HB.out)))); (case aL => have := LMc15.out; omega); intro v144 w16 ho hb hg hat; rw [← Ny143.out] at ho; have n0_ := Aside0.mk (Kd.R_over' (by (with_reducible repeat (first | apply Kd.R_alloc | apply Kd.R_drewN | apply Kd.R_drew)); exact HO_3.out) (Kd.R_typed (by (with_reducible repeat (first | apply Kd.R_alloc | apply Kd.R_drewN | apply Kd.R_drew)); exact HO_6.out)) (by decide) hg); have n1_ := Aside0.mk (blk_grown (g := gb136) (o := .cells #[.bool false, .int .i64 a0_1] 23 (0, 0)) (by (with_reducible repeat (first | refine blk_drewN ?_ _ | refine blk_drew ?_ | refine blk_alloc ?_ _)); exact BK136.out) hg (Kd.R_ne HO_6.out BK136.out (by decide))); have n2_ := Aside0.mk (hb); have n3_ := Aside0.mk (ho); clear HO_3; clear BK136; clear HB; clear HO_6; have HO_3 := n0_; have BK136 := n1_; have HB := n2_; have HO145 := n3_; clear n0_ n1_ n2_ n3_; clear ho hb hg hat)); go_roundg k2; (case measure => have := HJ6.out; have := HK2.out; omega); (case rel => exact ⟨(y143), (wrap64 (Int.tdiv x7_2 2)), (by first | rfl | (simp; done) | (simp [*]; done)), H', ⟨by have := HJ6.out; have := HK2.out; omega⟩, ⟨by (with_reducible repeat (first | apply Kd.R_alloc | apply Kd.R_drewN | apply Kd.R_drew)); exact HO_3.out⟩, ⟨by (with_reducible repeat (first | apply Kd.R_alloc | apply Kd.R_drewN | apply Kd.R_drew)); exact HO145.out⟩, ⟨by (with_reducible repeat (first | refine blk_drewN ?_ _ | refine blk_drew ?_ | refine blk_alloc ?_ _)); exact BK136.out⟩, ⟨by repeat (first | (with_reducible first | exact HB.out | apply below_alloc | apply pw_below_drewN | apply below_drew1 | refine below_set ?_ GE136.out) | exact HB.out)⟩⟩)); (· rw [if_neg c15] at H; exact absurd H (by simp)))
       · rw [if_neg c14] at H
         have c14b0 : decide (0 < x7_2) = false := decide_eq_false c14; clear c14; have H' := Aside0.mk H; clear H; obtain ⟨Ao17, co17, eo17⟩ := Kd.R_slice HO_6.out; subst eo17; go_wp2; go_loopg [3, 9] k2 (fun kq v3 v9 w' => ∃ (x3_3 : List (S87)) (x9_3 : Int), v9 = .int .i64 x9_3 ∧ Aside0 (incunableref03_events.l1 kq x3_3 x4_6 x5_6 x6_2 (wrap64 ((x6_2.length : Int) - 1)) x9_3 = some r) ∧ Aside0 (kq ≤ k2) ∧ Aside0 (Kd.R k87 87 w' w.heap.size (fun _ => True) v3 x3_3) ∧ Aside0 (Kd.R (Kd.int .i64) 3 w' w.heap.size (fun _ => True) (.slice Ao17 x6_2.length co17) x6_2) ∧ Aside0 (w'.heap[gb136]? = some (.cells #[.bool false, .int .i64 a0_1] 23 (0, 0))) ∧ Aside0 (Below w.heap.size w w')); (case atStart => exact ⟨(y140), (0), (by first | rfl | (simp; done) | (simp [*]; done)), H', ⟨Nat.le_refl _⟩, ⟨by (with_reducible repeat (first | apply Kd.R_alloc | apply Kd.R_drewN | apply Kd.R_drew)); exact HO_3.out⟩, ⟨by (with_reducible repeat (first | apply Kd.R_alloc | apply Kd.R_drewN | apply Kd.R_drew)); exact HO_6.out⟩, ⟨by (with_reducible repeat (first | refine blk_drewN ?_ _ | refine blk_drew ?_ | refine blk_alloc ?_ _)); exact BK136.out⟩, ⟨by repeat (first | (with_reducible first | exact HB.out | apply below_alloc | apply pw_below_drewN | apply below_drew1 | refine below_set ?_ GE136.out) | exact HB.out)⟩⟩)
         case round =>
          clear H'; (try clear c1); (try clear c2); (try clear p2); (try clear c4); (try clear p6); (try clear c13); (try clear c13b0); (try clear c14); (try clear c14b0); (try clear c15); (try clear hcz12_0); (try clear hcz12_1); (try clear hcz4_0); (try clear hcz4_1); (try clear hcz9_0); (try clear hcz9_1); (try clear hfz12_0); (try clear hfz12_1); (try clear hfz4_0); (try clear hfz4_1); (try clear hfz9_0); (try clear hfz9_1); (try clear p2); (try clear p6); obtain ⟨x3_3, x9_3, rfl, HA, HK3, HO_3, HO_6, BK136, HB⟩ := hrel
          cases gk with
          | zero => exact absurd HA.out (by simp [incunableref03_events.l1])
          | succ k3 =>
           have H := HA.out; clear HA; simp only [incunableref03_events.l1] at H; by_cases c18 : x9_3 < (wrap64 ((x6_2.length : Int) - 1))
           (· rw [if_pos c18] at H; have c18b0 : decide (x9_3 < (wrap64 ((x6_2.length : Int) - 1))) = true := decide_eq_true c18; clear c18; by_cases c19 : x3_3.length < 8796093022208; (· rw [if_pos c19] at H; have LMc19 := Aside0.mk c19; clear c19; obtain ⟨y146, hy146⟩ : ∃ y_ : List (S87), y_ = (x3_3 ++ [(⟨wrap64 (1 + x9_3), 1⟩ : S87)]) := ⟨_, rfl⟩; (replace H : (incunableref03_events.l1 k3 y146 x4_6 x5_6 x6_2 (wrap64 ((x6_2.length : Int) - 1)) (wrap64 (x9_3 + 1))) = some r := by first | (rw [hy146]; with_reducible exact H) | (have H2_ := (Option.bind_some _ _).symm.trans H; rw [hy146]; with_reducible exact H2_) | (have H2_ := (Option.bind_some _ _).symm.trans H; with_reducible exact H2_) | with_reducible exact H | (rw [hy146]; exact H) | exact H); have Ny146 := Aside0.mk hy146; clear hy146; have H' := Aside0.mk H; clear H; go_wp2_with (first | ((with_reducible refine gate_builtin (b := .append) (xs := #[.tmp 43, .tmp 47]) rfl ?_); at_builtin; refine Kd.R_append k87 (w0 := w) w.heap.size rfl (.tmp 43) (.tmp 47) 24 87 (.agg #[(.int .i64 0), (.int .i64 0)]) 16 rfl Try.underlying24 info87 rfl (by decide) (by omega) u3 x3_3 (⟨wrap64 (1 + x9_3), 1⟩ : S87) [.int .i64 (wrap64 (1 + x9_3)), .int .i64 1] (fun _ => True) (fun _ => False) rfl rfl ?aP (fun _ hk => hk.elim) ?aF ?aO ?aB ?aS ?aL ?_; (case aP => exact k87_mkM _ _ _ (⟨wrap64 (1 + x9_3), 1⟩ : S87)); (case aB => exact (by repeat (first | (with_reducible first | exact HB.out | apply below_alloc | apply pw_below_drewN | apply below_drew1 | refine below_set ?_ GE136.out) | exact HB.out))); (case aF => exact (fun _ _ => trivial)); (case aO => exact (by (with_reducible repeat (first | apply Kd.R_alloc | apply Kd.R_drewN | apply Kd.R_drew)); exact HO_3.out)); (case aS => exact (below_size (by repeat (first | (with_reducible first | exact HB.out | apply below_alloc | apply pw_below_drewN | apply below_drew1 | refine below_set ?_ GE136.out) | exact HB.out)))); (case aL => have := LMc19.out; omega); intro v147 w20 ho hb hg hat; rw [← Ny146.out] at ho; have n0_ := Aside0.mk (Kd.R_over' (by (with_reducible repeat (first | apply Kd.R_alloc | apply Kd.R_drewN | apply Kd.R_drew)); exact HO_6.out) (Kd.R_typed (by (with_reducible repeat (first | apply Kd.R_alloc | apply Kd.R_drewN | apply Kd.R_drew)); exact HO_3.out)) (by decide) hg); have n1_ := Aside0.mk (blk_grown (g := gb136) (o := .cells #[.bool false, .int .i64 a0_1] 23 (0, 0)) (by (with_reducible repeat (first | refine blk_drewN ?_ _ | refine blk_drew ?_ | refine blk_alloc ?_ _)); exact BK136.out) hg (Kd.R_ne HO_3.out BK136.out (by decide))); have n2_ := Aside0.mk (hb); have n3_ := Aside0.mk (ho); clear HO_6; clear BK136; clear HB; clear HO_3; have HO_6 := n0_; have BK136 := n1_; have HB := n2_; have HO148 := n3_; clear n0_ n1_ n2_ n3_; clear ho hb hg hat)); go_roundg k3; (case measure => have := HJ6.out; have := HK2.out; have := HK3.out; omega); (case rel => exact ⟨(y146), (wrap64 (x9_3 + 1)), (by first | rfl | (simp; done) | (simp [*]; done)), H', ⟨by have := HJ6.out; have := HK2.out; have := HK3.out; omega⟩, ⟨by (with_reducible repeat (first | apply Kd.R_alloc | apply Kd.R_drewN | apply Kd.R_drew)); exact HO148.out⟩, ⟨by (with_reducible repeat (first | apply Kd.R_alloc | apply Kd.R_drewN | apply Kd.R_drew)); exact HO_6.out⟩, ⟨by (with_reducible repeat (first | refine blk_drewN ?_ _ | refine blk_drew ?_ | refine blk_alloc ?_ _)); exact BK136.out⟩, ⟨by repeat (first | (with_reducible first | exact HB.out | apply below_alloc | apply pw_below_drewN | apply below_drew1 | refine below_set ?_ GE136.out) | exact HB.out)⟩⟩)); (· rw [if_neg c19] at H; exact absurd H (by simp)))
           · rw [if_neg c18] at H
             have c18b0 : decide (x9_3 < (wrap64 ((x6_2.length : Int) - 1))) = false := decide_eq_false c18; clear c18; have HC21 := Aside0.mk H; clear H; go_upto_if 50 with (fail); go_cut [3] (fun v3 wc => ∃ (kq : Nat) (x3_20 : List (S87)), Aside0 (incunableref03_events.j3 kq x3_20 x4_6 x5_6 x6_2 (wrap64 ((x6_2.length : Int) - 1)) = some r) ∧ Aside0 (kq ≤ k3) ∧ Aside0 (Kd.R k87 87 wc w.heap.size (fun _ => True) v3 x3_20) ∧ Aside0 (Kd.R (Kd.int .i64) 3 wc w.heap.size (fun _ => True) (.slice Ao17 x6_2.length co17) x6_2) ∧ Aside0 (wc.heap[gb136]? = some (.cells #[.bool false, .int .i64 a0_1] 23 (0, 0))) ∧ Aside0 (Below w.heap.size w wc))
             (case first => have H := HC21.out; clear HC21; by_cases c22 : (wrap64 ((x6_2.length : Int) - 1)) < 20; (· rw [if_pos c22] at H; have c22b0 : decide ((wrap64 ((x6_2.length : Int) - 1)) < 20) = true := decide_eq_true c22; clear c22; (first | rw [c22b0] | (simp only [i64_w, i32_w]; rw [c22b0]) | skip); by_cases c23 : x3_3.length < 8796093022208; (· rw [if_pos c23] at H; have LMc23 := Aside0.mk c23; clear c23; obtain ⟨y149, hy149⟩ : ∃ y_ : List (S87), y_ = (x3_3 ++ [(⟨wrap64 (1 + (wrap64 ((x6_2.length : Int) - 1))), 0⟩ : S87)]) := ⟨_, rfl⟩; (replace H : (incunableref03_events.j3 k3 y149 x4_6 x5_6 x6_2 (wrap64 ((x6_2.length : Int) - 1))) = some r := by first | (rw [hy149]; with_reducible exact H) | (have H2_ := (Option.bind_some _ _).symm.trans H; rw [hy149]; with_reducible exact H2_) | (have H2_ := (Option.bind_some _ _).symm.trans H; with_reducible exact H2_) | with_reducible exact H | (rw [hy149]; exact H) | exact H); have Ny149 := Aside0.mk hy149; clear hy149; have H' := Aside0.mk H; clear H; go_wp2_with (first | ((with_reducible refine gate_builtin (b := .append) (xs := #[.tmp 51, .tmp 55]) rfl ?_); at_builtin; refine Kd.R_append k87 (w0 := w) w.heap.size rfl (.tmp 51) (.tmp 55) 24 87 (.agg #[(.int .i64 0), (.int .i64 0)]) 16 rfl Try.underlying24 info87 rfl (by decide) (by omega) u3 x3_3 (⟨wrap64 (1 + (wrap64 ((x6_2.length : Int) - 1))), 0⟩ : S87) [.int .i64 (wrap64 (1 + (wrap64 ((x6_2.length : Int) - 1)))), .int .i64 0] (fun _ => True) (fun _ => False) rfl rfl ?aP (fun _ hk => hk.elim) ?aF ?aO ?aB ?aS ?aL ?_; (case aP => exact k87_mkM _ _ _ (⟨wrap64 (1 + (wrap64 ((x6_2.length : Int) - 1))), 0⟩ : S87)); (case aB => exact (by repeat (first | (with_reducible first | exact HB.out | apply below_alloc | apply pw_below_drewN | apply below_drew1 | refine below_set ?_ GE136.out) | exact HB.out))); (case aF => exact (fun _ _ => trivial)); (case aO => exact (by (with_reducible repeat (first | apply Kd.R_alloc | apply Kd.R_drewN | apply Kd.R_drew)); exact HO_3.out)); (case aS => exact (below_size (by repeat (first | (with_reducible first | exact HB.out | apply below_alloc | apply pw_below_drewN | apply below_drew1 | refine below_set ?_ GE136.out) | exact HB.out)))); (case aL => have := LMc23.out; omega); intro v150 w24 ho hb hg hat; rw [← Ny149.out] at ho; have n0_ := Aside0.mk (Kd.R_over' (by (with_reducible repeat (first | apply Kd.R_alloc | apply Kd.R_drewN | apply Kd.R_drew)); exact HO_6.out) (Kd.R_typed (by (with_reducible repeat (first | apply Kd.R_alloc | apply Kd.R_drewN | apply Kd.R_drew)); exact HO_3.out)) (by decide) hg); have n1_ := Aside0.mk (blk_grown (g := gb136) (o := .cells #[.bool false, .int .i64 a0_1] 23 (0, 0)) (by (with_reducible repeat (first | refine blk_drewN ?_ _ | refine blk_drew ?_ | refine blk_alloc ?_ _)); exact BK136.out) hg (Kd.R_ne HO_3.out BK136.out (by decide))); have n2_ := Aside0.mk (hb); have n3_ := Aside0.mk (ho); clear HO_6; clear BK136; clear HB; clear HO_3; have HO_6 := n0_; have BK136 := n1_; have HB := n2_; have HO151 := n3_; clear n0_ n1_ n2_ n3_; clear ho hb hg hat)); go_meet; (case rel => exact ⟨_, (y149), H', ⟨by have := HJ6.out; have := HK2.out; have := HK3.out; first | omega | exact Nat.le_refl _⟩, ⟨by (with_reducible repeat (first | apply Kd.R_alloc | apply Kd.R_drewN | apply Kd.R_drew)); exact HO151.out⟩, ⟨by (with_reducible repeat (first | apply Kd.R_alloc | apply Kd.R_drewN | apply Kd.R_drew)); exact HO_6.out⟩, ⟨by (with_reducible repeat (first | refine blk_drewN ?_ _ | refine blk_drew ?_ | refine blk_alloc ?_ _)); exact BK136.out⟩, ⟨by repeat (first | (with_reducible first | exact HB.out | apply below_alloc | apply pw_below_drewN | apply below_drew1 | refine below_set ?_ GE136.out) | exact HB.out)⟩⟩)); (· rw [if_neg c23] at H; exact absurd H (by simp))); (· rw [if_neg c22] at H; have c22b0 : decide ((wrap64 ((x6_2.length : Int) - 1)) < 20) = false := decide_eq_false c22; clear c22; (first | rw [c22b0] | (simp only [i64_w, i32_w]; rw [c22b0]) | skip); have H' := Aside0.mk H; clear H; go_wp2; go_meet; (case rel => exact ⟨_, (x3_3), H', ⟨by have := HJ6.out; have := HK2.out; have := HK3.out; first | omega | exact Nat.le_refl _⟩, ⟨by (with_reducible repeat (first | apply Kd.R_alloc | apply Kd.R_drewN | apply Kd.R_drew)); exact HO_3.out⟩, ⟨by (with_reducible repeat (first | apply Kd.R_alloc | apply Kd.R_drewN | apply Kd.R_drew)); exact HO_6.out⟩, ⟨by (with_reducible repeat (first | refine blk_drewN ?_ _ | refine blk_drew ?_ | refine blk_alloc ?_ _)); exact BK136.out⟩, ⟨by repeat (first | (with_reducible first | exact HB.out | apply below_alloc | apply pw_below_drewN | apply below_drew1 | refine below_set ?_ GE136.out) | exact HB.out)⟩⟩)))
             case rest =>
              clear HC21; (try clear c1); (try clear c2); (try clear p2); (try clear c4); (try clear p6); (try clear c13); (try clear c13b0); (try clear c14); (try clear c14b0); (try clear c15); (try clear c18); (try clear c18b0); (try clear c19); (try clear c22); (try clear c22b0); (try clear c23); (try clear hcz12_0); (try clear hcz12_1); (try clear hcz4_0); (try clear hcz4_1); (try clear hcz9_0); (try clear hcz9_1); (try clear hfz12_0); (try clear hfz12_1); (try clear hfz4_0); (try clear hfz4_1); (try clear hfz9_0); (try clear hfz9_1); (try clear p2); (try clear p6); obtain ⟨kq, x3_20, HA, HJ20, HO_3, HO_6, BK136, HB⟩ := hcut
              cases kq with
              | zero => exact absurd HA.out (by simp [incunableref03_events.j3])
              | succ kj20 =>
               have H := HA.out; clear HA; simp only [incunableref03_events.j3] at H; have H' := Aside0.mk H; clear H; go_wp2; go_loopg [3, 10] kj20 (fun kq v3 v10 w' => ∃ (x3_5 : List (S87)) (x10_5 : Int), v10 = .int .i64 x10_5 ∧ Aside0 (incunableref03_events.l2 kq x3_5 x4_6 x5_6 x6_2 (wrap64 ((x6_2.length : Int) - 1)) x10_5 = some r) ∧ Aside0 (kq ≤ kj20) ∧ Aside0 (Kd.R k87 87 w' w.heap.size (fun _ => True) v3 x3_5) ∧ Aside0 (Kd.R (Kd.int .i64) 3 w' w.heap.size (fun _ => True) (.slice Ao17 x6_2.length co17) x6_2) ∧ Aside0 (w'.heap[gb136]? = some (.cells #[.bool false, .int .i64 a0_1] 23 (0, 0))) ∧ Aside0 (Below w.heap.size w w')); (case atStart => exact ⟨(x3_20), (0), (by first | rfl | (simp; done) | (simp [*]; done)), H', ⟨Nat.le_refl _⟩, ⟨by (with_reducible repeat (first | apply Kd.R_alloc | apply Kd.R_drewN | apply Kd.R_drew)); exact HO_3.out⟩, ⟨by (with_reducible repeat (first | apply Kd.R_alloc | apply Kd.R_drewN | apply Kd.R_drew)); exact HO_6.out⟩, ⟨by (with_reducible repeat (first | refine blk_drewN ?_ _ | refine blk_drew ?_ | refine blk_alloc ?_ _)); exact BK136.out⟩, ⟨by repeat (first | (with_reducible first | exact HB.out | apply below_alloc | apply pw_below_drewN | apply below_drew1 | refine below_set ?_ GE136.out) | exact HB.out)⟩⟩)
               case round =>
                clear H'; (try clear c1); (try clear c2); (try clear p2); (try clear c4); (try clear p6); (try clear c13); (try clear c13b0); (try clear c14); (try clear c14b0); (try clear c15); (try clear c18); (try clear c18b0); (try clear c19); (try clear c22); (try clear c22b0); (try clear c23); (try clear hcz12_0); (try clear hcz12_1); (try clear hcz4_0); (try clear hcz4_1); (try clear hcz9_0); (try clear hcz9_1); (try clear hfz12_0); (try clear hfz12_1); (try clear hfz4_0); (try clear hfz4_1); (try clear hfz9_0); (try clear hfz9_1); (try clear p2); (try clear p6); obtain ⟨x3_5, x10_5, rfl, HA, HK5, HO_3, HO_6, BK136, HB⟩ := hrel
                cases gk with
                | zero => exact absurd HA.out (by simp [incunableref03_events.l2])
                | succ k5 =>
                 have H := HA.out; clear HA; simp only [incunableref03_events.l2] at H; by_cases c25 : x10_5 < (wrap64 ((x6_2.length : Int) - 1))
                 (· rw [if_pos c25] at H; have c25b0 : decide (x10_5 < (wrap64 ((x6_2.length : Int) - 1))) = true := decide_eq_true c25; clear c25; obtain ⟨ji26, hji26⟩ : ∃ j_ : Int, (mn (wrap64 (43 + x10_5)) 47) = j_ := ⟨_, rfl⟩; (replace H : (if x10_5 = 0 then (if 0 ≤ (wrap64 ((wrap64 ((wrap64 ((x6_2.length : Int) - 1)) - 1)) - x10_5)) then (if (wrap64 ((wrap64 ((wrap64 ((x6_2.length : Int) - 1)) - 1)) - x10_5)) < (x6_2.length : Int) then (if x3_5.length < 8796093022208 then (incunableref03_events.l2 k5 (x3_5 ++ [(⟨wrap64 (23 + (wrap64 ((x6_2.length : Int) - 1))), rd x6_2 (wrap64 ((wrap64 ((wrap64 ((x6_2.length : Int) - 1)) - 1)) - x10_5))⟩ : S87)]) x4_6 x5_6 x6_2 (wrap64 ((x6_2.length : Int) - 1)) (wrap64 (x10_5 + 1))) else (none)) else (none)) else (none)) else (if 0 ≤ (wrap64 ((wrap64 ((wrap64 ((x6_2.length : Int) - 1)) - 1)) - x10_5)) then (if (wrap64 ((wrap64 ((wrap64 ((x6_2.length : Int) - 1)) - 1)) - x10_5)) < (x6_2.length : Int) then (if x3_5.length < 8796093022208 then (incunableref03_events.l2 k5 (x3_5 ++ [(⟨ji26, rd x6_2 (wrap64 ((wrap64 ((wrap64 ((x6_2.length : Int) - 1)) - 1)) - x10_5))⟩ : S87)]) x4_6 x5_6 x6_2 (wrap64 ((x6_2.length : Int) - 1)) (wrap64 (x10_5 + 1))) else (none)) else (none)) else (none))) = some r := by first | (rw [hji26] at H; exact H) | (simp only [hji26] at H ⊢; exact H)); have hji26_ : (if 47 < (wrap64 (43 + x10_5)) then 47 else (wrap64 (43 + x10_5))) = ji26 := hji26; by_cases c27 : x10_5 = 0; (· rw [if_pos c27] at H; have c27b0 : (x10_5 == 0) = true := beq_iff_eq.mpr c27; have c27b1 : (x10_5 != 0) = false := bne_eq_false_iff_eq.mpr c27; clear c27; obtain ⟨ji28, hji28⟩ : ∃ j_ : Int, (wrap64 ((wrap64 ((wrap64 ((x6_2.length : Int) - 1)) - 1)) - x10_5)) = j_ := ⟨_, rfl⟩; (replace H : (if 0 ≤ (ji28) then (if (ji28) < (x6_2.length : Int) then (if x3_5.length < 8796093022208 then (incunableref03_events.l2 k5 (x3_5 ++ [(⟨wrap64 (23 + (wrap64 ((x6_2.length : Int) - 1))), rd x6_2 (ji28)⟩ : S87)]) x4_6 x5_6 x6_2 (wrap64 ((x6_2.length : Int) - 1)) (wrap64 (x10_5 + 1))) else (none)) else (none)) else (none)) = some r := by first | (rw [hji28] at H; exact H) | (simp only [hji28] at H ⊢; exact H)); have hji28w : (IntKind.i64.wrap ((wrap64 ((wrap64 ((x6_2.length : Int) - 1)) - 1)) - x10_5)) = ji28 := (i64_w _).trans hji28; by_cases c29 : 0 ≤ (ji28); (· rw [if_pos c29] at H; have c29b0 : decide (0 ≤ (ji28)) = true := decide_eq_true c29; clear c29; by_cases c30 : (ji28) < (x6_2.length : Int); (· rw [if_pos c30] at H; have c30b0 : decide ((ji28) < (x6_2.length : Int)) = true := decide_eq_true c30; clear c30; by_cases c31 : x3_5.length < 8796093022208; (· rw [if_pos c31] at H; have LMc31 := Aside0.mk c31; clear c31; obtain ⟨y153, hy153⟩ : ∃ y_ : List (S87), y_ = (x3_5 ++ [(⟨wrap64 (23 + (wrap64 ((x6_2.length : Int) - 1))), rd x6_2 (ji28)⟩ : S87)]) := ⟨_, rfl⟩; (replace H : (incunableref03_events.l2 k5 y153 x4_6 x5_6 x6_2 (wrap64 ((x6_2.length : Int) - 1)) (wrap64 (x10_5 + 1))) = some r := by first | (rw [hy153]; with_reducible exact H) | (have H2_ := (Option.bind_some _ _).symm.trans H; rw [hy153]; with_reducible exact H2_) | (have H2_ := (Option.bind_some _ _).symm.trans H; with_reducible exact H2_) | with_reducible exact H | (rw [hy153]; exact H) | exact H); have Ny153 := Aside0.mk hy153; clear hy153; have H' := Aside0.mk H; clear H; have p152 : 0 ≤ ((ji28) : Int) := of_decide_eq_true (by first | (with_reducible assumption) | assumption); have q152 : (ji28) < (x6_2.length : Int) := of_decide_eq_true (by first | (with_reducible assumption) | assumption); obtain ⟨ad152, e152, hx152_0⟩ := Kd.at_int (Kd.R_reads' HO_6.out).2.2 (ji28) p152 q152; cases e152; replace p152 := eq_true p152; replace q152 := eq_true q152; go_wp2_with (first | ((with_reducible refine gate_builtin (b := .append) (xs := #[.tmp 69, .tmp 79]) rfl ?_); at_builtin; refine Kd.R_append k87 (w0 := w) w.heap.size rfl (.tmp 69) (.tmp 79) 24 87 (.agg #[(.int .i64 0), (.int .i64 0)]) 16 rfl Try.underlying24 info87 rfl (by decide) (by omega) u3 x3_5 (⟨wrap64 (23 + (wrap64 ((x6_2.length : Int) - 1))), rd x6_2 (ji28)⟩ : S87) [.int .i64 (wrap64 (23 + (wrap64 ((x6_2.length : Int) - 1)))), .int .i64 (rd x6_2 (ji28))] (fun _ => True) (fun _ => False) rfl rfl ?aP (fun _ hk => hk.elim) ?aF ?aO ?aB ?aS ?aL ?_; (case aP => exact k87_mkM _ _ _ (⟨wrap64 (23 + (wrap64 ((x6_2.length : Int) - 1))), rd x6_2 (ji28)⟩ : S87)); (case aB => exact (by repeat (first | (with_reducible first | exact HB.out | apply below_alloc | apply pw_below_drewN | apply below_drew1 | refine below_set ?_ GE136.out) | exact HB.out))); (case aF => exact (fun _ _ => trivial)); (case aO => exact (by (with_reducible repeat (first | apply Kd.R_alloc | apply Kd.R_drewN | apply Kd.R_drew)); exact HO_3.out)); (case aS => exact (below_size (by repeat (first | (with_reducible first | exact HB.out | apply below_alloc | apply pw_below_drewN | apply below_drew1 | refine below_set ?_ GE136.out) | exact HB.out)))); (case aL => have := LMc31.out; omega); intro v154 w32 ho hb hg hat; rw [← Ny153.out] at ho; have n0_ := Aside0.mk (Kd.R_over' (by (with_reducible repeat (first | apply Kd.R_alloc | apply Kd.R_drewN | apply Kd.R_drew)); exact HO_6.out) (Kd.R_typed (by (with_reducible repeat (first | apply Kd.R_alloc | apply Kd.R_drewN | apply Kd.R_drew)); exact HO_3.out)) (by decide) hg); have n1_ := Aside0.mk (blk_grown (g := gb136) (o := .cells #[.bool false, .int .i64 a0_1] 23 (0, 0)) (by (with_reducible repeat (first | refine blk_drewN ?_ _ | refine blk_drew ?_ | refine blk_alloc ?_ _)); exact BK136.out) hg (Kd.R_ne HO_3.out BK136.out (by decide))); have n2_ := Aside0.mk (hb); have n3_ := Aside0.mk (ho); clear HO_6; clear BK136; clear HB; clear HO_3; have HO_6 := n0_; have BK136 := n1_; have HB := n2_; have HO155 := n3_; clear n0_ n1_ n2_ n3_; clear ho hb hg hat)); go_roundg k5; (case measure => have := HJ6.out; have := HK2.out; have := HK3.out; have := HJ20.out; have := HK5.out; omega); (case rel => exact ⟨(y153), (wrap64 (x10_5 + 1)), (by first | rfl | (simp; done) | (simp [*]; done)), H', ⟨by have := HJ6.out; have := HK2.out; have := HK3.out; have := HJ20.out; have := HK5.out; omega⟩, ⟨by (with_reducible repeat (first | apply Kd.R_alloc | apply Kd.R_drewN | apply Kd.R_drew)); exact HO155.out⟩, ⟨by (with_reducible repeat (first | apply Kd.R_alloc | apply Kd.R_drewN | apply Kd.R_drew)); exact HO_6.out⟩, ⟨by (with_reducible repeat (first | refine blk_drewN ?_ _ | refine blk_drew ?_ | refine blk_alloc ?_ _)); exact BK136.out⟩, ⟨by repeat (first | (with_reducible first | exact HB.out | apply below_alloc | apply pw_below_drewN | apply below_drew1 | refine below_set ?_ GE136.out) | exact HB.out)⟩⟩)); (· rw [if_neg c31] at H; exact absurd H (by simp))); (· rw [if_neg c30] at H; exact absurd H (by simp))); (· rw [if_neg c29] at H; exact absurd H (by simp))); (· rw [if_neg c27] at H; have c27b0 : (x10_5 == 0) = false := beq_eq_false_iff_ne.mpr c27; have c27b1 : (x10_5 != 0) = true := bne_iff_ne.mpr c27; obtain ⟨ji33, hji33⟩ : ∃ j_ : Int, (wrap64 ((wrap64 ((wrap64 ((x6_2.length : Int) - 1)) - 1)) - x10_5)) = j_ := ⟨_, rfl⟩; (replace H : (if 0 ≤ (ji33) then (if (ji33) < (x6_2.length : Int) then (if x3_5.length < 8796093022208 then (incunableref03_events.l2 k5 (x3_5 ++ [(⟨ji26, rd x6_2 (ji33)⟩ : S87)]) x4_6 x5_6 x6_2 (wrap64 ((x6_2.length : Int) - 1)) (wrap64 (x10_5 + 1))) else (none)) else (none)) else (none)) = some r := by first | (rw [hji33] at H; exact H) | (simp only [hji33] at H ⊢; exact H)); have hji33w : (IntKind.i64.wrap ((wrap64 ((wrap64 ((x6_2.length : Int) - 1)) - 1)) - x10_5)) = ji33 := (i64_w _).trans hji33; by_cases c34 : 0 ≤ (ji33); (· rw [if_pos c34] at H; have c34b0 : decide (0 ≤ (ji33)) = true := decide_eq_true c34; clear c34; by_cases c35 : (ji33) < (x6_2.length : Int); (· rw [if_pos c35] at H; have c35b0 : decide ((ji33) < (x6_2.length : Int)) = true := decide_eq_true c35; clear c35; by_cases c36 : x3_5.length < 8796093022208; (· rw [if_pos c36] at H; have LMc36 := Aside0.mk c36; clear c36; obtain ⟨y157, hy157⟩ : ∃ y_ : List (S87), y_ = (x3_5 ++ [(⟨ji26, rd x6_2 (ji33)⟩ : S87)]) := ⟨_, rfl⟩; (replace H : (incunableref03_events.l2 k5 y157 x4_6 x5_6 x6_2 (wrap64 ((x6_2.length : Int) - 1)) (wrap64 (x10_5 + 1))) = some r := by first | (rw [hy157]; with_reducible exact H) | (have H2_ := (Option.bind_some _ _).symm.trans H; rw [hy157]; with_reducible exact H2_) | (have H2_ := (Option.bind_some _ _).symm.trans H; with_reducible exact H2_) | with_reducible exact H | (rw [hy157]; exact H) | exact H); have Ny157 := Aside0.mk hy157; clear hy157; have H' := Aside0.mk H; clear H; have p156 : 0 ≤ ((ji33) : Int) := of_decide_eq_true (by first | (with_reducible assumption) | assumption); have q156 : (ji33) < (x6_2.length : Int) := of_decide_eq_true (by first | (with_reducible assumption) | assumption); obtain ⟨ad156, e156, hx156_0⟩ := Kd.at_int (Kd.R_reads' HO_6.out).2.2 (ji33) p156 q156; cases e156; replace p156 := eq_true p156; replace q156 := eq_true q156; go_wp2_with (first | ((with_reducible refine gate_builtin (b := .append) (xs := #[.tmp 69, .tmp 79]) rfl ?_); at_builtin; refine Kd.R_append k87 (w0 := w) w.heap.size rfl (.tmp 69) (.tmp 79) 24 87 (.agg #[(.int .i64 0), (.int .i64 0)]) 16 rfl Try.underlying24 info87 rfl (by decide) (by omega) u3 x3_5 (⟨ji26, rd x6_2 (ji33)⟩ : S87) [.int .i64 ji26, .int .i64 (rd x6_2 (ji33))] (fun _ => True) (fun _ => False) rfl rfl ?aP (fun _ hk => hk.elim) ?aF ?aO ?aB ?aS ?aL ?_; (case aP => exact k87_mkM _ _ _ (⟨ji26, rd x6_2 (ji33)⟩ : S87)); (case aB => exact (by repeat (first | (with_reducible first | exact HB.out | apply below_alloc | apply pw_below_drewN | apply below_drew1 | refine below_set ?_ GE136.out) | exact HB.out))); (case aF => exact (fun _ _ => trivial)); (case aO => exact (by (with_reducible repeat (first | apply Kd.R_alloc | apply Kd.R_drewN | apply Kd.R_drew)); exact HO_3.out)); (case aS => exact (below_size (by repeat (first | (with_reducible first | exact HB.out | apply below_alloc | apply pw_below_drewN | apply below_drew1 | refine below_set ?_ GE136.out) | exact HB.out)))); (case aL => have := LMc36.out; omega); intro v158 w37 ho hb hg hat; rw [← Ny157.out] at ho; have n0_ := Aside0.mk (Kd.R_over' (by (with_reducible repeat (first | apply Kd.R_alloc | apply Kd.R_drewN | apply Kd.R_drew)); exact HO_6.out) (Kd.R_typed (by (with_reducible repeat (first | apply Kd.R_alloc | apply Kd.R_drewN | apply Kd.R_drew)); exact HO_3.out)) (by decide) hg); have n1_ := Aside0.mk (blk_grown (g := gb136) (o := .cells #[.bool false, .int .i64 a0_1] 23 (0, 0)) (by (with_reducible repeat (first | refine blk_drewN ?_ _ | refine blk_drew ?_ | refine blk_alloc ?_ _)); exact BK136.out) hg (Kd.R_ne HO_3.out BK136.out (by decide))); have n2_ := Aside0.mk (hb); have n3_ := Aside0.mk (ho); clear HO_6; clear BK136; clear HB; clear HO_3; have HO_6 := n0_; have BK136 := n1_; have HB := n2_; have HO159 := n3_; clear n0_ n1_ n2_ n3_; clear ho hb hg hat)); go_roundg k5; (case measure => have := HJ6.out; have := HK2.out; have := HK3.out; have := HJ20.out; have := HK5.out; omega); (case rel => exact ⟨(y157), (wrap64 (x10_5 + 1)), (by first | rfl | (simp; done) | (simp [*]; done)), H', ⟨by have := HJ6.out; have := HK2.out; have := HK3.out; have := HJ20.out; have := HK5.out; omega⟩, ⟨by (with_reducible repeat (first | apply Kd.R_alloc | apply Kd.R_drewN | apply Kd.R_drew)); exact HO159.out⟩, ⟨by (with_reducible repeat (first | apply Kd.R_alloc | apply Kd.R_drewN | apply Kd.R_drew)); exact HO_6.out⟩, ⟨by (with_reducible repeat (first | refine blk_drewN ?_ _ | refine blk_drew ?_ | refine blk_alloc ?_ _)); exact BK136.out⟩, ⟨by repeat (first | (with_reducible first | exact HB.out | apply below_alloc | apply pw_below_drewN | apply below_drew1 | refine below_set ?_ GE136.out) | exact HB.out)⟩⟩)); (· rw [if_neg c36] at H; exact absurd H (by simp))); (· rw [if_neg c35] at H; exact absurd H (by simp))); (· rw [if_neg c34] at H; exact absurd H (by simp))))
                 (· rw [if_neg c25] at H; have c25b0 : decide (x10_5 < (wrap64 ((x6_2.length : Int) - 1))) = false := decide_eq_false c25; clear c25; by_cases c38 : x4_6 = 0; (· rw [if_pos c38] at H; have c38b0 : (x4_6 == 0) = true := beq_iff_eq.mpr c38; have c38b1 : (x4_6 != 0) = false := bne_eq_false_iff_eq.mpr c38; clear c38; obtain rfl := Option.some.inj H; go_wp2; go_ret; (exact ⟨_, by first | rfl | (simp [errW_none, errW_some] <;> rfl) | (simp [*, errW_none, errW_some] <;> rfl), by (with_reducible repeat (first | apply Kd.R_alloc | apply Kd.R_drewN | apply Kd.R_drew)); exact HO_3.out, by repeat (first | (with_reducible first | exact HB.out | apply below_alloc | apply pw_below_drewN | apply below_drew1 | refine below_set ?_ GE136.out) | exact HB.out)⟩)); (· rw [if_neg c38] at H; have c38b0 : (x4_6 == 0) = false := beq_eq_false_iff_ne.mpr c38; have c38b1 : (x4_6 != 0) = true := bne_iff_ne.mpr c38; by_cases c39 : x3_5.length < 8796093022208; (· rw [if_pos c39] at H; have LMc39 := Aside0.mk c39; clear c39; obtain ⟨y160, hy160⟩ : ∃ y_ : List (S87), y_ = (x3_5 ++ [(⟨22, x5_6⟩ : S87)]) := ⟨_, rfl⟩; (replace H : (some y160) = some r := by first | (rw [hy160]; with_reducible exact H) | (have H2_ := (Option.bind_some _ _).symm.trans H; rw [hy160]; with_reducible exact H2_) | (have H2_ := (Option.bind_some _ _).symm.trans H; with_reducible exact H2_) | with_reducible exact H | (rw [hy160]; exact H) | exact H); have Ny160 := Aside0.mk hy160; clear hy160; obtain rfl := Option.some.inj H; go_wp2_with (first | ((with_reducible refine gate_builtin (b := .append) (xs := #[.tmp 83, .tmp 86]) rfl ?_); at_builtin; refine Kd.R_append k87 (w0 := w) w.heap.size rfl (.tmp 83) (.tmp 86) 24 87 (.agg #[(.int .i64 0), (.int .i64 0)]) 16 rfl Try.underlying24 info87 rfl (by decide) (by omega) u3 x3_5 (⟨22, x5_6⟩ : S87) [.int .i64 22, .int .i64 x5_6] (fun _ => True) (fun _ => False) rfl rfl ?aP (fun _ hk => hk.elim) ?aF ?aO ?aB ?aS ?aL ?_; (case aP => exact k87_mkM _ _ _ (⟨22, x5_6⟩ : S87)); (case aB => exact (by repeat (first | (with_reducible first | exact HB.out | apply below_alloc | apply pw_below_drewN | apply below_drew1 | refine below_set ?_ GE136.out) | exact HB.out))); (case aF => exact (fun _ _ => trivial)); (case aO => exact (by (with_reducible repeat (first | apply Kd.R_alloc | apply Kd.R_drewN | apply Kd.R_drew)); exact HO_3.out)); (case aS => exact (below_size (by repeat (first | (with_reducible first | exact HB.out | apply below_alloc | apply pw_below_drewN | apply below_drew1 | refine below_set ?_ GE136.out) | exact HB.out)))); (case aL => have := LMc39.out; omega); intro v161 w40 ho hb hg hat; rw [← Ny160.out] at ho; have n0_ := Aside0.mk (Kd.R_over' (by (with_reducible repeat (first | apply Kd.R_alloc | apply Kd.R_drewN | apply Kd.R_drew)); exact HO_6.out) (Kd.R_typed (by (with_reducible repeat (first | apply Kd.R_alloc | apply Kd.R_drewN | apply Kd.R_drew)); exact HO_3.out)) (by decide) hg); have n1_ := Aside0.mk (blk_grown (g := gb136) (o := .cells #[.bool false, .int .i64 a0_1] 23 (0, 0)) (by (with_reducible repeat (first | refine blk_drewN ?_ _ | refine blk_drew ?_ | refine blk_alloc ?_ _)); exact BK136.out) hg (Kd.R_ne HO_3.out BK136.out (by decide))); have n2_ := Aside0.mk (hb); have n3_ := Aside0.mk (ho); clear HO_6; clear BK136; clear HB; clear HO_3; have HO_6 := n0_; have BK136 := n1_; have HB := n2_; have HO162 := n3_; clear n0_ n1_ n2_ n3_; clear ho hb hg hat)); go_ret; (exact ⟨_, by first | rfl | (simp [errW_none, errW_some] <;> rfl) | (simp [*, errW_none, errW_some] <;> rfl), by (with_reducible repeat (first | apply Kd.R_alloc | apply Kd.R_drewN | apply Kd.R_drew)); exact HO162.out, by repeat (first | (with_reducible first | exact HB.out | apply below_alloc | apply pw_below_drewN | apply below_drew1 | refine below_set ?_ GE136.out) | exact HB.out)⟩)); (· rw [if_neg c39] at H; exact absurd H (by simp))))
end Go.Proofs.Ytlnhahnnjbfjdaa.U
namespace Go.Proofs.Ytlnhahnnjbfjdaa.U
open Go.RowKit Go.Proofs.YtlnhahnnjbfjdaaW.PrintWords Go.Proofs.YtlnhahnnjbfjdaaW.PrintLast Go.Proofs.YtlnhahnnjbfjdaaW.PrintMore
attribute [local go_sem] max2_int min2_int max_two min_two max_three min_three max_four min_four   -- for this text's walks alone
mutual
def incunableref03_Events.j0 : Nat → Int → Bool → Bool → Int → Option ((List (S87)) × Int)
  | 0, _, _, _, _ => none
  | k + 1, x0, x18, x164000, x164001 => if x18 = true then (some (([] : List (S87)), 2)) else ((incunableref03_events.f k x164000 x164001).bind fun t165 => (incunableref03_Events.l0 k x0 t165 0))
def incunableref03_Events.l0 : Nat → Int → List (S87) → Int → Option ((List (S87)) × Int)
  | 0, _, _, _ => none
  | k + 1, x0, x6, x7 => if x7 < (x6.length : Int) then (if 0 ≤ x7 then (incunableref03_Events.l0 k x0 (x6.set (x7 : Int).toNat (⟨wrap64 (((rd_T87 x6 x7).f0) + x0), (rd_T87 x6 x7).f1⟩ : S87)) (wrap64 (x7 + 1))) else (none)) else (some (x6, 0))
end
def incunableref03_Events.f (k : Nat) (a0 : Int) (a1_0 : Bool) (a1_1 : Int) : Option ((List (S87)) × Int) := (incunableref03_Valid.f a1_0 a1_1).bind fun t164 => (if t164 = true then (if a0 < 0 then (incunableref03_Events.j0 k a0 true a1_0 a1_1) else (incunableref03_Events.j0 k a0 (decide (a0 > 8144)) a1_0 a1_1)) else (incunableref03_Events.j0 k a0 true a1_0 a1_1))
theorem incunableref03_Events.mono_l : ∀ k, (∀ y0 y1 y2 y3, LeO (incunableref03_Events.j0 k y0 y1 y2 y3) (incunableref03_Events.j0 (k + 1) y0 y1 y2 y3)) ∧ (∀ y0 y1 y2, LeO (incunableref03_Events.l0 k y0 y1 y2) (incunableref03_Events.l0 (k + 1) y0 y1 y2))
  | 0 => ⟨fun _ _ _ _ r h => by simp [incunableref03_Events.j0] at h, fun _ _ _ r h => by simp [incunableref03_Events.l0] at h⟩
  | k + 1 => by
    obtain ⟨ih0, ih1⟩ := incunableref03_Events.mono_l k
    refine ⟨?_, ?_⟩
    · intro y0 y1 y2 y3
      unfold incunableref03_Events.j0
      repeat' first
      | (with_reducible exact ih0 _ _ _ _)
      | (with_reducible exact ih1 _ _ _)
      | (with_reducible exact incunableref03_events.mono _ _ _)
      | (with_reducible exact LeO.refl _)
      | (with_reducible exact LeO.none _)
      | (with_reducible refine LeO.ite ?_ ?_)
      | (with_reducible refine LeO.bind ?_ (fun _ => ?_))
      | exact ih0 _ _ _ _
      | exact ih1 _ _ _
      | exact incunableref03_events.mono _ _ _
      | exact LeO.none _
      | refine LeO.ite ?_ ?_
      | refine LeO.bind ?_ (fun _ => ?_)
    · intro y0 y1 y2
      unfold incunableref03_Events.l0
      repeat' first
      | (with_reducible exact ih0 _ _ _ _)
      | (with_reducible exact ih1 _ _ _)
      | (with_reducible exact incunableref03_events.mono _ _ _)
      | (with_reducible exact LeO.refl _)
      | (with_reducible exact LeO.none _)
      | (with_reducible refine LeO.ite ?_ ?_)
      | (with_reducible refine LeO.bind ?_ (fun _ => ?_))
      | exact ih0 _ _ _ _
      | exact ih1 _ _ _
      | exact incunableref03_events.mono _ _ _
      | exact LeO.none _
      | refine LeO.ite ?_ ?_
      | refine LeO.bind ?_ (fun _ => ?_)
theorem incunableref03_Events.mono : ∀ a0 a1 a2 k, LeO (incunableref03_Events.f k a0 a1 a2) (incunableref03_Events.f (k + 1) a0 a1 a2) := by
 intro a0 a1 a2 k; obtain ⟨ih0, ih1⟩ := incunableref03_Events.mono_l k; unfold incunableref03_Events.f
 repeat' first
  | (with_reducible exact ih0 _ _ _ _)
  | (with_reducible exact ih1 _ _ _)
  | (with_reducible exact incunableref03_events.mono _ _ _)
  | (with_reducible exact LeO.refl _)
  | (with_reducible exact LeO.none _)
  | (with_reducible refine LeO.ite ?_ ?_)
  | (with_reducible refine LeO.bind ?_ (fun _ => ?_))
  | exact ih0 _ _ _ _
  | exact ih1 _ _ _
  | exact incunableref03_events.mono _ _ _
  | exact LeO.none _
  | refine LeO.ite ?_ ?_
  | refine LeO.bind ?_ (fun _ => ?_)
end Go.Proofs.Ytlnhahnnjbfjdaa.U
namespace Go.Proofs.Ytlnhahnnjbfjdaa.U
open Go.RowKit Go.Proofs.YtlnhahnnjbfjdaaW.PrintWords Go.Proofs.YtlnhahnnjbfjdaaW.PrintLast Go.Proofs.YtlnhahnnjbfjdaaW.PrintMore
attribute [local go_sem] max2_int min2_int max_two min_two max_three min_three max_four min_four   -- for this text's walks alone
theorem eqA87 (d : Nat) (w : World) (x0 y0 : Int) (x1 y1 : Int) :
    (Op.equalIn (d + 2) 87 (.agg #[.int .i64 x0, .int .i64 x1]) (.agg #[.int .i64 y0, .int .i64 y1])).run Try.prog w = .ok (x0 == y0 && (x1 == y1)) w := by
  refine eqA_of Try.underlying87 (by kernel_rfl) ?_
  refine eqf_cons (by rfl) (by go_simp; rfl) (by go_simp; rfl) (by go_simp) ?_
  exact eqf_last (by rfl) (by go_simp; rfl) (by go_simp; rfl) (by go_simp)
end Go.Proofs.Ytlnhahnnjbfjdaa.U
namespace Go.Proofs.Ytlnhahnnjbfjdaa.U
open Go.RowKit Go.Proofs.YtlnhahnnjbfjdaaW.PrintWords Go.Proofs.YtlnhahnnjbfjdaaW.PrintLast Go.Proofs.YtlnhahnnjbfjdaaW.PrintMore
attribute [local go_sem] max2_int min2_int max_two min_two max_three min_three max_four min_four   -- for this text's walks alone
attribute [local go_sem high] eqA87
def incunablelaw03_SameEvents.l0 : Nat → List (S87) → List (S87) → Int → Option (Bool)
  | 0, _, _, _ => none
  | k + 1, x0, x1, x5 => if x5 < (x0.length : Int) then (if 0 ≤ x5 then (if x5 < (x1.length : Int) then (if (!(((rd_T87 x0 x5).f0) == ((rd_T87 x1 x5).f0)) || (!(((rd_T87 x0 x5).f1) == ((rd_T87 x1 x5).f1)))) = true then (some false) else (incunablelaw03_SameEvents.l0 k x0 x1 (wrap64 (x5 + 1)))) else (none)) else (none)) else (some true)
def incunablelaw03_SameEvents.f (k : Nat) (l0 : List (S87)) (l1 : List (S87)) : Option (Bool) := if (l0.length : Int) = (l1.length : Int) then (incunablelaw03_SameEvents.l0 k l0 l1 0) else (some false)
theorem incunablelaw03_SameEvents.mono_l : ∀ k, (∀ y0 y1 y2, LeO (incunablelaw03_SameEvents.l0 k y0 y1 y2) (incunablelaw03_SameEvents.l0 (k + 1) y0 y1 y2))
  | 0 => fun _ _ _ r h => by simp [incunablelaw03_SameEvents.l0] at h
  | k + 1 => by
    have ih0 := incunablelaw03_SameEvents.mono_l k
    · intro y0 y1 y2
      unfold incunablelaw03_SameEvents.l0
      repeat' first
      | (with_reducible exact ih0 _ _ _)
      | (with_reducible exact LeO.refl _)
      | (with_reducible exact LeO.none _)
      | (with_reducible refine LeO.ite ?_ ?_)
      | (with_reducible refine LeO.bind ?_ (fun _ => ?_))
      | exact ih0 _ _ _
      | exact LeO.none _
      | refine LeO.ite ?_ ?_
      | refine LeO.bind ?_ (fun _ => ?_)
theorem incunablelaw03_SameEvents.mono : ∀ a0 a1 k, LeO (incunablelaw03_SameEvents.f k a0 a1) (incunablelaw03_SameEvents.f (k + 1) a0 a1) := by
 intro a0 a1 k; have ih0 := incunablelaw03_SameEvents.mono_l k; unfold incunablelaw03_SameEvents.f
 repeat' first
  | (with_reducible exact ih0 _ _ _)
  | (with_reducible exact LeO.refl _)
  | (with_reducible exact LeO.none _)
  | (with_reducible refine LeO.ite ?_ ?_)
  | (with_reducible refine LeO.bind ?_ (fun _ => ?_))
  | exact ih0 _ _ _
  | exact LeO.none _
  | refine LeO.ite ?_ ?_
  | refine LeO.bind ?_ (fun _ => ?_)
set_option maxHeartbeats 8000000 in
set_option maxRecDepth 100000 in
theorem incunablelaw03_SameEvents.calls (k : Nat) (A0 : Option Addr) (c0 : Nat) (l0 : List (S87)) (A1 : Option Addr) (c1 : Nat) (l1 : List (S87)) (r : Bool) (w : World) (hr0 : Kd.C k87 w A0 l0.length l0) (hc0 : l0.length ≤ c0) (hr1 : Kd.C k87 w A1 l1.length l1) (hc1 : l1.length ≤ c1) (h : incunablelaw03_SameEvents.f k l0 l1 = some r) :
    Calls Try.prog 12 #[.slice A0 l0.length c0, .slice A1 l1.length c1] w fun e w' => e = .returned (.bool r) ∧ Drawn0 w w' := by
 have hu87 := Try.underlying87; have HR0 := Aside0.mk hr0; have HC0 := Aside0.mk hc0; clear hr0 hc0; have HR1 := Aside0.mk hr1; have HC1 := Aside0.mk hc1; clear hr1 hc1; have H : (if (l0.length : Int) = (l1.length : Int) then (incunablelaw03_SameEvents.l0 k l0 l1 0) else (some false)) = some r := h; clear h; by_cases c3 : (l0.length : Int) = (l1.length : Int)
 · rw [if_pos c3] at H
   have c3b0 : ((l0.length : Int) == (l1.length : Int)) = true := beq_iff_eq.mpr c3; have c3b1 : ((l0.length : Int) != (l1.length : Int)) = false := bne_eq_false_iff_eq.mpr c3; (have c3b2 : (l0.length == l1.length) = true := by first | simpa using c3 | (simp at c3 ⊢; omega)); clear c3; have H' := Aside0.mk H; clear H; go_enter Try.func12, Try.ntmps12; go_wp2; (repeat (go_quiet (fail); try go_wp2)); go_loopg [5] k (fun kq v5 w' => ∃ (x5_1 : Int), v5 = .int .i64 x5_1 ∧ Aside0 (incunablelaw03_SameEvents.l0 kq l0 l1 x5_1 = some r) ∧ Aside0 (kq ≤ k) ∧ Drawn0 w w'); (case atStart => exact ⟨(0), (by first | rfl | (simp; done) | (simp [*]; done)), H', ⟨Nat.le_refl _⟩, by repeat (first | exact Drawn0.refl _ | apply Drawn0.step)⟩)
   case round =>
    clear H'; (try clear c1); (try clear p2); (try clear c3); (try clear c3b0); (try clear c3b1); (try clear c3b2); obtain ⟨x5_1, rfl, HA, HK1, ⟨m1, rfl⟩⟩ := hrel
    cases gk with
    | zero => exact absurd HA.out (by simp [incunablelaw03_SameEvents.l0])
    | succ k1 =>
     have H := HA.out; clear HA; simp only [incunablelaw03_SameEvents.l0] at H; by_cases c4 : x5_1 < (l0.length : Int)
     (· rw [if_pos c4] at H; have c4b0 : decide (x5_1 < (l0.length : Int)) = true := decide_eq_true c4; clear c4; by_cases c5 : 0 ≤ x5_1; (· rw [if_pos c5] at H; have c5b0 : decide (0 ≤ x5_1) = true := decide_eq_true c5; clear c5; by_cases c6 : x5_1 < (l1.length : Int); (· rw [if_pos c6] at H; have c6b0 : decide (x5_1 < (l1.length : Int)) = true := decide_eq_true c6; clear c6; by_cases c7 : (!(((rd_T87 l0 x5_1).f0) == ((rd_T87 l1 x5_1).f0)) || (!(((rd_T87 l0 x5_1).f1) == ((rd_T87 l1 x5_1).f1)))) = true; (· rw [if_pos c7] at H; have c7b0 : (!(((rd_T87 l0 x5_1).f0) == ((rd_T87 l1 x5_1).f0)) || (!(((rd_T87 l0 x5_1).f1) == ((rd_T87 l1 x5_1).f1)))) = true := c7; clear c7; obtain rfl := Option.some.inj H; have p170 : 0 ≤ (x5_1 : Int) := of_decide_eq_true (by first | (with_reducible assumption) | assumption); have q170 : x5_1 < (l0.length : Int) := of_decide_eq_true (by first | (with_reducible assumption) | assumption); obtain ⟨ad170, e170, hx170_0, hx170_1⟩ := at_T87 HR0.out x5_1 p170 q170; cases e170; replace p170 := eq_true p170; replace q170 := eq_true q170; have p171 : 0 ≤ (x5_1 : Int) := of_decide_eq_true (by first | (with_reducible assumption) | assumption); have q171 : x5_1 < (l1.length : Int) := of_decide_eq_true (by first | (with_reducible assumption) | assumption); obtain ⟨ad171, e171, hx171_0, hx171_1⟩ := at_T87 HR1.out x5_1 p171 q171; cases e171; replace p171 := eq_true p171; replace q171 := eq_true q171; go_wp2; (repeat (go_quiet (fail); try go_wp2)); go_ret; exact ⟨by first | rfl | (simp; done) | (simp [*]; done), by repeat (first | exact Drawn0.refl _ | apply Drawn0.step)⟩); (· rw [if_neg c7] at H; (have c7b0 : (!(((rd_T87 l0 x5_1).f0) == ((rd_T87 l1 x5_1).f0)) || (!(((rd_T87 l0 x5_1).f1) == ((rd_T87 l1 x5_1).f1)))) = false := by simpa using c7); clear c7; have H' := Aside0.mk H; clear H; have p170 : 0 ≤ (x5_1 : Int) := of_decide_eq_true (by first | (with_reducible assumption) | assumption); have q170 : x5_1 < (l0.length : Int) := of_decide_eq_true (by first | (with_reducible assumption) | assumption); obtain ⟨ad170, e170, hx170_0, hx170_1⟩ := at_T87 HR0.out x5_1 p170 q170; cases e170; replace p170 := eq_true p170; replace q170 := eq_true q170; have p171 : 0 ≤ (x5_1 : Int) := of_decide_eq_true (by first | (with_reducible assumption) | assumption); have q171 : x5_1 < (l1.length : Int) := of_decide_eq_true (by first | (with_reducible assumption) | assumption); obtain ⟨ad171, e171, hx171_0, hx171_1⟩ := at_T87 HR1.out x5_1 p171 q171; cases e171; replace p171 := eq_true p171; replace q171 := eq_true q171; go_wp2; (repeat (go_quiet (fail); try go_wp2)); go_roundg k1; (case measure => have := HK1.out; omega); (case rel => exact ⟨(wrap64 (x5_1 + 1)), (by first | rfl | (simp; done) | (simp [*]; done)), H', ⟨by have := HK1.out; omega⟩, by repeat (first | exact Drawn0.refl _ | apply Drawn0.step)⟩))); (· rw [if_neg c6] at H; exact absurd H (by simp))); (· rw [if_neg c5] at H; exact absurd H (by simp)))
     (· rw [if_neg c4] at H; have c4b0 : decide (x5_1 < (l0.length : Int)) = false := decide_eq_false c4; clear c4; obtain rfl := Option.some.inj H; go_wp2; (repeat (go_quiet (fail); try go_wp2)); go_ret; exact ⟨by first | rfl | (simp; done) | (simp [*]; done), by repeat (first | exact Drawn0.refl _ | apply Drawn0.step)⟩)
 (· rw [if_neg c3] at H; have c3b0 : ((l0.length : Int) == (l1.length : Int)) = false := beq_eq_false_iff_ne.mpr c3; have c3b1 : ((l0.length : Int) != (l1.length : Int)) = true := bne_iff_ne.mpr c3; (have c3b2 : (l0.length == l1.length) = false := by first | simpa using c3 | (simp at c3 ⊢; omega)); obtain rfl := Option.some.inj H; go_enter Try.func12, Try.ntmps12; go_wp2; (repeat (go_quiet (fail); try go_wp2)); go_ret; exact ⟨by first | rfl | (simp; done) | (simp [*]; done), by repeat (first | exact Drawn0.refl _ | apply Drawn0.step)⟩)
end Go.Proofs.Ytlnhahnnjbfjdaa.U
namespace Go.Proofs.Ytlnhahnnjbfjdaa.Num
open Go Go.RowKit Go.Proofs.YtlnhahnnjbfjdaaW.PrintWords Go.Proofs.YtlnhahnnjbfjdaaW.PrintLast Go.Proofs.YtlnhahnnjbfjdaaW.PrintMore Go.Proofs.Ytlnhahnnjbfjdaa.Aid Go.Proofs.Ytlnhahnnjbfjdaa.HandAid Go.Proofs.Ytlnhahnnjbfjdaa.U
attribute [local go_sem low] max2_int
attribute [local go_sem] min2_int max_two min_two
/-- The size of a number, as the walk has it; and one more. -/
def numA (n : Int) : Int := if n < -n then -n else n
def numV (n : Int) : Int := numA n + 1
theorem numA_eq (n : Int) : numA n = if n < 0 then -n else n := by
  unfold numA
  split <;> split <;> omega
theorem numA_range {n : Int} (h : -1048576 ≤ n) (h' : n ≤ 1048576) : 0 ≤ numA n ∧ numA n ≤ 1048576 := by rw [numA_eq]; split <;> omega
theorem max_numA (n : Int) : Builtin.max2 (.int .i64 n) (.int .i64 (-n)) = pure (.int .i64 (numA n)) := by
  rw [max2_int]
  rfl
attribute [local go_sem high] max_numA
/-- The length of a number's digits, less one. -/
def numC (n : Int) : Nat := Lib.bitLen (numV n).toNat - 1
def evHead (base : Int) (j : Nat) : List S87 := ⟨base, 0⟩ :: (List.range j).map fun (i : Nat) => ⟨base + 1 + i, 1⟩
def evMid (base : Int) (c : Nat) : List S87 := if c < 20 then [⟨base + 1 + c, 0⟩] else []
def evCtx (c j : Nat) : Int := if j = 0 then 23 + c else if j < 4 then 43 + j else 47
def evDig (base n : Int) (c j : Nat) : List S87 := (List.range j).map fun (i : Nat) => ⟨base + evCtx c i, numV n / 2 ^ (c - 1 - i) % 2⟩
def evSign (base n : Int) : List S87 := if n = 0 then [] else [⟨base + 22, if n < 0 then 1 else 0⟩]
/-- The events of a number that is not none. -/
def evList (base n : Int) : List S87 := evHead base (numC n) ++ evMid base (numC n) ++ evDig base n (numC n) (numC n) ++ evSign base n
theorem numV_range {n : Int} (h : -1048576 ≤ n) (h' : n ≤ 1048576) : 1 ≤ numV n ∧ numV n ≤ 1048577 := by have := numA_range h h'; unfold numV; omega
theorem bitLen_spec (x : Nat) (h : x < 18446744073709551616) (h0 : x ≠ 0) : 1 ≤ Lib.bitLen x ∧ 2 ^ (Lib.bitLen x - 1) ≤ x ∧ x < 2 ^ Lib.bitLen x := Lib.bitLenAux_bounds 64 x h h0
theorem pow_cast {a b : Nat} (h : 2 ^ a ≤ b) : (2 : Int) ^ a ≤ (b : Int) := by exact_mod_cast h
theorem cast_pow {a b : Nat} (h : b < 2 ^ a) : (b : Int) < (2 : Int) ^ a := by exact_mod_cast h
theorem numC_spec {n : Int} (h : -1048576 ≤ n) (h' : n ≤ 1048576) : (2 : Int) ^ numC n ≤ numV n ∧ numV n < 2 ^ (numC n + 1) ∧ numC n ≤ 20 ∧ Lib.bitLen (numV n).toNat = numC n + 1 := by
  have hr := numV_range h h'
  obtain ⟨h1, h2, h3⟩ := bitLen_spec (numV n).toNat (by omega) (by omega)
  have hl : Lib.bitLen (numV n).toNat ≤ 21 := by
    rcases Nat.lt_or_ge 21 (Lib.bitLen (numV n).toNat) with c | c
    · exact absurd (Nat.le_trans (Nat.pow_le_pow_right (by decide) (show 21 ≤ Lib.bitLen (numV n).toNat - 1 by omega)) h2) (by omega)
    · exact c
  have e : Lib.bitLen (numV n).toNat = numC n + 1 := by unfold numC; omega
  have e2 : ((numV n).toNat : Int) = numV n := Int.toNat_of_nonneg (by omega)
  refine ⟨?_, ?_, by omega, e⟩
  · rw [← e2]; exact pow_cast (by rw [e] at h2; exact h2)
  · rw [← e2]; exact cast_pow (by rw [e] at h3; exact h3)
theorem events_none (base n : Int) (w : World) : Calls Try.prog 45 #[.int .i64 base, .agg #[.bool true, .int .i64 n]] w fun e w' => ∃ v, e = .returned v ∧ Kd.R k87 87 w' w.heap.size (fun _ => True) v [(⟨base, 1⟩ : S87)] ∧ Below w.heap.size w w' := by
  have HB := Aside0.mk (Below.refl w.heap.size w)
  have hu := Try.underlying23
  have hu2 := Try.underlying87
  go_enter Try.func45, Try.ntmps45
  go_wp2_with (first | ((with_reducible refine gate_dst (N := 3) rfl ?_); refine box_event ?hg (N := 3) ?hd (cs := #[.bool true, .int .i64 n]) (t := 23) ?hr ?_; (case hd => rfl); (case hg => rfl); (case hr => first | (go_simp; done) | (go_simp; rfl)); intro gb hg wb hbox hb; have n0_ := Aside0.mk (below_step (by repeat (first | (with_reducible first | exact HB.out | apply below_alloc | apply pw_below_drewN | apply below_drew1 | refine below_set ?_ GE.out) | exact HB.out)) hb); have n1_ := Aside0.mk (hbox); have n2_ := Aside0.mk ((by rw [hg]; exact (below_size (by repeat (first | (with_reducible first | exact HB.out | apply below_alloc | apply pw_below_drewN | apply below_drew1 | refine below_set ?_ GE.out) | exact HB.out))) : w.heap.size ≤ gb)); clear HB; have HB := n0_; have BK := n1_; have GE := n2_; clear n0_ n1_ n2_; clear hb hbox hg; have hcz0 : wb.cell? ⟨gb, 0, none⟩ = some (.bool true) := (blk_cell BK.out 0).trans rfl; have hcz1 : wb.cell? ⟨gb, 1, none⟩ = some (.int .i64 n) := (blk_cell BK.out 1).trans rfl; have hfz0 := blk_frozen BK.out 0; have hfz1 := blk_frozen BK.out 1) | ((with_reducible refine gate_dst (N := 17) rfl ?_); refine Kd.R_lit k87 _ 87 ?hg (N := 17) ?hd (xs := ([(⟨base, 1⟩ : S87)] : List (S87))) (inner := [.int .i64 (base), .int .i64 (1)]) (ok := fun _ => True) (okp := fun _ => True) ?hr ?hp (fun _ hk => hk) trivial (Below.refl _ _) (Nat.le_refl _) (by simp) ?_; (case hd => rfl); (case hg => rfl); (case hr => first | (go_simp; done) | (go_simp; rfl)); (case hp => exact (Reps.c2 (show Kd.M k87 _ _ _ (⟨base, 1⟩ : S87) [.int .i64 (base), .int .i64 (1)] from (k87_mkM _ _ _ (⟨base, 1⟩ : S87) )) (Reps.none _ _))); intro v wl ho hb hg_ hnew_; clear hg_ hnew_; have n0_ := Aside0.mk (Kd.R_lower ho (below_size (by repeat (first | (with_reducible first | exact HB.out | apply below_alloc | apply pw_below_drewN | apply below_drew1 | refine below_set ?_ GE.out) | exact HB.out)))); have n1_ := Aside0.mk (blk_below (g := gb) (o := .cells #[.bool true, .int .i64 n] 23 (0, 0)) (by (with_reducible repeat (first | refine blk_drewN ?_ _ | refine blk_drew ?_ | refine blk_alloc ?_ _)); exact BK.out) hb); have n2_ := Aside0.mk (below_step (by repeat (first | (with_reducible first | exact HB.out | apply below_alloc | apply pw_below_drewN | apply below_drew1 | refine below_set ?_ GE.out) | exact HB.out)) hb); clear BK; clear HB; have HO := n0_; have BK := n1_; have HB := n2_; clear n0_ n1_ n2_; clear hb ho; have hczl0 : wl.cell? ⟨gb, 0, none⟩ = some (.bool true) := (blk_cell BK.out 0).trans rfl; have hczl1 : wl.cell? ⟨gb, 1, none⟩ = some (.int .i64 n) := (blk_cell BK.out 1).trans rfl; have hfzl0 := blk_frozen BK.out 0; have hfzl1 := blk_frozen BK.out 1))
  go_ret
  exact ⟨_, rfl, HO.out, by repeat (first | (with_reducible first | exact HB.out | apply below_alloc | apply pw_below_drewN | apply below_drew1) | exact HB.out)⟩
theorem len_calls (n y : Int) (w : World) (h : -1048576 ≤ n) (h' : n ≤ 1048576) (hy : y = numV n) : Calls Try.prog 47 #[.int .u64 y] w fun e w' => e = .returned (.int .i64 ((numC n : Int) + 1)) ∧ w' = w := by
  subst hy
  have hr := numV_range h h'
  refine (Try.bits_Len (numV n) w (by omega) (by omega)).mono ?_
  rintro e w' ⟨rfl, rfl⟩
  rw [(numC_spec h h').2.2.2]
  exact ⟨by simp, rfl⟩
theorem evHead_len (base : Int) (j : Nat) : (evHead base j).length = j + 1 := by simp [evHead]
theorem evMid_len (base : Int) (c : Nat) : (evMid base c).length ≤ 1 := by unfold evMid; split <;> simp
theorem evDig_len (base n : Int) (c j : Nat) : (evDig base n c j).length = j := by simp [evDig]
theorem evHead_step (base : Int) (j : Nat) : evHead base (j + 1) = evHead base j ++ [⟨base + 1 + j, 1⟩] := by simp [evHead, List.range_succ]
theorem evDig_step (base n : Int) (c j : Nat) : evDig base n c (j + 1) = evDig base n c j ++ [⟨base + evCtx c j, numV n / 2 ^ (c - 1 - j) % 2⟩] := by simp [evDig, List.range_succ]
theorem wraps_i64' (x : Int) (h : 0 ≤ x) (h' : x < 2 ^ 62) : IntKind.i64.wrap x = x := by rw [IntKind.wrap_i64]; omega
theorem i64_and1 {x : Int} (h : 0 ≤ x) (h' : x < 4611686018427387904) : Go.bits .and .i64 x 1 = x % 2 := bits_mask .i64 62 (by decide) wraps_i64' 1 (by decide) x h h'
theorem digit_eq {n : Int} (h : -1048576 ≤ n) (h' : n ≤ 1048576) (k : Nat) : Go.bits .and .i64 ((numA n + 1) / 2 ^ k) 1 = numV n / 2 ^ k % 2 := by
  have hA := numA_range h h'
  have h1 : (0 : Int) ≤ (numA n + 1) / 2 ^ k := Int.ediv_nonneg (by omega) (Int.pow_nonneg (by decide))
  have h2 : (numA n + 1) / 2 ^ k ≤ numA n + 1 := Int.ediv_le_self _ (by omega)
  rw [i64_and1 h1 (by omega)]
  rfl
def evTail (j : Nat) : Int := if j = 0 then 44 else if j < 4 then 43 + j else 47
theorem evTail_step (j : Nat) (h : j ≠ 0) : evTail (j + 1) = mn (wrap64 (evTail j + 1)) 47 := by
  have : wrap64 (evTail j + 1) = evTail j + 1 := by refine wrap_id ?_ ?_ <;> (unfold evTail; split <;> (try split) <;> omega)
  rw [this]
  unfold evTail mn
  rw [if_neg (by omega), if_neg h]
  split <;> split <;> (try split) <;> omega
theorem evTail_range (j : Nat) : 44 ≤ evTail j ∧ evTail j ≤ 47 := by unfold evTail; split <;> (try split) <;> omega
set_option maxHeartbeats 40000000 in
set_option maxRecDepth 100000 in
theorem events_calls (base n : Int) (w : World) (hb0 : 0 ≤ base) (hb1 : base ≤ 1000000) (h : -1048576 ≤ n) (h' : n ≤ 1048576) : Calls Try.prog 45 #[.int .i64 base, .agg #[.bool false, .int .i64 n]] w fun e w' => ∃ v, e = .returned v ∧ Kd.R k87 87 w' w.heap.size (fun _ => True) v (evList base n) ∧ Below w.heap.size w w' := by
  have HB := Aside0.mk (Below.refl w.heap.size w)
  have hu := Try.underlying23
  have hu2 := Try.underlying87
  have hC := numC_spec h h'
  have hA := numA_range h h'
  have hc := hC.2.2.1
  go_enter Try.func45, Try.ntmps45
  go_wp2_with (first | ((with_reducible refine gate_dst (N := 3) rfl ?_); refine box_event ?hg (N := 3) ?hd (cs := #[.bool false, .int .i64 n]) (t := 23) ?hr ?_; (case hd => rfl); (case hg => rfl); (case hr => first | (go_simp; done) | (go_simp; rfl)); intro gb hg wb hbox hb; have n0_ := Aside0.mk (below_step (by repeat (first | (with_reducible first | exact HB.out | apply below_alloc | apply pw_below_drewN | apply below_drew1 | refine below_set ?_ GE.out) | exact HB.out)) hb); have n1_ := Aside0.mk (hbox); have n2_ := Aside0.mk ((by rw [hg]; exact (below_size (by repeat (first | (with_reducible first | exact HB.out | apply below_alloc | apply pw_below_drewN | apply below_drew1 | refine below_set ?_ GE.out) | exact HB.out))) : w.heap.size ≤ gb)); clear HB; have HB := n0_; have BK := n1_; have GE := n2_; clear n0_ n1_ n2_; clear hb hbox hg; have hcz0 : wb.cell? ⟨gb, 0, none⟩ = some (.bool false) := (blk_cell BK.out 0).trans rfl; have hcz1 : wb.cell? ⟨gb, 1, none⟩ = some (.int .i64 n) := (blk_cell BK.out 1).trans rfl; have hfz0 := blk_frozen BK.out 0; have hfz1 := blk_frozen BK.out 1) | ((with_reducible refine gate_dst (N := 20) rfl ?_); refine Kd.R_lit k87 _ 87 ?hg (N := 20) ?hd (xs := ([(⟨base, 0⟩ : S87)] : List (S87))) (inner := [.int .i64 (base), .int .i64 (0)]) (ok := fun _ => True) (okp := fun _ => True) ?hr ?hp (fun _ hk => hk) trivial (Below.refl _ _) (Nat.le_refl _) (by simp) ?_; (case hd => rfl); (case hg => rfl); (case hr => first | (go_simp; done) | (go_simp; rfl)); (case hp => exact (Reps.c2 (show Kd.M k87 _ _ _ (⟨base, 0⟩ : S87) [.int .i64 (base), .int .i64 (0)] from (k87_mkM _ _ _ (⟨base, 0⟩ : S87) )) (Reps.none _ _))); intro v wl ho hb hg_ hnew_; clear hg_ hnew_; have n0_ := Aside0.mk (Kd.R_lower ho (below_size (by repeat (first | (with_reducible first | exact HB.out | apply below_alloc | apply pw_below_drewN | apply below_drew1 | refine below_set ?_ GE.out) | exact HB.out)))); have n1_ := Aside0.mk (blk_below (g := gb) (o := .cells #[.bool false, .int .i64 n] 23 (0, 0)) (by (with_reducible repeat (first | refine blk_drewN ?_ _ | refine blk_drew ?_ | refine blk_alloc ?_ _)); exact BK.out) hb); have n2_ := Aside0.mk (below_step (by repeat (first | (with_reducible first | exact HB.out | apply below_alloc | apply pw_below_drewN | apply below_drew1 | refine below_set ?_ GE.out) | exact HB.out)) hb); clear BK; clear HB; have HO := n0_; have BK := n1_; have HB := n2_; clear n0_ n1_ n2_; clear hb ho; have hczl0 : wl.cell? ⟨gb, 0, none⟩ = some (.bool false) := (blk_cell BK.out 0).trans rfl; have hczl1 : wl.cell? ⟨gb, 1, none⟩ = some (.int .i64 n) := (blk_cell BK.out 1).trans rfl; have hfzl0 := blk_frozen BK.out 0; have hfzl1 := blk_frozen BK.out 1) | (go_at_call 47; (refine (len_calls n _ _ h h' ?he).mono ?_; (case he => rfl); rintro e w' ⟨rfl, rfl⟩)))
  go_loopw [5, 33] (fun l i wr => ∃ j : Nat, j ≤ numC n ∧ i = .int .i64 j ∧ Aside0 (Kd.R k87 87 wr w.heap.size (fun _ => True) l (evHead base j)) ∧ Aside0 (wr.heap[gb]? = some (.cells #[.bool false, .int .i64 n] 23 (0, 0))) ∧ Aside0 (Below w.heap.size w wr)) (fun _ i _ => numC n - (intOf i).toNat)
  case atStart => exact ⟨0, Nat.zero_le _, rfl, HO, BK, HB⟩
  clear hcz0 hcz1 hfz0 hfz1 hczl0 hczl1 hfzl0 hfzl1 HO BK HB
  case round =>
    obtain ⟨j, hj, rfl, HO, BK, HB⟩ := hrel
    by_cases hlt : j < numC n
    · have hL : (evHead base j).length ≤ 30 := by rw [evHead_len]; omega
      have HL := Aside0.mk hL
      clear hL
      go_wp2_with (first | ((with_reducible refine gate_builtin (b := .append) (xs := #[.tmp 36, .tmp 42]) rfl ?_); at_builtin; (refine Kd.R_append k87 (w0 := w) w.heap.size rfl (.tmp 36) (.tmp 42) 24 87 (.agg #[(.int .i64 0), (.int .i64 0)]) 16 rfl Try.underlying24 info87 rfl (by decide) (by omega) u5 (evHead base j) (⟨base + 1 + j, 1⟩ : S87) [.int .i64 (base + 1 + j), .int .i64 (1)] (fun _ => True) (fun _ => False) rfl rfl ?aP (fun _ hk => hk.elim) ?aF ?aO ?aB ?aS ?aL ?_; (case aP => exact k87_mkM _ _ _ (⟨base + 1 + j, 1⟩ : S87)); (case aB => exact (by repeat (first | (with_reducible first | exact HB.out | apply below_alloc | apply pw_below_drewN | apply below_drew1 | refine below_set ?_ GE.out) | exact HB.out))); (case aF => exact (fun _ _ => trivial)); (case aO => exact (by (with_reducible repeat (first | apply Kd.R_alloc | apply Kd.R_drewN | apply Kd.R_drew)); exact HO.out)); (case aS => exact (below_size (by repeat (first | (with_reducible first | exact HB.out | apply below_alloc | apply pw_below_drewN | apply below_drew1 | refine below_set ?_ GE.out) | exact HB.out)))); (case aL => have := HL.out; omega); intro v2 wa ho hb hg hat; have n1_ := Aside0.mk (blk_grown (g := gb) (o := .cells #[.bool false, .int .i64 n] 23 (0, 0)) (by (with_reducible repeat (first | refine blk_drewN ?_ _ | refine blk_drew ?_ | refine blk_alloc ?_ _)); exact BK.out) hg (Kd.R_ne HO.out BK.out (by decide))); have n2_ := Aside0.mk (hb); have n3_ := Aside0.mk (ho); clear BK; clear HB; clear HO; have BK := n1_; have HB := n2_; have HO := n3_; clear n1_ n2_ n3_; clear ho hb hg hat)))
      go_roundw
      case rel => exact ⟨j + 1, by omega, by go_num, ⟨by rw [evHead_step]; exact HO.out⟩, BK, HB⟩
      case measure => simp [intOf]; omega
    · obtain rfl : j = numC n := by omega
      clear hlt hj
      by_cases h20 : numC n < 20
      · have HL := Aside0.mk (show (evHead base (numC n)).length ≤ 30 by rw [evHead_len]; omega)
        have hm : evMid base (numC n) = [⟨base + 1 + (numC n : Int), 0⟩] := if_pos h20
        go_wp2_with (first | ((with_reducible refine gate_builtin (b := .append) (xs := #[.tmp 47, .tmp 53]) rfl ?_); at_builtin; (refine Kd.R_append k87 (w0 := w) w.heap.size rfl (.tmp 47) (.tmp 53) 24 87 (.agg #[(.int .i64 0), (.int .i64 0)]) 16 rfl Try.underlying24 info87 rfl (by decide) (by omega) u5 (evHead base (numC n)) (⟨base + 1 + (numC n : Int), 0⟩ : S87) [.int .i64 (base + 1 + (numC n : Int)), .int .i64 (0)] (fun _ => True) (fun _ => False) rfl rfl ?aP (fun _ hk => hk.elim) ?aF ?aO ?aB ?aS ?aL ?_; (case aP => exact k87_mkM _ _ _ (⟨base + 1 + (numC n : Int), 0⟩ : S87)); (case aB => exact (by repeat (first | (with_reducible first | exact HB.out | apply below_alloc | apply pw_below_drewN | apply below_drew1 | refine below_set ?_ GE.out) | exact HB.out))); (case aF => exact (fun _ _ => trivial)); (case aO => exact (by (with_reducible repeat (first | apply Kd.R_alloc | apply Kd.R_drewN | apply Kd.R_drew)); exact HO.out)); (case aS => exact (below_size (by repeat (first | (with_reducible first | exact HB.out | apply below_alloc | apply pw_below_drewN | apply below_drew1 | refine below_set ?_ GE.out) | exact HB.out)))); (case aL => have := HL.out; omega); intro v2 wa ho hb hg hat; have n1_ := Aside0.mk (blk_grown (g := gb) (o := .cells #[.bool false, .int .i64 n] 23 (0, 0)) (by (with_reducible repeat (first | refine blk_drewN ?_ _ | refine blk_drew ?_ | refine blk_alloc ?_ _)); exact BK.out) hg (Kd.R_ne HO.out BK.out (by decide))); have n2_ := Aside0.mk (hb); have n3_ := Aside0.mk (ho); clear BK; clear HB; clear HO; have BK := n1_; have HB := n2_; have HO := n3_; clear n1_ n2_ n3_; clear ho hb hg hat)))
        go_loopw [5, 10] (fun l i wz => ∃ j : Nat, j ≤ numC n ∧ i = .int .i64 ((numC n : Int) - 1 - j) ∧ Aside0 (Kd.R k87 87 wz w.heap.size (fun _ => True) l (evHead base (numC n) ++ evMid base (numC n) ++ evDig base n (numC n) j)) ∧ Aside0 (IsS117 w wz wa.heap.size (evTail j)) ∧ Aside0 (wz.heap[gb]? = some (.cells #[.bool false, .int .i64 n] 23 (0, 0))) ∧ Aside0 (Below w.heap.size w wz)) (fun _ i _ => (intOf i + 1).toNat)
        case atStart =>
          refine ⟨0, Nat.zero_le _, by go_num, ⟨?_⟩, ⟨?_⟩, ⟨?_⟩, ⟨?_⟩⟩
          · rw [hm, show evDig base n (numC n) 0 = [] from rfl, List.append_nil]
            exact Kd.R_alloc (by first | exact HO.out | (rw [List.append_nil]; exact HO.out)) _
          · exact IsS117.new w wa 44 HB.out
          · exact blk_alloc BK.out _
          · exact below_alloc HB.out _
        case round =>
          clear HO BK HB
          obtain ⟨j, hj, rfl, HO, HT, BK, HB⟩ := hrel
          by_cases hlt : j < numC n
          · have HL := Aside0.mk (show (evHead base (numC n) ++ evMid base (numC n) ++ evDig base n (numC n) j).length ≤ 60 by have := evMid_len base (numC n); simp only [List.length_append, evHead_len, evDig_len]; omega)
            by_cases hj0 : j = 0
            · go_wp2_with (first | ((with_reducible refine gate_builtin (b := .append) (xs := #[.tmp 69, .tmp 78]) rfl ?_); at_builtin; (refine Kd.R_append k87 (w0 := w) w.heap.size rfl (.tmp 69) (.tmp 78) 24 87 (.agg #[(.int .i64 0), (.int .i64 0)]) 16 rfl Try.underlying24 info87 rfl (by decide) (by omega) u5 (evHead base (numC n) ++ evMid base (numC n) ++ evDig base n (numC n) j) (⟨base + (23 + (numC n : Int)), Go.bits .and .i64 ((numA n + 1) / 2 ^ (numC n - 1)) 1⟩ : S87) [.int .i64 (base + (23 + (numC n : Int))), .int .i64 (Go.bits .and .i64 ((numA n + 1) / 2 ^ (numC n - 1)) 1)] (fun _ => True) (fun _ => False) rfl rfl ?aP (fun _ hk => hk.elim) ?aF ?aO ?aB ?aS ?aL ?_; (case aP => exact k87_mkM _ _ _ (⟨base + (23 + (numC n : Int)), Go.bits .and .i64 ((numA n + 1) / 2 ^ (numC n - 1)) 1⟩ : S87)); (case aB => exact (by repeat (first | (with_reducible first | exact HB.out | apply below_alloc | apply pw_below_drewN | apply below_drew1 | refine below_set ?_ GE.out) | exact HB.out))); (case aF => exact (fun _ _ => trivial)); (case aO => exact (by (with_reducible repeat (first | apply Kd.R_alloc | apply Kd.R_drewN | apply Kd.R_drew)); exact HO.out)); (case aS => exact (below_size (by repeat (first | (with_reducible first | exact HB.out | apply below_alloc | apply pw_below_drewN | apply below_drew1 | refine below_set ?_ GE.out) | exact HB.out)))); (case aL => have := HL.out; omega); intro v2 wa ho hb hg hat; have n1_ := Aside0.mk (blk_grown (g := gb) (o := .cells #[.bool false, .int .i64 n] 23 (0, 0)) (by (with_reducible repeat (first | refine blk_drewN ?_ _ | refine blk_drew ?_ | refine blk_alloc ?_ _)); exact BK.out) hg (Kd.R_ne HO.out BK.out (by decide))); have n2_ := Aside0.mk (hb); have n3_ := Aside0.mk (ho); have n5_ := Aside0.mk (IsS117.grown (by repeat (first | (with_reducible exact HT.out) | apply IsS117.alloc | apply IsS117.drewN | apply IsS117.drew)) hg (IsS117.own_ne HT.out HO.out (by decide))); clear HT; have HT := n5_; clear n5_; clear BK; clear HB; clear HO; have BK := n1_; have HB := n2_; have HO := n3_; clear n1_ n2_ n3_; clear ho hb hg hat)))
              go_roundw
              case rel =>
                subst hj0
                refine ⟨0 + 1, by omega, by go_num, ⟨?_⟩, ⟨HT.out⟩, BK, HB⟩
                rw [evDig_step, ← List.append_assoc, ← digit_eq h h']
                exact HO.out
              case measure => simp [intOf]; omega
            · have ht := evTail_range j
              go_wp2_with (first | (go_at_call 69; (refine (number_tail_take.calls _ (evTail j) _ _ w _ HT.out HB.out rfl).mono ?_); rintro e wt ⟨rfl, hT, hB, hK⟩; have n1_ := Aside0.mk (Kd.R_mono (Kd.R_keep (IsS117.apart HT.out HO.out (by decide)) hK (fun _ hk => hk.2)) (fun _ _ => trivial)); have n2_ := Aside0.mk (hK.blk BK.out (IsS117.ne_blk HT.out BK.out (by decide)).symm (by simp)); have n3_ := Aside0.mk hT; have n4_ := Aside0.mk hB; clear HO BK HT HB hT hB hK; have HO := n1_; have BK := n2_; have HT := n3_; have HB := n4_; clear n1_ n2_ n3_ n4_) | ((with_reducible refine gate_builtin (b := .append) (xs := #[.tmp 69, .tmp 78]) rfl ?_); at_builtin; (refine Kd.R_append k87 (w0 := w) w.heap.size rfl (.tmp 69) (.tmp 78) 24 87 (.agg #[(.int .i64 0), (.int .i64 0)]) 16 rfl Try.underlying24 info87 rfl (by decide) (by omega) u5 (evHead base (numC n) ++ evMid base (numC n) ++ evDig base n (numC n) j) (⟨base + evTail j, Go.bits .and .i64 ((numA n + 1) / 2 ^ (numC n - 1 - j)) 1⟩ : S87) [.int .i64 (base + evTail j), .int .i64 (Go.bits .and .i64 ((numA n + 1) / 2 ^ (numC n - 1 - j)) 1)] (fun _ => True) (fun _ => False) rfl rfl ?aP (fun _ hk => hk.elim) ?aF ?aO ?aB ?aS ?aL ?_; (case aP => exact k87_mkM _ _ _ (⟨base + evTail j, Go.bits .and .i64 ((numA n + 1) / 2 ^ (numC n - 1 - j)) 1⟩ : S87)); (case aB => exact (by repeat (first | (with_reducible first | exact HB.out | apply below_alloc | apply pw_below_drewN | apply below_drew1 | refine below_set ?_ GE.out) | exact HB.out))); (case aF => exact (fun _ _ => trivial)); (case aO => exact (by (with_reducible repeat (first | apply Kd.R_alloc | apply Kd.R_drewN | apply Kd.R_drew)); exact HO.out)); (case aS => exact (below_size (by repeat (first | (with_reducible first | exact HB.out | apply below_alloc | apply pw_below_drewN | apply below_drew1 | refine below_set ?_ GE.out) | exact HB.out)))); (case aL => have := HL.out; omega); intro v2 wa ho hb hg hat; have n1_ := Aside0.mk (blk_grown (g := gb) (o := .cells #[.bool false, .int .i64 n] 23 (0, 0)) (by (with_reducible repeat (first | refine blk_drewN ?_ _ | refine blk_drew ?_ | refine blk_alloc ?_ _)); exact BK.out) hg (Kd.R_ne HO.out BK.out (by decide))); have n2_ := Aside0.mk (hb); have n3_ := Aside0.mk (ho); have n5_ := Aside0.mk (IsS117.grown (by repeat (first | (with_reducible exact HT.out) | apply IsS117.alloc | apply IsS117.drewN | apply IsS117.drew)) hg (IsS117.own_ne HT.out HO.out (by decide))); clear HT; have HT := n5_; clear n5_; clear BK; clear HB; clear HO; have BK := n1_; have HB := n2_; have HO := n3_; clear n1_ n2_ n3_; clear ho hb hg hat)))
              go_roundw
              case rel =>
                refine ⟨j + 1, by omega, by go_num, ⟨?_⟩, ⟨?_⟩, BK, HB⟩
                · rw [evDig_step, ← List.append_assoc, ← digit_eq h h', show evCtx (numC n) j = evTail j by simp [evCtx, evTail, hj0]]
                  exact HO.out
                · rw [evTail_step j hj0]
                  exact HT.out
              case measure => simp [intOf]; omega
          · obtain rfl : j = numC n := by omega
            clear hlt hj
            have hq0 : wr.cell? ⟨gb, 1, none⟩ = some (.int .i64 n) := (blk_cell BK.out 1).trans rfl
            have hq1 := blk_frozen BK.out 1
            have HL := Aside0.mk (show (evHead base (numC n) ++ evMid base (numC n) ++ evDig base n (numC n) (numC n)).length ≤ 60 by have := evMid_len base (numC n); simp only [List.length_append, evHead_len, evDig_len]; omega)
            by_cases hz : n = 0
            · go_wp2
              go_ret
              refine ⟨_, rfl, ?_, HB.out⟩
              unfold evList
              rw [show evSign base n = [] from if_pos hz, List.append_nil]
              exact HO.out
            · have hq2 : (wr.alloc (.cells #[.int .i64 (base + 22), .int .i64 0] 87)).cell? ⟨gb, 1, none⟩ = some (.int .i64 n) := (blk_cell (blk_alloc BK.out _) 1).trans rfl
              have hq3 : (wr.alloc (.cells #[.int .i64 (base + 22), .int .i64 0] 87)).frozen? ⟨gb, 1, none⟩ = false := blk_frozen (blk_alloc BK.out _) 1
              by_cases hs : n < 0
              · have hg : evSign base n = [⟨base + 22, 1⟩] := by unfold evSign; rw [if_neg hz, if_pos hs]
                go_wp2_with (first | ((with_reducible refine gate_dst (N := 92) rfl ?_); obtain ⟨wq, hwq⟩ : ∃ wq, wr.alloc (.cells #[.int .i64 (base + 22), .int .i64 1] 87) = wq := ⟨_, rfl⟩; rw [hwq]; have n1_ := Aside0.mk (show Kd.R k87 87 wq w.heap.size (fun _ => True) u5 _ from hwq ▸ Kd.R_alloc HO.out _); have n2_ := Aside0.mk (show wq.heap[gb]? = some (.cells #[.bool false, .int .i64 n] 23 (0, 0)) from hwq ▸ blk_alloc BK.out _); have n3_ := Aside0.mk (show Below w.heap.size w wq from hwq ▸ below_alloc HB.out _); clear HO BK HB hq0 hq1 hq2 hq3; have HO := n1_; have BK := n2_; have HB := n3_; clear n1_ n2_ n3_; clear hwq) | ((with_reducible refine gate_builtin (b := .append) (xs := #[.tmp 90, .tmp 92]) rfl ?_); at_builtin; (refine Kd.R_append k87 (w0 := w) w.heap.size rfl (.tmp 90) (.tmp 92) 24 87 (.agg #[(.int .i64 0), (.int .i64 0)]) 16 rfl Try.underlying24 info87 rfl (by decide) (by omega) u5 (evHead base (numC n) ++ evMid base (numC n) ++ evDig base n (numC n) (numC n)) (⟨base + 22, 1⟩ : S87) [.int .i64 (base + 22), .int .i64 (1)] (fun _ => True) (fun _ => False) rfl rfl ?aP (fun _ hk => hk.elim) ?aF ?aO ?aB ?aS ?aL ?_; (case aP => exact k87_mkM _ _ _ (⟨base + 22, 1⟩ : S87)); (case aB => exact (by repeat (first | (with_reducible first | exact HB.out | apply below_alloc | apply pw_below_drewN | apply below_drew1 | refine below_set ?_ GE.out) | exact HB.out))); (case aF => exact (fun _ _ => trivial)); (case aO => exact (by (with_reducible repeat (first | apply Kd.R_alloc | apply Kd.R_drewN | apply Kd.R_drew)); exact HO.out)); (case aS => exact (below_size (by repeat (first | (with_reducible first | exact HB.out | apply below_alloc | apply pw_below_drewN | apply below_drew1 | refine below_set ?_ GE.out) | exact HB.out)))); (case aL => have := HL.out; omega); intro v2 wa ho hb hg hat; have n1_ := Aside0.mk (blk_grown (g := gb) (o := .cells #[.bool false, .int .i64 n] 23 (0, 0)) (by (with_reducible repeat (first | refine blk_drewN ?_ _ | refine blk_drew ?_ | refine blk_alloc ?_ _)); exact BK.out) hg (Kd.R_ne HO.out BK.out (by decide))); have n2_ := Aside0.mk (hb); have n3_ := Aside0.mk (ho); clear BK; clear HB; clear HO; have BK := n1_; have HB := n2_; have HO := n3_; clear n1_ n2_ n3_; clear ho hb hg hat)))
                go_ret
                refine ⟨_, rfl, ?_, HB.out⟩
                unfold evList
                rw [hg]
                exact HO.out
              · have hg : evSign base n = [⟨base + 22, 0⟩] := by unfold evSign; rw [if_neg hz, if_neg hs]
                go_wp2_with (first | ((with_reducible refine gate_dst (N := 92) rfl ?_); obtain ⟨wq, hwq⟩ : ∃ wq, wr.alloc (.cells #[.int .i64 (base + 22), .int .i64 0] 87) = wq := ⟨_, rfl⟩; rw [hwq]; have n1_ := Aside0.mk (show Kd.R k87 87 wq w.heap.size (fun _ => True) u5 _ from hwq ▸ Kd.R_alloc HO.out _); have n2_ := Aside0.mk (show wq.heap[gb]? = some (.cells #[.bool false, .int .i64 n] 23 (0, 0)) from hwq ▸ blk_alloc BK.out _); have n3_ := Aside0.mk (show Below w.heap.size w wq from hwq ▸ below_alloc HB.out _); clear HO BK HB hq0 hq1 hq2 hq3; have HO := n1_; have BK := n2_; have HB := n3_; clear n1_ n2_ n3_; clear hwq) | ((with_reducible refine gate_builtin (b := .append) (xs := #[.tmp 90, .tmp 92]) rfl ?_); at_builtin; (refine Kd.R_append k87 (w0 := w) w.heap.size rfl (.tmp 90) (.tmp 92) 24 87 (.agg #[(.int .i64 0), (.int .i64 0)]) 16 rfl Try.underlying24 info87 rfl (by decide) (by omega) u5 (evHead base (numC n) ++ evMid base (numC n) ++ evDig base n (numC n) (numC n)) (⟨base + 22, 0⟩ : S87) [.int .i64 (base + 22), .int .i64 (0)] (fun _ => True) (fun _ => False) rfl rfl ?aP (fun _ hk => hk.elim) ?aF ?aO ?aB ?aS ?aL ?_; (case aP => exact k87_mkM _ _ _ (⟨base + 22, 0⟩ : S87)); (case aB => exact (by repeat (first | (with_reducible first | exact HB.out | apply below_alloc | apply pw_below_drewN | apply below_drew1 | refine below_set ?_ GE.out) | exact HB.out))); (case aF => exact (fun _ _ => trivial)); (case aO => exact (by (with_reducible repeat (first | apply Kd.R_alloc | apply Kd.R_drewN | apply Kd.R_drew)); exact HO.out)); (case aS => exact (below_size (by repeat (first | (with_reducible first | exact HB.out | apply below_alloc | apply pw_below_drewN | apply below_drew1 | refine below_set ?_ GE.out) | exact HB.out)))); (case aL => have := HL.out; omega); intro v2 wa ho hb hg hat; have n1_ := Aside0.mk (blk_grown (g := gb) (o := .cells #[.bool false, .int .i64 n] 23 (0, 0)) (by (with_reducible repeat (first | refine blk_drewN ?_ _ | refine blk_drew ?_ | refine blk_alloc ?_ _)); exact BK.out) hg (Kd.R_ne HO.out BK.out (by decide))); have n2_ := Aside0.mk (hb); have n3_ := Aside0.mk (ho); clear BK; clear HB; clear HO; have BK := n1_; have HB := n2_; have HO := n3_; clear n1_ n2_ n3_; clear ho hb hg hat)))
                go_ret
                refine ⟨_, rfl, ?_, HB.out⟩
                unfold evList
                rw [hg]
                exact HO.out
      · have hm : evMid base (numC n) = [] := if_neg h20
        go_wp2
        go_loopw [5, 10] (fun l i wz => ∃ j : Nat, j ≤ numC n ∧ i = .int .i64 ((numC n : Int) - 1 - j) ∧ Aside0 (Kd.R k87 87 wz w.heap.size (fun _ => True) l (evHead base (numC n) ++ evMid base (numC n) ++ evDig base n (numC n) j)) ∧ Aside0 (IsS117 w wz wr.heap.size (evTail j)) ∧ Aside0 (wz.heap[gb]? = some (.cells #[.bool false, .int .i64 n] 23 (0, 0))) ∧ Aside0 (Below w.heap.size w wz)) (fun _ i _ => (intOf i + 1).toNat)
        case atStart =>
          refine ⟨0, Nat.zero_le _, by go_num, ⟨?_⟩, ⟨?_⟩, ⟨?_⟩, ⟨?_⟩⟩
          · rw [hm, show evDig base n (numC n) 0 = [] from rfl, List.append_nil]
            exact Kd.R_alloc (by first | exact HO.out | (rw [List.append_nil]; exact HO.out)) _
          · exact IsS117.new w wr 44 HB.out
          · exact blk_alloc BK.out _
          · exact below_alloc HB.out _
        case round =>
          clear HO BK HB
          obtain ⟨j, hj, rfl, HO, HT, BK, HB⟩ := hrel
          by_cases hlt : j < numC n
          · have HL := Aside0.mk (show (evHead base (numC n) ++ evMid base (numC n) ++ evDig base n (numC n) j).length ≤ 60 by have := evMid_len base (numC n); simp only [List.length_append, evHead_len, evDig_len]; omega)
            by_cases hj0 : j = 0
            · go_wp2_with (first | ((with_reducible refine gate_builtin (b := .append) (xs := #[.tmp 69, .tmp 78]) rfl ?_); at_builtin; (refine Kd.R_append k87 (w0 := w) w.heap.size rfl (.tmp 69) (.tmp 78) 24 87 (.agg #[(.int .i64 0), (.int .i64 0)]) 16 rfl Try.underlying24 info87 rfl (by decide) (by omega) u5 (evHead base (numC n) ++ evMid base (numC n) ++ evDig base n (numC n) j) (⟨base + (23 + (numC n : Int)), Go.bits .and .i64 ((numA n + 1) / 2 ^ (numC n - 1)) 1⟩ : S87) [.int .i64 (base + (23 + (numC n : Int))), .int .i64 (Go.bits .and .i64 ((numA n + 1) / 2 ^ (numC n - 1)) 1)] (fun _ => True) (fun _ => False) rfl rfl ?aP (fun _ hk => hk.elim) ?aF ?aO ?aB ?aS ?aL ?_; (case aP => exact k87_mkM _ _ _ (⟨base + (23 + (numC n : Int)), Go.bits .and .i64 ((numA n + 1) / 2 ^ (numC n - 1)) 1⟩ : S87)); (case aB => exact (by repeat (first | (with_reducible first | exact HB.out | apply below_alloc | apply pw_below_drewN | apply below_drew1 | refine below_set ?_ GE.out) | exact HB.out))); (case aF => exact (fun _ _ => trivial)); (case aO => exact (by (with_reducible repeat (first | apply Kd.R_alloc | apply Kd.R_drewN | apply Kd.R_drew)); exact HO.out)); (case aS => exact (below_size (by repeat (first | (with_reducible first | exact HB.out | apply below_alloc | apply pw_below_drewN | apply below_drew1 | refine below_set ?_ GE.out) | exact HB.out)))); (case aL => have := HL.out; omega); intro v2 wa ho hb hg hat; have n1_ := Aside0.mk (blk_grown (g := gb) (o := .cells #[.bool false, .int .i64 n] 23 (0, 0)) (by (with_reducible repeat (first | refine blk_drewN ?_ _ | refine blk_drew ?_ | refine blk_alloc ?_ _)); exact BK.out) hg (Kd.R_ne HO.out BK.out (by decide))); have n2_ := Aside0.mk (hb); have n3_ := Aside0.mk (ho); have n5_ := Aside0.mk (IsS117.grown (by repeat (first | (with_reducible exact HT.out) | apply IsS117.alloc | apply IsS117.drewN | apply IsS117.drew)) hg (IsS117.own_ne HT.out HO.out (by decide))); clear HT; have HT := n5_; clear n5_; clear BK; clear HB; clear HO; have BK := n1_; have HB := n2_; have HO := n3_; clear n1_ n2_ n3_; clear ho hb hg hat)))
              go_roundw
              case rel =>
                subst hj0
                refine ⟨0 + 1, by omega, by go_num, ⟨?_⟩, ⟨HT.out⟩, BK, HB⟩
                rw [evDig_step, ← List.append_assoc, ← digit_eq h h']
                exact HO.out
              case measure => simp [intOf]; omega
            · have ht := evTail_range j
              go_wp2_with (first | (go_at_call 69; (refine (number_tail_take.calls _ (evTail j) _ _ w _ HT.out HB.out rfl).mono ?_); rintro e wt ⟨rfl, hT, hB, hK⟩; have n1_ := Aside0.mk (Kd.R_mono (Kd.R_keep (IsS117.apart HT.out HO.out (by decide)) hK (fun _ hk => hk.2)) (fun _ _ => trivial)); have n2_ := Aside0.mk (hK.blk BK.out (IsS117.ne_blk HT.out BK.out (by decide)).symm (by simp)); have n3_ := Aside0.mk hT; have n4_ := Aside0.mk hB; clear HO BK HT HB hT hB hK; have HO := n1_; have BK := n2_; have HT := n3_; have HB := n4_; clear n1_ n2_ n3_ n4_) | ((with_reducible refine gate_builtin (b := .append) (xs := #[.tmp 69, .tmp 78]) rfl ?_); at_builtin; (refine Kd.R_append k87 (w0 := w) w.heap.size rfl (.tmp 69) (.tmp 78) 24 87 (.agg #[(.int .i64 0), (.int .i64 0)]) 16 rfl Try.underlying24 info87 rfl (by decide) (by omega) u5 (evHead base (numC n) ++ evMid base (numC n) ++ evDig base n (numC n) j) (⟨base + evTail j, Go.bits .and .i64 ((numA n + 1) / 2 ^ (numC n - 1 - j)) 1⟩ : S87) [.int .i64 (base + evTail j), .int .i64 (Go.bits .and .i64 ((numA n + 1) / 2 ^ (numC n - 1 - j)) 1)] (fun _ => True) (fun _ => False) rfl rfl ?aP (fun _ hk => hk.elim) ?aF ?aO ?aB ?aS ?aL ?_; (case aP => exact k87_mkM _ _ _ (⟨base + evTail j, Go.bits .and .i64 ((numA n + 1) / 2 ^ (numC n - 1 - j)) 1⟩ : S87)); (case aB => exact (by repeat (first | (with_reducible first | exact HB.out | apply below_alloc | apply pw_below_drewN | apply below_drew1 | refine below_set ?_ GE.out) | exact HB.out))); (case aF => exact (fun _ _ => trivial)); (case aO => exact (by (with_reducible repeat (first | apply Kd.R_alloc | apply Kd.R_drewN | apply Kd.R_drew)); exact HO.out)); (case aS => exact (below_size (by repeat (first | (with_reducible first | exact HB.out | apply below_alloc | apply pw_below_drewN | apply below_drew1 | refine below_set ?_ GE.out) | exact HB.out)))); (case aL => have := HL.out; omega); intro v2 wa ho hb hg hat; have n1_ := Aside0.mk (blk_grown (g := gb) (o := .cells #[.bool false, .int .i64 n] 23 (0, 0)) (by (with_reducible repeat (first | refine blk_drewN ?_ _ | refine blk_drew ?_ | refine blk_alloc ?_ _)); exact BK.out) hg (Kd.R_ne HO.out BK.out (by decide))); have n2_ := Aside0.mk (hb); have n3_ := Aside0.mk (ho); have n5_ := Aside0.mk (IsS117.grown (by repeat (first | (with_reducible exact HT.out) | apply IsS117.alloc | apply IsS117.drewN | apply IsS117.drew)) hg (IsS117.own_ne HT.out HO.out (by decide))); clear HT; have HT := n5_; clear n5_; clear BK; clear HB; clear HO; have BK := n1_; have HB := n2_; have HO := n3_; clear n1_ n2_ n3_; clear ho hb hg hat)))
              go_roundw
              case rel =>
                refine ⟨j + 1, by omega, by go_num, ⟨?_⟩, ⟨?_⟩, BK, HB⟩
                · rw [evDig_step, ← List.append_assoc, ← digit_eq h h', show evCtx (numC n) j = evTail j by simp [evCtx, evTail, hj0]]
                  exact HO.out
                · rw [evTail_step j hj0]
                  exact HT.out
              case measure => simp [intOf]; omega
          · obtain rfl : j = numC n := by omega
            clear hlt hj
            have hq0 : wr.cell? ⟨gb, 1, none⟩ = some (.int .i64 n) := (blk_cell BK.out 1).trans rfl
            have hq1 := blk_frozen BK.out 1
            have HL := Aside0.mk (show (evHead base (numC n) ++ evMid base (numC n) ++ evDig base n (numC n) (numC n)).length ≤ 60 by have := evMid_len base (numC n); simp only [List.length_append, evHead_len, evDig_len]; omega)
            by_cases hz : n = 0
            · go_wp2
              go_ret
              refine ⟨_, rfl, ?_, HB.out⟩
              unfold evList
              rw [show evSign base n = [] from if_pos hz, List.append_nil]
              exact HO.out
            · have hq2 : (wr.alloc (.cells #[.int .i64 (base + 22), .int .i64 0] 87)).cell? ⟨gb, 1, none⟩ = some (.int .i64 n) := (blk_cell (blk_alloc BK.out _) 1).trans rfl
              have hq3 : (wr.alloc (.cells #[.int .i64 (base + 22), .int .i64 0] 87)).frozen? ⟨gb, 1, none⟩ = false := blk_frozen (blk_alloc BK.out _) 1
              by_cases hs : n < 0
              · have hg : evSign base n = [⟨base + 22, 1⟩] := by unfold evSign; rw [if_neg hz, if_pos hs]
                go_wp2_with (first | ((with_reducible refine gate_dst (N := 92) rfl ?_); obtain ⟨wq, hwq⟩ : ∃ wq, wr.alloc (.cells #[.int .i64 (base + 22), .int .i64 1] 87) = wq := ⟨_, rfl⟩; rw [hwq]; have n1_ := Aside0.mk (show Kd.R k87 87 wq w.heap.size (fun _ => True) u5 _ from hwq ▸ Kd.R_alloc HO.out _); have n2_ := Aside0.mk (show wq.heap[gb]? = some (.cells #[.bool false, .int .i64 n] 23 (0, 0)) from hwq ▸ blk_alloc BK.out _); have n3_ := Aside0.mk (show Below w.heap.size w wq from hwq ▸ below_alloc HB.out _); clear HO BK HB hq0 hq1 hq2 hq3; have HO := n1_; have BK := n2_; have HB := n3_; clear n1_ n2_ n3_; clear hwq) | ((with_reducible refine gate_builtin (b := .append) (xs := #[.tmp 90, .tmp 92]) rfl ?_); at_builtin; (refine Kd.R_append k87 (w0 := w) w.heap.size rfl (.tmp 90) (.tmp 92) 24 87 (.agg #[(.int .i64 0), (.int .i64 0)]) 16 rfl Try.underlying24 info87 rfl (by decide) (by omega) u5 (evHead base (numC n) ++ evMid base (numC n) ++ evDig base n (numC n) (numC n)) (⟨base + 22, 1⟩ : S87) [.int .i64 (base + 22), .int .i64 (1)] (fun _ => True) (fun _ => False) rfl rfl ?aP (fun _ hk => hk.elim) ?aF ?aO ?aB ?aS ?aL ?_; (case aP => exact k87_mkM _ _ _ (⟨base + 22, 1⟩ : S87)); (case aB => exact (by repeat (first | (with_reducible first | exact HB.out | apply below_alloc | apply pw_below_drewN | apply below_drew1 | refine below_set ?_ GE.out) | exact HB.out))); (case aF => exact (fun _ _ => trivial)); (case aO => exact (by (with_reducible repeat (first | apply Kd.R_alloc | apply Kd.R_drewN | apply Kd.R_drew)); exact HO.out)); (case aS => exact (below_size (by repeat (first | (with_reducible first | exact HB.out | apply below_alloc | apply pw_below_drewN | apply below_drew1 | refine below_set ?_ GE.out) | exact HB.out)))); (case aL => have := HL.out; omega); intro v2 wa ho hb hg hat; have n1_ := Aside0.mk (blk_grown (g := gb) (o := .cells #[.bool false, .int .i64 n] 23 (0, 0)) (by (with_reducible repeat (first | refine blk_drewN ?_ _ | refine blk_drew ?_ | refine blk_alloc ?_ _)); exact BK.out) hg (Kd.R_ne HO.out BK.out (by decide))); have n2_ := Aside0.mk (hb); have n3_ := Aside0.mk (ho); clear BK; clear HB; clear HO; have BK := n1_; have HB := n2_; have HO := n3_; clear n1_ n2_ n3_; clear ho hb hg hat)))
                go_ret
                refine ⟨_, rfl, ?_, HB.out⟩
                unfold evList
                rw [hg]
                exact HO.out
              · have hg : evSign base n = [⟨base + 22, 0⟩] := by unfold evSign; rw [if_neg hz, if_neg hs]
                go_wp2_with (first | ((with_reducible refine gate_dst (N := 92) rfl ?_); obtain ⟨wq, hwq⟩ : ∃ wq, wr.alloc (.cells #[.int .i64 (base + 22), .int .i64 0] 87) = wq := ⟨_, rfl⟩; rw [hwq]; have n1_ := Aside0.mk (show Kd.R k87 87 wq w.heap.size (fun _ => True) u5 _ from hwq ▸ Kd.R_alloc HO.out _); have n2_ := Aside0.mk (show wq.heap[gb]? = some (.cells #[.bool false, .int .i64 n] 23 (0, 0)) from hwq ▸ blk_alloc BK.out _); have n3_ := Aside0.mk (show Below w.heap.size w wq from hwq ▸ below_alloc HB.out _); clear HO BK HB hq0 hq1 hq2 hq3; have HO := n1_; have BK := n2_; have HB := n3_; clear n1_ n2_ n3_; clear hwq) | ((with_reducible refine gate_builtin (b := .append) (xs := #[.tmp 90, .tmp 92]) rfl ?_); at_builtin; (refine Kd.R_append k87 (w0 := w) w.heap.size rfl (.tmp 90) (.tmp 92) 24 87 (.agg #[(.int .i64 0), (.int .i64 0)]) 16 rfl Try.underlying24 info87 rfl (by decide) (by omega) u5 (evHead base (numC n) ++ evMid base (numC n) ++ evDig base n (numC n) (numC n)) (⟨base + 22, 0⟩ : S87) [.int .i64 (base + 22), .int .i64 (0)] (fun _ => True) (fun _ => False) rfl rfl ?aP (fun _ hk => hk.elim) ?aF ?aO ?aB ?aS ?aL ?_; (case aP => exact k87_mkM _ _ _ (⟨base + 22, 0⟩ : S87)); (case aB => exact (by repeat (first | (with_reducible first | exact HB.out | apply below_alloc | apply pw_below_drewN | apply below_drew1 | refine below_set ?_ GE.out) | exact HB.out))); (case aF => exact (fun _ _ => trivial)); (case aO => exact (by (with_reducible repeat (first | apply Kd.R_alloc | apply Kd.R_drewN | apply Kd.R_drew)); exact HO.out)); (case aS => exact (below_size (by repeat (first | (with_reducible first | exact HB.out | apply below_alloc | apply pw_below_drewN | apply below_drew1 | refine below_set ?_ GE.out) | exact HB.out)))); (case aL => have := HL.out; omega); intro v2 wa ho hb hg hat; have n1_ := Aside0.mk (blk_grown (g := gb) (o := .cells #[.bool false, .int .i64 n] 23 (0, 0)) (by (with_reducible repeat (first | refine blk_drewN ?_ _ | refine blk_drew ?_ | refine blk_alloc ?_ _)); exact BK.out) hg (Kd.R_ne HO.out BK.out (by decide))); have n2_ := Aside0.mk (hb); have n3_ := Aside0.mk (ho); clear BK; clear HB; clear HO; have BK := n1_; have HB := n2_; have HO := n3_; clear n1_ n2_ n3_; clear ho hb hg hat)))
                go_ret
                refine ⟨_, rfl, ?_, HB.out⟩
                unfold evList
                rw [hg]
                exact HO.out
end Go.Proofs.Ytlnhahnnjbfjdaa.Num
namespace Go.Proofs.Ytlnhahnnjbfjdaa.Evs
open Go Go.RowKit Go.Proofs.YtlnhahnnjbfjdaaW.PrintWords Go.Proofs.YtlnhahnnjbfjdaaW.PrintLast Go.Proofs.YtlnhahnnjbfjdaaW.PrintMore Go.Proofs.Ytlnhahnnjbfjdaa.Aid Go.Proofs.Ytlnhahnnjbfjdaa.HandAid Go.Proofs.Ytlnhahnnjbfjdaa.U Go.Proofs.Ytlnhahnnjbfjdaa.Num
/-- Whether a number is one, or none. -/
def okNum (nn : Bool) (n : Int) : Bool := if nn = true then n == 0 else decide (-1048576 ≤ n) && decide (n ≤ 1048576)
theorem valid_eq (nn : Bool) (n : Int) : number_Valid.f nn n = some (okNum nn n) := by
  unfold number_Valid.f okNum
  cases nn
  · simp only [Bool.false_eq_true, if_false]
    by_cases h : n ≥ -1048576
    · rw [if_pos h, decide_eq_true (show -1048576 ≤ n from h)]; rfl
    · rw [if_neg h, decide_eq_false (show ¬ -1048576 ≤ n from h)]; rfl
  · rfl
theorem ref_valid_eq (nn : Bool) (n : Int) : incunableref03_Valid.f nn n = some (okNum nn n) := valid_eq nn n
/-- The events of a number, or of none. -/
def evAll (base : Int) (nn : Bool) (n : Int) : List S87 := if nn = true then [⟨base, 1⟩] else evList base n
theorem events_all (base n : Int) (nn : Bool) (w : World) (hb0 : 0 ≤ base) (hb1 : base ≤ 1000000) (hok : okNum nn n = true) : Calls Try.prog 45 #[.int .i64 base, .agg #[.bool nn, .int .i64 n]] w fun e w' => ∃ v, e = .returned v ∧ Kd.R k87 87 w' w.heap.size (fun _ => True) v (evAll base nn n) ∧ Below w.heap.size w w' := by
  cases nn
  · unfold okNum at hok
    simp only [Bool.false_eq_true, if_false, Bool.and_eq_true, decide_eq_true_eq] at hok
    exact events_calls base n w hb0 hb1 hok.1 hok.2
  · exact events_none base n w
def evRes (base : Int) (nn : Bool) (n : Int) : List S87 × Int := if okNum nn n = true ∧ 0 ≤ base ∧ base ≤ 8144 then (evAll base nn n, 0) else ([], 2)
set_option maxHeartbeats 4000000 in
set_option maxRecDepth 100000 in
theorem Events_calls (base n : Int) (nn : Bool) (w : World) : Calls Try.prog 10 #[.int .i64 base, .agg #[.bool nn, .int .i64 n]] w fun e w' => ∃ v, e = .returned (.tuple #[v, .int .i64 (evRes base nn n).2]) ∧ Kd.R k87 87 w' w.heap.size (fun _ => True) v (evRes base nn n).1 ∧ Below w.heap.size w w' := by
  have HB := Aside0.mk (Below.refl w.heap.size w)
  have hu := Try.underlying23
  by_cases hok : okNum nn n = true
  · by_cases hb0 : 0 ≤ base
    · by_cases hb1 : base ≤ 8144
      · have he : evRes base nn n = (evAll base nn n, 0) := if_pos ⟨hok, hb0, hb1⟩
        rw [he]
        have hok' := hok
        go_enter Try.func10, Try.ntmps10
        go_wp2_with (first | ((with_reducible refine gate_dst (N := 3) rfl ?_); refine box_event ?hg (N := 3) ?hd (cs := #[.bool nn, .int .i64 n]) (t := 23) ?hr ?_; (case hd => rfl); (case hg => rfl); (case hr => first | (go_simp; done) | (go_simp; rfl)); intro gb hg wb hbox hb; have n0_ := Aside0.mk (below_step (by repeat (first | (with_reducible first | exact HB.out | apply below_alloc | apply pw_below_drewN | apply below_drew1 | refine below_set ?_ GE.out) | exact HB.out)) hb); have n1_ := Aside0.mk (hbox); have n2_ := Aside0.mk ((by rw [hg]; exact (below_size (by repeat (first | (with_reducible first | exact HB.out | apply below_alloc | apply pw_below_drewN | apply below_drew1 | refine below_set ?_ GE.out) | exact HB.out))) : w.heap.size ≤ gb)); clear HB; have HB := n0_; have BK := n1_; have GE := n2_; clear n0_ n1_ n2_; clear hb hbox hg; have hcz0 : wb.cell? ⟨gb, 0, none⟩ = some (.bool nn) := (blk_cell BK.out 0).trans rfl; have hcz1 : wb.cell? ⟨gb, 1, none⟩ = some (.int .i64 n) := (blk_cell BK.out 1).trans rfl; have hfz0 := blk_frozen BK.out 0; have hfz1 := blk_frozen BK.out 1) | (go_at_call 13; refine (number_Valid.calls nn n _ _ (valid_eq nn n)).mono ?_; rintro e wv ⟨rfl, hv⟩; have n1_ := Aside0.mk (blk_below BK.out hv); have n2_ := Aside0.mk (below_step HB.out hv); clear BK HB hv; have BK := n1_; have HB := n2_; clear n1_ n2_; have hcv0 : wv.cell? ⟨gb, 0, none⟩ = some (.bool nn) := (blk_cell BK.out 0).trans rfl; have hcv1 : wv.cell? ⟨gb, 1, none⟩ = some (.int .i64 n) := (blk_cell BK.out 1).trans rfl; have hfv0 := blk_frozen BK.out 0; have hfv1 := blk_frozen BK.out 1) | (go_at_call 45; refine (events_all base n nn _ hb0 (by omega) hok').mono ?_; rintro e we ⟨v, rfl, hR, hE⟩; have HR := Aside0.mk (Kd.R_lower hR (below_size HB.out)); have n2_ := Aside0.mk (below_step HB.out hE); clear hR hE HB; have HB := n2_; clear n2_))
        go_ret2
        exact ⟨v, rfl, HR.out, HB.out⟩
      · have he : evRes base nn n = ([], 2) := if_neg (fun h => hb1 h.2.2)
        rw [he]
        go_enter Try.func10, Try.ntmps10
        go_wp2_with (first | ((with_reducible refine gate_dst (N := 3) rfl ?_); refine box_event ?hg (N := 3) ?hd (cs := #[.bool nn, .int .i64 n]) (t := 23) ?hr ?_; (case hd => rfl); (case hg => rfl); (case hr => first | (go_simp; done) | (go_simp; rfl)); intro gb hg wb hbox hb; have n0_ := Aside0.mk (below_step (by repeat (first | (with_reducible first | exact HB.out | apply below_alloc | apply pw_below_drewN | apply below_drew1 | refine below_set ?_ GE.out) | exact HB.out)) hb); have n1_ := Aside0.mk (hbox); have n2_ := Aside0.mk ((by rw [hg]; exact (below_size (by repeat (first | (with_reducible first | exact HB.out | apply below_alloc | apply pw_below_drewN | apply below_drew1 | refine below_set ?_ GE.out) | exact HB.out))) : w.heap.size ≤ gb)); clear HB; have HB := n0_; have BK := n1_; have GE := n2_; clear n0_ n1_ n2_; clear hb hbox hg; have hcz0 : wb.cell? ⟨gb, 0, none⟩ = some (.bool nn) := (blk_cell BK.out 0).trans rfl; have hcz1 : wb.cell? ⟨gb, 1, none⟩ = some (.int .i64 n) := (blk_cell BK.out 1).trans rfl; have hfz0 := blk_frozen BK.out 0; have hfz1 := blk_frozen BK.out 1) | (go_at_call 13; refine (number_Valid.calls nn n _ _ (valid_eq nn n)).mono ?_; rintro e wv ⟨rfl, hv⟩; have n1_ := Aside0.mk (blk_below BK.out hv); have n2_ := Aside0.mk (below_step HB.out hv); clear BK HB hv; have BK := n1_; have HB := n2_; clear n1_ n2_; have hcv0 : wv.cell? ⟨gb, 0, none⟩ = some (.bool nn) := (blk_cell BK.out 0).trans rfl; have hcv1 : wv.cell? ⟨gb, 1, none⟩ = some (.int .i64 n) := (blk_cell BK.out 1).trans rfl; have hfv0 := blk_frozen BK.out 0; have hfv1 := blk_frozen BK.out 1))
        go_ret2
        exact ⟨_, rfl, Kd.R_nil _ _ _ _ _, HB.out⟩
    · have he : evRes base nn n = ([], 2) := if_neg (fun h => hb0 h.2.1)
      rw [he]
      go_enter Try.func10, Try.ntmps10
      go_wp2_with (first | ((with_reducible refine gate_dst (N := 3) rfl ?_); refine box_event ?hg (N := 3) ?hd (cs := #[.bool nn, .int .i64 n]) (t := 23) ?hr ?_; (case hd => rfl); (case hg => rfl); (case hr => first | (go_simp; done) | (go_simp; rfl)); intro gb hg wb hbox hb; have n0_ := Aside0.mk (below_step (by repeat (first | (with_reducible first | exact HB.out | apply below_alloc | apply pw_below_drewN | apply below_drew1 | refine below_set ?_ GE.out) | exact HB.out)) hb); have n1_ := Aside0.mk (hbox); have n2_ := Aside0.mk ((by rw [hg]; exact (below_size (by repeat (first | (with_reducible first | exact HB.out | apply below_alloc | apply pw_below_drewN | apply below_drew1 | refine below_set ?_ GE.out) | exact HB.out))) : w.heap.size ≤ gb)); clear HB; have HB := n0_; have BK := n1_; have GE := n2_; clear n0_ n1_ n2_; clear hb hbox hg; have hcz0 : wb.cell? ⟨gb, 0, none⟩ = some (.bool nn) := (blk_cell BK.out 0).trans rfl; have hcz1 : wb.cell? ⟨gb, 1, none⟩ = some (.int .i64 n) := (blk_cell BK.out 1).trans rfl; have hfz0 := blk_frozen BK.out 0; have hfz1 := blk_frozen BK.out 1) | (go_at_call 13; refine (number_Valid.calls nn n _ _ (valid_eq nn n)).mono ?_; rintro e wv ⟨rfl, hv⟩; have n1_ := Aside0.mk (blk_below BK.out hv); have n2_ := Aside0.mk (below_step HB.out hv); clear BK HB hv; have BK := n1_; have HB := n2_; clear n1_ n2_; have hcv0 : wv.cell? ⟨gb, 0, none⟩ = some (.bool nn) := (blk_cell BK.out 0).trans rfl; have hcv1 : wv.cell? ⟨gb, 1, none⟩ = some (.int .i64 n) := (blk_cell BK.out 1).trans rfl; have hfv0 := blk_frozen BK.out 0; have hfv1 := blk_frozen BK.out 1))
      go_ret2
      exact ⟨_, rfl, Kd.R_nil _ _ _ _ _, HB.out⟩
  · have he : evRes base nn n = ([], 2) := if_neg (fun h => hok h.1)
    have hok2 : okNum nn n = false := Bool.eq_false_iff.mpr hok
    rw [he]
    go_enter Try.func10, Try.ntmps10
    go_wp2_with (first | ((with_reducible refine gate_dst (N := 3) rfl ?_); refine box_event ?hg (N := 3) ?hd (cs := #[.bool nn, .int .i64 n]) (t := 23) ?hr ?_; (case hd => rfl); (case hg => rfl); (case hr => first | (go_simp; done) | (go_simp; rfl)); intro gb hg wb hbox hb; have n0_ := Aside0.mk (below_step (by repeat (first | (with_reducible first | exact HB.out | apply below_alloc | apply pw_below_drewN | apply below_drew1 | refine below_set ?_ GE.out) | exact HB.out)) hb); have n1_ := Aside0.mk (hbox); have n2_ := Aside0.mk ((by rw [hg]; exact (below_size (by repeat (first | (with_reducible first | exact HB.out | apply below_alloc | apply pw_below_drewN | apply below_drew1 | refine below_set ?_ GE.out) | exact HB.out))) : w.heap.size ≤ gb)); clear HB; have HB := n0_; have BK := n1_; have GE := n2_; clear n0_ n1_ n2_; clear hb hbox hg; have hcz0 : wb.cell? ⟨gb, 0, none⟩ = some (.bool nn) := (blk_cell BK.out 0).trans rfl; have hcz1 : wb.cell? ⟨gb, 1, none⟩ = some (.int .i64 n) := (blk_cell BK.out 1).trans rfl; have hfz0 := blk_frozen BK.out 0; have hfz1 := blk_frozen BK.out 1) | (go_at_call 13; refine (number_Valid.calls nn n _ _ (valid_eq nn n)).mono ?_; rintro e wv ⟨rfl, hv⟩; have n1_ := Aside0.mk (blk_below BK.out hv); have n2_ := Aside0.mk (below_step HB.out hv); clear BK HB hv; have BK := n1_; have HB := n2_; clear n1_ n2_; have hcv0 : wv.cell? ⟨gb, 0, none⟩ = some (.bool nn) := (blk_cell BK.out 0).trans rfl; have hcv1 : wv.cell? ⟨gb, 1, none⟩ = some (.int .i64 n) := (blk_cell BK.out 1).trans rfl; have hfv0 := blk_frozen BK.out 0; have hfv1 := blk_frozen BK.out 1))
    go_ret2
    exact ⟨_, rfl, Kd.R_nil _ _ _ _ _, HB.out⟩
end Go.Proofs.Ytlnhahnnjbfjdaa.Evs
namespace Go.Proofs.Ytlnhahnnjbfjdaa.RefEvs
open Go Go.RowKit Go.Proofs.YtlnhahnnjbfjdaaW.PrintWords Go.Proofs.YtlnhahnnjbfjdaaW.PrintLast Go.Proofs.YtlnhahnnjbfjdaaW.PrintMore Go.Proofs.Ytlnhahnnjbfjdaa.Aid Go.Proofs.Ytlnhahnnjbfjdaa.HandAid Go.Proofs.Ytlnhahnnjbfjdaa.U Go.Proofs.Ytlnhahnnjbfjdaa.Num Go.Proofs.Ytlnhahnnjbfjdaa.Evs
def digs (v : Int) (i : Nat) : List Int := (List.range i).map fun k => v / 2 ^ k % 2
theorem digs_step (v : Int) (i : Nat) : digs v (i + 1) = digs v i ++ [v / 2 ^ i % 2] := by simp [digs, List.range_succ]
theorem digs_len (v : Int) (i : Nat) : (digs v i).length = i := by simp [digs]
theorem pow_pos' (i : Nat) : (0 : Int) < 2 ^ i := Int.pow_pos (by decide)
theorem pow_le' {i j : Nat} (h : i ≤ j) : (2 : Int) ^ i ≤ 2 ^ j := by
  have := Nat.pow_le_pow_right (n := 2) (by decide) h
  exact_mod_cast this
theorem div_half (v : Int) (i : Nat) : v / 2 ^ i / 2 = v / 2 ^ (i + 1) := by
  rw [Int.ediv_ediv_of_nonneg (Int.le_of_lt (pow_pos' i)), Int.pow_succ]
theorem ref_l0 (v : Int) (c : Nat) (hc : c ≤ 20) (h1 : (2 : Int) ^ c ≤ v) (h2 : v < 2 ^ (c + 1)) (hv : v ≤ 1048577) (x3 : List S87) (x4 x5 : Int) (r : List S87) (H : Ev (fun k => incunableref03_events.l1 k x3 x4 x5 (digs v (c + 1)) c 0) r) : ∀ (d i : Nat), i + d = c + 1 → Ev (fun k => incunableref03_events.l0 k x3 x4 x5 (digs v i) (v / 2 ^ i)) r
  | 0, i, hd => by
    obtain rfl : i = c + 1 := by omega
    refine ev_succ ?_
    simp only [incunableref03_events.l0]
    have h0 : v / 2 ^ (c + 1) = 0 := Int.ediv_eq_zero_of_lt (by have := pow_pos' c; omega) h2
    rw [h0]
    refine ev_neg (by omega) ?_
    rw [show wrap64 (((digs v (c + 1)).length : Int) - 1) = c by rw [digs_len, wrap_id] <;> omega]
    exact H
  | d + 1, i, hd => by
    refine ev_succ ?_
    simp only [incunableref03_events.l0]
    have h0 : 1 ≤ v / 2 ^ i := Int.le_ediv_of_mul_le (pow_pos' i) (by have := pow_le' (show i ≤ c by omega); omega)
    have h3 : v / 2 ^ i ≤ v := Int.ediv_le_self _ (by have := pow_pos' c; omega)
    refine ev_pos (by omega) (ev_pos (by rw [digs_len]; omega) ?_)
    rw [tmod_id (by omega), tdiv_id (by omega), wrap_id (by omega) (by omega), div_half, ← digs_step]
    exact ref_l0 v c hc h1 h2 hv x3 x4 x5 r H d (i + 1) (by omega)
theorem ref_l1 (x4 x5 : Int) (x6 : List Int) (c : Nat) (hc : c ≤ 20) (r : List S87) (H : Ev (fun k => incunableref03_events.l2 k (evHead 0 c ++ evMid 0 c) x4 x5 x6 c 0) r) : ∀ (d i : Nat), i + d = c → Ev (fun k => incunableref03_events.l1 k (evHead 0 i) x4 x5 x6 c i) r
  | 0, i, hd => by
    obtain rfl : i = c := by omega
    refine ev_succ ?_
    simp only [incunableref03_events.l1]
    refine ev_neg (by omega) ?_
    unfold evMid at H
    by_cases h : i < 20
    · refine ev_pos (by omega) (ev_pos (by rw [evHead_len]; omega) (ev_succ ?_))
      simp only [incunableref03_events.j3]
      rw [if_pos h] at H
      rw [show wrap64 (1 + (i : Int)) = 0 + 1 + i by rw [wrap_id] <;> omega]
      exact H
    · refine ev_neg (by omega) (ev_succ ?_)
      simp only [incunableref03_events.j3]
      rw [if_neg h, List.append_nil] at H
      exact H
  | d + 1, i, hd => by
    refine ev_succ ?_
    simp only [incunableref03_events.l1]
    refine ev_pos (by omega) (ev_pos (by rw [evHead_len]; omega) ?_)
    rw [show wrap64 (1 + (i : Int)) = 0 + 1 + i by rw [wrap_id] <;> omega, show wrap64 ((i : Int) + 1) = ((i + 1 : Nat) : Int) by rw [wrap_id] <;> omega, ← evHead_step]
    exact ref_l1 x4 x5 x6 c hc r H d (i + 1) (by omega)
theorem ref_l2 (n x4 x5 : Int) (c : Nat) (hc : c ≤ 20) (hx4 : x4 = 0 ↔ n = 0) (hx5 : n ≠ 0 → x5 = if n < 0 then 1 else 0) : ∀ (d j : Nat), j + d = c → Ev (fun k => incunableref03_events.l2 k (evHead 0 c ++ evMid 0 c ++ evDig 0 n c j) x4 x5 (digs (numV n) (c + 1)) c j) (evHead 0 c ++ evMid 0 c ++ evDig 0 n c c ++ evSign 0 n)
  | 0, j, hd => by
    obtain rfl : j = c := by omega
    refine ev_succ ?_
    simp only [incunableref03_events.l2]
    refine ev_neg (by omega) ?_
    unfold evSign
    by_cases h : n = 0
    · rw [if_pos h, List.append_nil]
      exact ev_pos (hx4.2 h) (Ev.now _)
    · rw [if_neg h]
      refine ev_neg (fun e => h (hx4.1 e)) (ev_pos ?_ (ev_eq (Ev.now _) ?_))
      · have := evMid_len 0 j
        simp only [List.length_append, evHead_len, evDig_len]
        omega
      · rw [hx5 h]; rfl
  | d + 1, j, hd => by
    refine ev_succ ?_
    simp only [incunableref03_events.l2]
    have hL : (evHead 0 c ++ evMid 0 c ++ evDig 0 n c j).length < 8796093022208 := by
      have := evMid_len 0 c
      simp only [List.length_append, evHead_len, evDig_len]
      omega
    have e1 : wrap64 (wrap64 ((c : Int) - 1) - (j : Int)) = ((c - 1 - j : Nat) : Int) := by
      rw [wrap_id (n := (c : Int) - 1) (by omega) (by omega), wrap_id (by omega) (by omega)]; omega
    have e3 : wrap64 ((j : Int) + 1) = ((j + 1 : Nat) : Int) := by rw [wrap_id] <;> omega
    have e4 : wrap64 (23 + (c : Int)) = 23 + c := by rw [wrap_id] <;> omega
    have e5 : wrap64 (43 + (j : Int)) = 43 + j := by rw [wrap_id] <;> omega
    have e2 : rd (digs (numV n) (c + 1)) ((c - 1 - j : Nat) : Int) = numV n / 2 ^ (c - 1 - j) % 2 := rd_range_map (fun k => numV n / 2 ^ k % 2) (by omega)
    rw [e1, e2, e3, e4, e5]
    clear e2
    have hI := ref_l2 n x4 x5 c hc hx4 hx5 d (j + 1) (by omega)
    clear hx4 hx5
    rw [evDig_step, ← List.append_assoc, Int.zero_add] at hI
    refine ev_pos (by omega) ?_
    by_cases h : j = 0
    · refine ev_pos (by omega) (ev_pos (by omega) (ev_pos (by rw [digs_len]; omega) (ev_pos hL ?_)))
      rw [show evCtx c j = 23 + c from if_pos h] at hI
      exact hI
    · refine ev_neg (by omega) (ev_pos (by omega) (ev_pos (by rw [digs_len]; omega) (ev_pos hL ?_)))
      rw [show evCtx c j = mn (43 + (j : Int)) 47 by unfold evCtx mn; rw [if_neg h]; split <;> split <;> omega] at hI
      exact hI
theorem ref_events_ev (nn : Bool) (n : Int) (hok : okNum nn n = true) : Ev (fun k => incunableref03_events.f k nn n) (evAll 0 nn n) := by
  unfold incunableref03_events.f evAll
  cases nn
  · unfold okNum at hok
    simp only [Bool.false_eq_true, if_false, Bool.and_eq_true, decide_eq_true_eq] at hok ⊢
    have hC := numC_spec hok.1 hok.2
    have hV := numV_range hok.1 hok.2
    have hA := numA_eq n
    have key : ∀ (x4 x5 : Int), x4 = numA n → (n ≠ 0 → x5 = if n < 0 then 1 else 0) → Ev (fun k => incunableref03_events.j0 k [⟨0, 0⟩] x4 x5) (evList 0 n) := by
      intro x4 x5 h4 h5
      refine ev_succ ?_
      simp only [incunableref03_events.j0]
      rw [show wrap64 (x4 + 1) = numV n / 2 ^ 0 by rw [h4, Int.pow_zero, Int.ediv_one, wrap_id (by have := numA_range hok.1 hok.2; omega) (by have := numA_range hok.1 hok.2; omega)]; rfl]
      refine ref_l0 (numV n) (numC n) hC.2.2.1 hC.1 hC.2.1 hV.2 _ x4 x5 _ ?_ (numC n + 1) 0 (by omega)
      refine ref_l1 x4 x5 _ (numC n) hC.2.2.1 _ ?_ (numC n) 0 (by omega)
      have := ref_l2 n x4 x5 (numC n) hC.2.2.1 (by rw [h4, hA]; split <;> omega) h5 (numC n) 0 (by omega)
      rw [show evDig 0 n (numC n) 0 = [] from rfl, List.append_nil] at this
      exact this
    refine ev_some ?_
    by_cases h : n < 0
    · refine ev_pos h (key _ _ ?_ ?_)
      · rw [hA, if_pos h, wrap_id] <;> omega
      · intro _; rw [if_pos h]
    · refine ev_neg h (key _ _ ?_ ?_)
      · rw [hA, if_neg h]
      · intro _; rw [if_neg h]
  · exact ev_pos rfl (Ev.now _)
def shift (base : Int) (x : S87) : S87 := ⟨x.f0 + base, x.f1⟩
theorem evList_shift (base n : Int) : (evList 0 n).map (shift base) = evList base n := by
  unfold evList evHead evMid evDig evSign
  simp only [List.map_append, List.map_cons, List.map_map]
  congr 1
  · congr 1
    · congr 1
      · congr 1
        · simp [shift]
        · apply List.map_congr_left; intro i _; simp [shift]; omega
      · split <;> simp [shift] <;> omega
    · apply List.map_congr_left; intro i _; simp [shift]; omega
  · split
    · rfl
    · simp [shift]; omega
theorem evAll_shift (base : Int) (nn : Bool) (n : Int) : (evAll 0 nn n).map (shift base) = evAll base nn n := by
  unfold evAll
  cases nn
  · exact evList_shift base n
  · simp [shift]
theorem evAll_ctx (nn : Bool) (n : Int) (hok : okNum nn n = true) : ∀ x ∈ evAll 0 nn n, 0 ≤ x.f0 ∧ x.f0 ≤ 47 := by
  unfold evAll
  cases nn
  · unfold okNum at hok
    simp only [Bool.false_eq_true, if_false, Bool.and_eq_true, decide_eq_true_eq] at hok ⊢
    have hC := (numC_spec hok.1 hok.2).2.2.1
    intro x hx
    unfold evList evHead evMid evDig evSign at hx
    simp only [List.mem_append, List.mem_cons, List.mem_map, List.mem_range] at hx
    rcases hx with ((( rfl | ⟨i, hi, rfl⟩) | hx) | ⟨i, hi, rfl⟩) | hx
    · simp
    · simp only; omega
    · split at hx
      · simp only [List.mem_singleton] at hx; subst hx; simp only; omega
      · simp at hx
    · simp only [evCtx]; split <;> (try split) <;> omega
    · split at hx
      · simp at hx
      · simp only [List.mem_singleton] at hx; subst hx; simp only; omega
  · intro x hx
    simp only [if_true, List.mem_singleton] at hx
    subst hx; simp
theorem evAll_len (base : Int) (nn : Bool) (n : Int) (hok : okNum nn n = true) : (evAll base nn n).length ≤ 60 := by
  unfold evAll
  cases nn
  · unfold okNum at hok
    simp only [Bool.false_eq_true, if_false, Bool.and_eq_true, decide_eq_true_eq] at hok ⊢
    have hC := (numC_spec hok.1 hok.2).2.2.1
    have := evMid_len base (numC n)
    unfold evList evSign
    simp only [List.length_append, evHead_len, evDig_len]
    split <;> simp <;> omega
  · simp
theorem same_l0 (l : List S87) (hn : l.length ≤ 1000000) : ∀ (d i : Nat), i + d = l.length → Ev (fun k => incunablelaw03_SameEvents.l0 k l l i) true
  | 0, i, hd => by
    refine ev_succ ?_
    simp only [incunablelaw03_SameEvents.l0]
    exact ev_neg (by omega) (Ev.now _)
  | d + 1, i, hd => by
    refine ev_succ ?_
    simp only [incunablelaw03_SameEvents.l0]
    refine ev_pos (by omega) (ev_pos (by omega) (ev_pos (by omega) (ev_neg (by simp) ?_)))
    rw [show wrap64 ((i : Int) + 1) = ((i + 1 : Nat) : Int) by rw [wrap_id] <;> omega]
    exact same_l0 l hn d (i + 1) (by omega)
theorem sameEvents_ev (l : List S87) (hn : l.length ≤ 1000000) : Ev (fun k => incunablelaw03_SameEvents.f k l l) true := by
  unfold incunablelaw03_SameEvents.f
  exact ev_pos rfl (same_l0 l hn l.length 0 (by omega))
end Go.Proofs.Ytlnhahnnjbfjdaa.RefEvs
namespace Go.Proofs.Ytlnhahnnjbfjdaa.Sane
open Go Go.RowKit Go.Proofs.YtlnhahnnjbfjdaaW.PrintWords Go.Proofs.YtlnhahnnjbfjdaaW.PrintLast Go.Proofs.YtlnhahnnjbfjdaaW.PrintMore Go.Proofs.Ytlnhahnnjbfjdaa.Aid Go.Proofs.Ytlnhahnnjbfjdaa.HandAid Go.Proofs.Ytlnhahnnjbfjdaa.U Go.Proofs.Ytlnhahnnjbfjdaa.Num Go.Proofs.Ytlnhahnnjbfjdaa.Evs Go.Proofs.Ytlnhahnnjbfjdaa.RefEvs
def sane5 : List S87 := [⟨0, 0⟩, ⟨1, 1⟩, ⟨2, 0⟩, ⟨24, 1⟩, ⟨22, 0⟩]
theorem sane_ev : evRes 0 false 2 = (sane5, 0) := by
  have h : numC 2 = 1 := by unfold numC numV numA; decide
  unfold evRes
  rw [if_pos ⟨by decide, by decide, by decide⟩]
  unfold evAll evList evHead evMid evDig evSign numV numA
  rw [h]
  rfl
set_option maxHeartbeats 4000000 in
set_option maxRecDepth 100000 in
theorem sane_calls (w : World) : Calls Try.prog 15 #[] w fun e w' => e = .returned (.bool true) ∧ Below w.heap.size w w' := by
  have HB := Aside0.mk (Below.refl w.heap.size w)
  have hE := sane_ev
  go_enter Try.func15, Try.ntmps15
  go_wp2_with (first | (go_at_call 10; refine (Events_calls 0 2 false _).mono ?_; rw [sane_ev]; rintro e wv ⟨v1, rfl, hR, hv⟩; obtain ⟨A1, c1, rfl⟩ := Kd.R_slice hR; have HR1 := Aside0.mk hR; have n2_ := Aside0.mk (below_step HB.out hv); clear hR HB hv; have HB := n2_; clear n2_) | ((with_reducible refine gate_dst (N := 17) rfl ?_); (refine gate_guard (by first | rfl | (go_simp; done)) ?_; refine Kd.R_lit k87 _ 87 ?hg (N := 17) ?hd (xs := sane5) (inner := [.int .i64 0, .int .i64 0, .int .i64 1, .int .i64 1, .int .i64 2, .int .i64 0, .int .i64 24, .int .i64 1, .int .i64 22, .int .i64 0]) (ok := fun _ => True) (okp := fun _ => True) ?hr ?hp (fun _ hk => hk) trivial (Below.refl _ _) (Nat.le_refl _) (by decide) ?_; (case hd => rfl); (case hg => rfl); (case hr => first | (go_simp; done) | (go_simp; rfl)); (case hp => exact (Reps.c2 (show Kd.M k87 _ _ _ (⟨0, 0⟩ : S87) [.int .i64 0, .int .i64 0] from (k87_mkM _ _ _ (⟨0, 0⟩ : S87))) (Reps.c2 (show Kd.M k87 _ _ _ (⟨1, 1⟩ : S87) [.int .i64 1, .int .i64 1] from (k87_mkM _ _ _ (⟨1, 1⟩ : S87))) (Reps.c2 (show Kd.M k87 _ _ _ (⟨2, 0⟩ : S87) [.int .i64 2, .int .i64 0] from (k87_mkM _ _ _ (⟨2, 0⟩ : S87))) (Reps.c2 (show Kd.M k87 _ _ _ (⟨24, 1⟩ : S87) [.int .i64 24, .int .i64 1] from (k87_mkM _ _ _ (⟨24, 1⟩ : S87))) (Reps.c2 (show Kd.M k87 _ _ _ (⟨22, 0⟩ : S87) [.int .i64 22, .int .i64 0] from (k87_mkM _ _ _ (⟨22, 0⟩ : S87))) (Reps.none _ _))))))); intro v5 wl ho hb hg_ hnew_; clear hg_ hnew_; obtain ⟨A5, c5, rfl⟩ := Kd.R_slice ho; have HO := Aside0.mk ho; have n1_ := Aside0.mk (Kd.R_below HR1.out hb); have n2_ := Aside0.mk (below_step HB.out hb); clear HB HR1; have HB := n2_; have HR1 := n1_; clear n1_ n2_; clear hb ho)) | (go_at_call 12; (obtain ⟨K5, hK5⟩ := sameEvents_ev sane5 (by decide); refine (incunablelaw03_SameEvents.calls K5 A1 c1 sane5 A5 c5 sane5 _ _ (Kd.R_reads' HR1.out).2.2 (Kd.R_reads' HR1.out).2.1 (Kd.R_reads' HO.out).2.2 (Kd.R_reads' HO.out).2.1 (hK5 K5 (Nat.le_refl _))).mono ?_; rintro e w5 ⟨rfl, m5, rfl⟩)))
  go_ret
  exact ⟨rfl, by repeat (first | (with_reducible first | exact HB.out | apply below_alloc | apply pw_below_drewN | apply below_drew1) | exact HB.out)⟩
end Go.Proofs.Ytlnhahnnjbfjdaa.Sane
namespace Go.Proofs.Ytlnhahnnjbfjdaa.U
open Go.RowKit Go.Proofs.YtlnhahnnjbfjdaaW.PrintWords Go.Proofs.YtlnhahnnjbfjdaaW.PrintLast Go.Proofs.YtlnhahnnjbfjdaaW.PrintMore
attribute [local go_sem] max2_int min2_int max_two min_two max_three min_three max_four min_four   -- for this text's walks alone
def incunableref02_Interval_Mid.f (a0_0 : Int) (a0_1 : Int) (a1 : Int) : Option (Int) := some (IntKind.u64.wrap ((IntKind.u64.wrap (a0_0 + (IntKind.u64.wrap ((IntKind.u64.wrap (Int.tdiv (IntKind.u64.wrap (a0_1 - a0_0)) 4096)) * (IntKind.u64.wrap (a1)))))) + (IntKind.u64.wrap (Int.tdiv (IntKind.u64.wrap ((Int.tmod (IntKind.u64.wrap (a0_1 - a0_0)) 4096) * (IntKind.u64.wrap (a1)))) 4096))))
set_option maxHeartbeats 8000000 in
set_option maxRecDepth 100000 in
theorem incunableref02_Interval_Mid.calls (a0_0 : Int) (a0_1 : Int) (a1 : Int) (r : Int) (w : World) (h : incunableref02_Interval_Mid.f a0_0 a0_1 a1 = some r) :
    Calls Try.prog 78 #[.agg #[.int .u64 a0_0, .int .u64 a0_1], .int .i64 a1] w fun e w' => e = .returned (.int .u64 r) ∧ Below w.heap.size w w' := by
 have hu101 := Try.underlying101; have HB := Aside0.mk (Below.refl w.heap.size w); have H : (some (IntKind.u64.wrap ((IntKind.u64.wrap (a0_0 + (IntKind.u64.wrap ((IntKind.u64.wrap (Int.tdiv (IntKind.u64.wrap (a0_1 - a0_0)) 4096)) * (IntKind.u64.wrap (a1)))))) + (IntKind.u64.wrap (Int.tdiv (IntKind.u64.wrap ((Int.tmod (IntKind.u64.wrap (a0_1 - a0_0)) 4096) * (IntKind.u64.wrap (a1)))) 4096))))) = some r := h; clear h; obtain rfl := Option.some.inj H; go_enter Try.func78, Try.ntmps78
 go_wp2_with (first | ((with_reducible refine gate_dst (N := 2) rfl ?_); refine box_event ?hg (N := 2) ?hd (cs := #[.int .u64 a0_0, .int .u64 a0_1]) (t := 101) ?hr ?_; (case hd => rfl); (case hg => rfl); (case hr => first | (go_simp; done) | (go_simp; rfl)); intro gb226 hg w3 hbox hb; have n0_ := Aside0.mk (below_step (by repeat (first | (with_reducible first | exact HB.out | apply below_alloc | apply pw_below_drewN | apply below_drew1) | exact HB.out)) hb); have n1_ := Aside0.mk (hbox); have n2_ := Aside0.mk ((by rw [hg]; exact (below_size (by repeat (first | (with_reducible first | exact HB.out | apply below_alloc | apply pw_below_drewN | apply below_drew1) | exact HB.out))) : w.heap.size ≤ gb226)); have n3_ := Aside0.mk ((by rw [hg]; exact (below_size (by repeat (first | (with_reducible first | exact HB.out | apply below_alloc | apply pw_below_drewN | apply below_drew1) | exact HB.out))) : w.heap.size ≤ gb226)); clear HB; have HB := n0_; have BK226 := n1_; have GW226 := n2_; have GE226 := n3_; clear n0_ n1_ n2_ n3_; clear hb hbox hg; have hcz4_0 : w3.cell? ⟨gb226, 0, none⟩ = some (.int .u64 a0_0) := (blk_cell BK226.out 0).trans rfl; have hcz4_1 : w3.cell? ⟨gb226, 1, none⟩ = some (.int .u64 a0_1) := (blk_cell BK226.out 1).trans rfl; have hfz4_0 := blk_frozen BK226.out 0; have hfz4_1 := blk_frozen BK226.out 1)); go_ret
 (exact ⟨by first | rfl | (simp [errW_none, errW_some] <;> rfl) | (simp [*, errW_none, errW_some] <;> rfl), by repeat (first | (with_reducible first | exact HB.out | apply below_alloc | apply pw_below_drewN | apply below_drew1 | refine below_set ?_ GE226.out) | exact HB.out)⟩)
end Go.Proofs.Ytlnhahnnjbfjdaa.U
namespace Go.Proofs.Ytlnhahnnjbfjdaa.U
open Go.RowKit Go.Proofs.YtlnhahnnjbfjdaaW.PrintWords Go.Proofs.YtlnhahnnjbfjdaaW.PrintLast Go.Proofs.YtlnhahnnjbfjdaaW.PrintMore
attribute [local go_sem] max2_int min2_int max_two min_two max_three min_three max_four min_four   -- for this text's walks alone
def incunableref02_Interval_Part.f (a0_0 : Int) (a0_1 : Int) (a1 : Int) (a2 : Int) : Option (Int × Int) := if a2 = 1 then ((incunableref02_Interval_Mid.f a0_0 a0_1 a1).bind fun t229 => (some (a0_0, t229))) else ((incunableref02_Interval_Mid.f a0_0 a0_1 a1).bind fun t230 => (some (IntKind.u64.wrap (t230 + 1), a0_1)))
def incunableref02_Interval_Part.T3 : Bool × List (List Nat × List Nat) := (true, [([], []), ([], []), ([0, 1], [0, 1]), ([2], [2]), ([], []), ([4], [4]), ([3, 5], [3, 5]), ([6, 2, 0, 1, 2, 3, 4, 5, 6], [6])])
def incunableref02_Interval_Part.B3 : List Nat := [0, 0, 3, 7, 0, 16, 63, 127]
theorem incunableref02_Interval_Part.tab3 : rtab .any (opsOf Try.f79 3) = incunableref02_Interval_Part.T3 := by kernel_rfl
theorem incunableref02_Interval_Part.bits3 : waitsOk incunableref02_Interval_Part.T3.2 incunableref02_Interval_Part.B3 = true := by kernel_rfl
set_option maxHeartbeats 8000000 in
set_option maxRecDepth 100000 in
theorem incunableref02_Interval_Part.calls (a0_0 : Int) (a0_1 : Int) (a1 : Int) (a2 : Int) (r1 : Int) (r2 : Int) (w : World) (h : incunableref02_Interval_Part.f a0_0 a0_1 a1 a2 = some (r1, r2)) :
    Calls Try.prog 79 #[.agg #[.int .u64 a0_0, .int .u64 a0_1], .int .i64 a1, .int .i64 a2] w fun e w' => e = .returned (.agg #[.int .u64 r1, .int .u64 r2]) ∧ Below w.heap.size w w' := by
 have hu101 := Try.underlying101; have HB := Aside0.mk (Below.refl w.heap.size w); have H : (if a2 = 1 then ((incunableref02_Interval_Mid.f a0_0 a0_1 a1).bind fun t229 => (some (a0_0, t229))) else ((incunableref02_Interval_Mid.f a0_0 a0_1 a1).bind fun t230 => (some (IntKind.u64.wrap (t230 + 1), a0_1)))) = some (r1, r2) := h; clear h; by_cases c4 : a2 = 1
 (· rw [if_pos c4] at H; have c4b0 : (a2 == 1) = true := beq_iff_eq.mpr c4; have c4b1 : (a2 != 1) = false := bne_eq_false_iff_eq.mpr c4; clear c4; replace H := Option.bind_eq_some_iff.mp H; obtain ⟨t229, A50, H⟩ := H; replace H : (some (a0_0, t229)) = some (r1, r2) := H; have A5 := Aside0.mk A50; clear A50; simp only [Option.some.injEq, Prod.mk.injEq] at H; obtain ⟨rfl, rfl⟩ := H; go_enter Try.func79, Try.ntmps79; (try go_wp2_with (first | ((with_reducible refine gate_dst (N := 3) rfl ?_); refine box_event ?hg (N := 3) ?hd (cs := #[.int .u64 a0_0, .int .u64 a0_1]) (t := 101) ?hr ?_; (case hd => rfl); (case hg => rfl); (case hr => first | (go_simp; done) | (go_simp; rfl)); intro gb227 hg w6 hbox hb; have n0_ := Aside0.mk (below_step (by repeat (first | (with_reducible first | exact HB.out | apply below_alloc | apply pw_below_drewN | apply below_drew1) | exact HB.out)) hb); have n1_ := Aside0.mk (hbox); have n2_ := Aside0.mk ((by rw [hg]; exact (below_size (by repeat (first | (with_reducible first | exact HB.out | apply below_alloc | apply pw_below_drewN | apply below_drew1) | exact HB.out))) : w.heap.size ≤ gb227)); have n3_ := Aside0.mk ((by rw [hg]; exact (below_size (by repeat (first | (with_reducible first | exact HB.out | apply below_alloc | apply pw_below_drewN | apply below_drew1) | exact HB.out))) : w.heap.size ≤ gb227)); clear HB; have HB := n0_; have BK227 := n1_; have GW227 := n2_; have GE227 := n3_; clear n0_ n1_ n2_ n3_; clear hb hbox hg) | ((with_reducible refine gate_dst (N := 6) rfl ?_); refine box_event ?hg (N := 6) ?hd (cs := #[.int .u64 0, .int .u64 0]) (t := 101) ?hr ?_; (case hd => rfl); (case hg => rfl); (case hr => first | (go_simp; done) | (go_simp; rfl)); intro gb228 hg w7 hbox hb; have n0_ := Aside0.mk (blk_below (g := gb227) (o := .cells #[.int .u64 a0_0, .int .u64 a0_1] 101 (0, 0)) (by (with_reducible repeat (first | refine blk_drewN ?_ _ | refine blk_drew ?_ | refine blk_alloc ?_ _)); exact BK227.out) hb); have n1_ := Aside0.mk (below_step (by repeat (first | (with_reducible first | exact HB.out | apply below_alloc | apply pw_below_drewN | apply below_drew1 | refine below_set ?_ GE227.out) | exact HB.out)) hb); have n2_ := Aside0.mk (hbox); have n3_ := Aside0.mk ((by rw [hg]; exact (below_size (by repeat (first | (with_reducible first | exact HB.out | apply below_alloc | apply pw_below_drewN | apply below_drew1 | refine below_set ?_ GE227.out) | exact HB.out))) : w.heap.size ≤ gb228)); have n4_ := Aside0.mk ((by rw [hg]; exact (below_size (by repeat (first | (with_reducible first | exact HB.out | apply below_alloc | apply pw_below_drewN | apply below_drew1 | refine below_set ?_ GE227.out) | exact HB.out))) : w.heap.size ≤ gb228)); have n5_ := Aside0.mk ((by rw [hg]; exact Nat.ne_of_lt (blk_lt (g := gb227) (o := .cells #[.int .u64 a0_0, .int .u64 a0_1] 101 (0, 0)) (by (with_reducible repeat (first | refine blk_drewN ?_ _ | refine blk_drew ?_ | refine blk_alloc ?_ _)); exact BK227.out)) : gb227 ≠ gb228)); have n6_ := Aside0.mk ((by rw [hg]; exact Nat.ne_of_gt (blk_lt (g := gb227) (o := .cells #[.int .u64 a0_0, .int .u64 a0_1] 101 (0, 0)) (by (with_reducible repeat (first | refine blk_drewN ?_ _ | refine blk_drew ?_ | refine blk_alloc ?_ _)); exact BK227.out)) : gb228 ≠ gb227)); clear BK227; clear HB; have BK227 := n0_; have HB := n1_; have BK228 := n2_; have GW228 := n3_; have GE228 := n4_; have NB227_228 := n5_; have NB228_227 := n6_; clear n0_ n1_ n2_ n3_ n4_ n5_ n6_; clear hb hbox hg))); have n0_ := Aside0.mk (blk_drew BK227.out); have n1_ := Aside0.mk (blk_drew BK228.out); have n2_ := Aside0.mk (below_drew1 HB.out); clear BK227; clear BK228; clear HB; have BK227 := n0_; have BK228 := n1_; have HB := n2_; clear n0_ n1_ n2_; refine start_ (n := 7) (S := fun w' => w'.cell? ⟨gb227, 0, none⟩ = some (.int .u64 a0_0) ∧ w'.cell? ⟨gb227, 1, none⟩ = some (.int .u64 a0_1)) (ds := []) #[false, false, false, false, false, false, false] (by kernel_rfl) rfl rfl ⟨(blk_cell BK227.out 0).trans rfl, (blk_cell BK227.out 1).trans rfl⟩ (fun hHeld => ?_); generalize w7.drew = w8 at BK227 BK228 HB hHeld ⊢; refine pure_ (i := 0) (N := some 9) (v := ?_) (a' := ?_) #[true, false, false, false, false, false, false] rfl rfl (by kernel_rfl) (fun _ _ _ h => h) (Or.inl ⟨by rfl, ?_⟩) ?_ ?_; rotate_left; (· intro w'; go_simp; (with_reducible rfl)); rotate_left; (· simp only [Act.put, List.setIfInBounds_toArray, List.set_cons_zero, List.set_cons_succ, i64_w, i32_w]; rfl); refine pure_ (i := 3) (N := some 12) (v := ?_) (a' := ?_) #[true, false, false, true, false, false, false] rfl rfl (by kernel_rfl) (fun _ _ _ h => h) (Or.inl ⟨by rfl, ?_⟩) ?_ ?_; rotate_left; (· intro w'; go_simp; (with_reducible rfl)); rotate_left; (· simp only [Act.put, List.setIfInBounds_toArray, List.set_cons_zero, List.set_cons_succ, i64_w, i32_w]; rfl); refine take_ (i := 1) (N := some 10) (v := ?_) (a' := ?_) #[true, true, false, true, false, false, false] rfl rfl (by kernel_rfl) (fun _ _ _ h => h) (Or.inl ⟨by rfl, ?_⟩) hHeld ?_ ?_; rotate_left; (· rintro w' ⟨s0, s1⟩; go_simp; (with_reducible rfl)); rotate_left; (· simp only [Act.put, List.setIfInBounds_toArray, List.set_cons_zero, List.set_cons_succ, i64_w, i32_w]; rfl); refine take_ (i := 2) (N := some 11) (v := ?_) (a' := ?_) #[true, true, true, true, false, false, false] rfl rfl (by kernel_rfl) (fun _ _ _ h => h) (Or.inl ⟨by rfl, ?_⟩) hHeld ?_ ?_; rotate_left; (· rintro w' ⟨s0, s1⟩; go_simp; (with_reducible rfl)); rotate_left; (· simp only [Act.put, List.setIfInBounds_toArray, List.set_cons_zero, List.set_cons_succ, i64_w, i32_w]; rfl); refine one_ (i := 4) (N := some 13) #[true, true, true, true, true, false, false] rfl rfl (by kernel_rfl) (by decide) (fun K hK => ?_); refine goes_ Try.func78 (by kernel_rfl) rfl #[.agg #[.int .u64 a0_0, .int .u64 a0_1], .int .i64 a1] (by rfl) rfl rfl (by (try simp only [List.map_toArray, List.map_cons, List.map_nil]); first | done | rfl | (simp only [List.length_drop, List.length_take]; rfl)) ?_; (with_reducible refine (incunableref02_Interval_Mid.calls a0_0 a0_1 a1 t229 _ A5.out).mono ?_); rintro e w9 ⟨rfl, hb⟩; refine ⟨_, rfl, ?_⟩; have n0_ := Aside0.mk (blk_below (g := gb227) (o := .cells #[.int .u64 a0_0, .int .u64 a0_1] 101 (0, 0)) (by (with_reducible repeat (first | refine blk_drewN ?_ _ | refine blk_drew ?_ | refine blk_alloc ?_ _)); exact BK227.out) hb); have n1_ := Aside0.mk (blk_below (g := gb228) (o := .cells #[.int .u64 0, .int .u64 0] 101 (0, 0)) (by (with_reducible repeat (first | refine blk_drewN ?_ _ | refine blk_drew ?_ | refine blk_alloc ?_ _)); exact BK228.out) hb); have n2_ := Aside0.mk (below_step (by repeat (first | (with_reducible first | exact HB.out | apply below_alloc | apply pw_below_drewN | apply below_drew1 | refine below_set ?_ GE227.out | refine below_set ?_ GE228.out) | exact HB.out)) hb); clear BK227; clear BK228; clear HB; have BK227 := n0_; have BK228 := n1_; have HB := n2_; clear n0_ n1_ n2_; (try clear hb); (try clear hb2); (try clear hk); (try clear hi); refine hK.out _ _ ⟨(blk_cell BK227.out 0).trans rfl, (blk_cell BK227.out 1).trans rfl⟩ (fun hHeld => ?_); clear hK K; refine norm_ (a' := ?_) ?_ ?_; rotate_left; (· show Act.put _ (some 13) _ = _; simp only [Act.put, List.setIfInBounds_toArray, List.set_cons_zero, List.set_cons_succ, i64_w, i32_w]; rfl); refine pure_ (i := 5) (N := some 14) (v := ?_) (a' := ?_) #[true, true, true, true, true, true, false] rfl rfl (by kernel_rfl) (fun _ _ _ h => h) (Or.inl ⟨by rfl, ?_⟩) ?_ ?_; rotate_left; (· intro w'; go_simp; (with_reducible rfl)); rotate_left; (· simp only [Act.put, List.setIfInBounds_toArray, List.set_cons_zero, List.set_cons_succ, i64_w, i32_w]; rfl); refine one_ (i := 6) (N := none) #[true, true, true, true, true, true, true] rfl rfl (by kernel_rfl) (by decide) (fun K hK => ?_); have hs10 : w9.cell? ⟨gb228, 0, none⟩ = some (.int .u64 0) := (blk_cell BK228.out 0).trans rfl; have hfs10 := blk_frozen BK228.out 0; have hns10_0 := NB227_228.out; have hms10_0 := NB228_227.out; have hs11 : w9.cell? ⟨gb228, 1, none⟩ = some (.int .u64 0) := (blk_cell BK228.out 1).trans rfl; have hfs11 := blk_frozen BK228.out 1; have hns11_0 := NB227_228.out; have hms11_0 := NB228_227.out; refine skip_ (w1 := ?_) (by rfl) rfl ?_ ?_; rotate_left; (· go_simp; rfl); refine hK.out _ _ ⟨((cell_far (p := ⟨gb228, _, none⟩) NB227_228.out _).trans (((cell_far (p := ⟨gb228, _, none⟩) NB227_228.out _).trans (hHeld.1)))), ((cell_far (p := ⟨gb228, _, none⟩) NB227_228.out _).trans (((cell_far (p := ⟨gb228, _, none⟩) NB227_228.out _).trans (hHeld.2))))⟩ (fun hHeld => ?_); clear hK K; refine done_ (by kernel_rfl) ?_; (try go_wp2); refine bodyPost_ret (results_cell_row rfl _ _ gb228 101 #[.int .u64 a0_0, .int .u64 t229] (0, 0) _ rfl (by (with_reducible repeat (first | refine blk_drewN ?_ _ | refine blk_drew ?_ | refine blk_alloc ?_ _)); refine blk_put (cs := #[.int .u64 a0_0, .int .u64 0]) ?_ 1 _ rfl; (with_reducible repeat (first | refine blk_drewN ?_ _ | refine blk_drew ?_ | refine blk_alloc ?_ _)); refine blk_put (cs := #[.int .u64 0, .int .u64 0]) ?_ 0 _ rfl; (with_reducible repeat (first | refine blk_drewN ?_ _ | refine blk_drew ?_ | refine blk_alloc ?_ _)); exact BK228.out) Try.underlying101 rfl (by kernel_rfl)) rfl ?_; (exact ⟨by first | rfl | (simp [errW_none, errW_some] <;> rfl) | (simp [*, errW_none, errW_some] <;> rfl), by repeat (first | (with_reducible first | exact HB.out | apply below_alloc | apply pw_below_drewN | apply below_drew1 | refine below_set ?_ GE227.out | refine below_set ?_ GE228.out) | exact HB.out)⟩))
 (· rw [if_neg c4] at H; have c4b0 : (a2 == 1) = false := beq_eq_false_iff_ne.mpr c4; have c4b1 : (a2 != 1) = true := bne_iff_ne.mpr c4; replace H := Option.bind_eq_some_iff.mp H; obtain ⟨t230, A120, H⟩ := H; replace H : (some (IntKind.u64.wrap (t230 + 1), a0_1)) = some (r1, r2) := H; have A12 := Aside0.mk A120; clear A120; simp only [Option.some.injEq, Prod.mk.injEq] at H; obtain ⟨rfl, rfl⟩ := H; go_enter Try.func79, Try.ntmps79; (try go_wp2_with (first | ((with_reducible refine gate_dst (N := 3) rfl ?_); refine box_event ?hg (N := 3) ?hd (cs := #[.int .u64 a0_0, .int .u64 a0_1]) (t := 101) ?hr ?_; (case hd => rfl); (case hg => rfl); (case hr => first | (go_simp; done) | (go_simp; rfl)); intro gb227 hg w13 hbox hb; have n0_ := Aside0.mk (below_step (by repeat (first | (with_reducible first | exact HB.out | apply below_alloc | apply pw_below_drewN | apply below_drew1) | exact HB.out)) hb); have n1_ := Aside0.mk (hbox); have n2_ := Aside0.mk ((by rw [hg]; exact (below_size (by repeat (first | (with_reducible first | exact HB.out | apply below_alloc | apply pw_below_drewN | apply below_drew1) | exact HB.out))) : w.heap.size ≤ gb227)); have n3_ := Aside0.mk ((by rw [hg]; exact (below_size (by repeat (first | (with_reducible first | exact HB.out | apply below_alloc | apply pw_below_drewN | apply below_drew1) | exact HB.out))) : w.heap.size ≤ gb227)); clear HB; have HB := n0_; have BK227 := n1_; have GW227 := n2_; have GE227 := n3_; clear n0_ n1_ n2_ n3_; clear hb hbox hg) | ((with_reducible refine gate_dst (N := 6) rfl ?_); refine box_event ?hg (N := 6) ?hd (cs := #[.int .u64 0, .int .u64 0]) (t := 101) ?hr ?_; (case hd => rfl); (case hg => rfl); (case hr => first | (go_simp; done) | (go_simp; rfl)); intro gb228 hg w14 hbox hb; have n0_ := Aside0.mk (blk_below (g := gb227) (o := .cells #[.int .u64 a0_0, .int .u64 a0_1] 101 (0, 0)) (by (with_reducible repeat (first | refine blk_drewN ?_ _ | refine blk_drew ?_ | refine blk_alloc ?_ _)); exact BK227.out) hb); have n1_ := Aside0.mk (below_step (by repeat (first | (with_reducible first | exact HB.out | apply below_alloc | apply pw_below_drewN | apply below_drew1 | refine below_set ?_ GE227.out) | exact HB.out)) hb); have n2_ := Aside0.mk (hbox); have n3_ := Aside0.mk ((by rw [hg]; exact (below_size (by repeat (first | (with_reducible first | exact HB.out | apply below_alloc | apply pw_below_drewN | apply below_drew1 | refine below_set ?_ GE227.out) | exact HB.out))) : w.heap.size ≤ gb228)); have n4_ := Aside0.mk ((by rw [hg]; exact (below_size (by repeat (first | (with_reducible first | exact HB.out | apply below_alloc | apply pw_below_drewN | apply below_drew1 | refine below_set ?_ GE227.out) | exact HB.out))) : w.heap.size ≤ gb228)); have n5_ := Aside0.mk ((by rw [hg]; exact Nat.ne_of_lt (blk_lt (g := gb227) (o := .cells #[.int .u64 a0_0, .int .u64 a0_1] 101 (0, 0)) (by (with_reducible repeat (first | refine blk_drewN ?_ _ | refine blk_drew ?_ | refine blk_alloc ?_ _)); exact BK227.out)) : gb227 ≠ gb228)); have n6_ := Aside0.mk ((by rw [hg]; exact Nat.ne_of_gt (blk_lt (g := gb227) (o := .cells #[.int .u64 a0_0, .int .u64 a0_1] 101 (0, 0)) (by (with_reducible repeat (first | refine blk_drewN ?_ _ | refine blk_drew ?_ | refine blk_alloc ?_ _)); exact BK227.out)) : gb228 ≠ gb227)); clear BK227; clear HB; have BK227 := n0_; have HB := n1_; have BK228 := n2_; have GW228 := n3_; have GE228 := n4_; have NB227_228 := n5_; have NB228_227 := n6_; clear n0_ n1_ n2_ n3_ n4_ n5_ n6_; clear hb hbox hg))); have n0_ := Aside0.mk (blk_drew BK227.out); have n1_ := Aside0.mk (blk_drew BK228.out); have n2_ := Aside0.mk (below_drew1 HB.out); clear BK227; clear BK228; clear HB; have BK227 := n0_; have BK228 := n1_; have HB := n2_; clear n0_ n1_ n2_; refine start_ (n := 8) (S := fun w' => w'.cell? ⟨gb227, 0, none⟩ = some (.int .u64 a0_0) ∧ w'.cell? ⟨gb227, 1, none⟩ = some (.int .u64 a0_1)) (ds := []) #[false, false, false, false, false, false, false, false] (by kernel_rfl) rfl rfl ⟨(blk_cell BK227.out 0).trans rfl, (blk_cell BK227.out 1).trans rfl⟩ (fun hHeld => ?_); refine with_tabW incunableref02_Interval_Part.tab3 incunableref02_Interval_Part.bits3 (fun HT_ HW_ => ?_); generalize w14.drew = w15 at BK227 BK228 HB hHeld ⊢; refine pure_ (i := 1) (N := some 16) (v := ?_) (a' := ?_) #[false, true, false, false, false, false, false, false] rfl rfl (any_of HT_.out (by kernel_rfl)) (fun _ _ _ h => h) (Or.inl ⟨by rfl, ?_⟩) ?_ ?_; rotate_left; (· intro w'; go_simp; (with_reducible rfl)); rotate_left; (· simp only [Act.put, List.setIfInBounds_toArray, List.set_cons_zero, List.set_cons_succ, i64_w, i32_w]; rfl); refine pure_ (i := 4) (N := some 19) (v := ?_) (a' := ?_) #[false, true, false, false, true, false, false, false] rfl rfl (any_of HT_.out (by kernel_rfl)) (fun _ _ _ h => h) (Or.inl ⟨by rfl, ?_⟩) ?_ ?_; rotate_left; (· intro w'; go_simp; (with_reducible rfl)); rotate_left; (· simp only [Act.put, List.setIfInBounds_toArray, List.set_cons_zero, List.set_cons_succ, i64_w, i32_w]; rfl); refine take_ (i := 0) (N := some 15) (v := ?_) (a' := ?_) #[true, true, false, false, true, false, false, false] rfl rfl (take_ofW HT_.out HW_.out (by kernel_rfl)) (fun _ _ _ h => h) (Or.inl ⟨by rfl, ?_⟩) hHeld ?_ ?_; rotate_left; (· rintro w' ⟨s0, s1⟩; go_simp; (with_reducible rfl)); rotate_left; (· simp only [Act.put, List.setIfInBounds_toArray, List.set_cons_zero, List.set_cons_succ, i64_w, i32_w]; rfl); refine take_ (i := 5) (N := some 20) (v := ?_) (a' := ?_) #[true, true, false, false, true, true, false, false] rfl rfl (take_ofW HT_.out HW_.out (by kernel_rfl)) (fun _ _ _ h => h) (Or.inl ⟨by rfl, ?_⟩) hHeld ?_ ?_; rotate_left; (· rintro w' ⟨s0, s1⟩; go_simp; (with_reducible rfl)); rotate_left; (· simp only [Act.put, List.setIfInBounds_toArray, List.set_cons_zero, List.set_cons_succ, i64_w, i32_w]; rfl); refine one_ (i := 2) (N := some 17) #[true, true, true, false, true, true, false, false] rfl rfl (one_of HT_.out (by kernel_rfl)) (by decide) (fun K hK => ?_); refine goes_ Try.func78 (by kernel_rfl) rfl #[.agg #[.int .u64 a0_0, .int .u64 a0_1], .int .i64 a1] (by rfl) rfl rfl (by (try simp only [List.map_toArray, List.map_cons, List.map_nil]); first | done | rfl | (simp only [List.length_drop, List.length_take]; rfl)) ?_; (with_reducible refine (incunableref02_Interval_Mid.calls a0_0 a0_1 a1 t230 _ A12.out).mono ?_); rintro e w16 ⟨rfl, hb⟩; refine ⟨_, rfl, ?_⟩; have n0_ := Aside0.mk (blk_below (g := gb227) (o := .cells #[.int .u64 a0_0, .int .u64 a0_1] 101 (0, 0)) (by (with_reducible repeat (first | refine blk_drewN ?_ _ | refine blk_drew ?_ | refine blk_alloc ?_ _)); exact BK227.out) hb); have n1_ := Aside0.mk (blk_below (g := gb228) (o := .cells #[.int .u64 0, .int .u64 0] 101 (0, 0)) (by (with_reducible repeat (first | refine blk_drewN ?_ _ | refine blk_drew ?_ | refine blk_alloc ?_ _)); exact BK228.out) hb); have n2_ := Aside0.mk (below_step (by repeat (first | (with_reducible first | exact HB.out | apply below_alloc | apply pw_below_drewN | apply below_drew1 | refine below_set ?_ GE227.out | refine below_set ?_ GE228.out) | exact HB.out)) hb); clear BK227; clear BK228; clear HB; have BK227 := n0_; have BK228 := n1_; have HB := n2_; clear n0_ n1_ n2_; (try clear hb); (try clear hb2); (try clear hk); (try clear hi); refine hK.out _ _ ⟨(blk_cell BK227.out 0).trans rfl, (blk_cell BK227.out 1).trans rfl⟩ (fun hHeld => ?_); clear hK K; refine norm_ (a' := ?_) ?_ ?_; rotate_left; (· show Act.put _ (some 17) _ = _; simp only [Act.put, List.setIfInBounds_toArray, List.set_cons_zero, List.set_cons_succ, i64_w, i32_w]; rfl); refine pure_ (i := 3) (N := some 18) (v := ?_) (a' := ?_) #[true, true, true, true, true, true, false, false] rfl rfl (any_of HT_.out (by kernel_rfl)) (fun _ _ _ h => h) (Or.inl ⟨by rfl, ?_⟩) ?_ ?_; rotate_left; (· intro w'; go_simp; (with_reducible rfl)); rotate_left; (· simp only [Act.put, List.setIfInBounds_toArray, List.set_cons_zero, List.set_cons_succ, i64_w, i32_w]; rfl); refine pure_ (i := 6) (N := some 21) (v := ?_) (a' := ?_) #[true, true, true, true, true, true, true, false] rfl rfl (any_of HT_.out (by kernel_rfl)) (fun _ _ _ h => h) (Or.inl ⟨by rfl, ?_⟩) ?_ ?_; rotate_left; (· intro w'; go_simp; (with_reducible rfl)); rotate_left; (· simp only [Act.put, List.setIfInBounds_toArray, List.set_cons_zero, List.set_cons_succ, i64_w, i32_w]; rfl); refine one_ (i := 7) (N := none) #[true, true, true, true, true, true, true, true] rfl rfl (one_of HT_.out (by kernel_rfl)) (by decide) (fun K hK => ?_); have hs17 : w16.cell? ⟨gb228, 0, none⟩ = some (.int .u64 0) := (blk_cell BK228.out 0).trans rfl; have hfs17 := blk_frozen BK228.out 0; have hns17_0 := NB227_228.out; have hms17_0 := NB228_227.out; have hs18 : w16.cell? ⟨gb228, 1, none⟩ = some (.int .u64 0) := (blk_cell BK228.out 1).trans rfl; have hfs18 := blk_frozen BK228.out 1; have hns18_0 := NB227_228.out; have hms18_0 := NB228_227.out; refine skip_ (w1 := ?_) (by rfl) rfl ?_ ?_; rotate_left; (· go_simp; rfl); refine hK.out _ _ ⟨((cell_far (p := ⟨gb228, _, none⟩) NB227_228.out _).trans (((cell_far (p := ⟨gb228, _, none⟩) NB227_228.out _).trans (hHeld.1)))), ((cell_far (p := ⟨gb228, _, none⟩) NB227_228.out _).trans (((cell_far (p := ⟨gb228, _, none⟩) NB227_228.out _).trans (hHeld.2))))⟩ (fun hHeld => ?_); clear hK K; refine done_ (done_of HT_.out (by kernel_rfl)) ?_; (try go_wp2); refine bodyPost_ret (results_cell_row rfl _ _ gb228 101 #[.int .u64 (IntKind.u64.wrap (t230 + 1)), .int .u64 a0_1] (0, 0) _ rfl (by (with_reducible repeat (first | refine blk_drewN ?_ _ | refine blk_drew ?_ | refine blk_alloc ?_ _)); refine blk_put (cs := #[.int .u64 (IntKind.u64.wrap (t230 + 1)), .int .u64 0]) ?_ 1 _ rfl; (with_reducible repeat (first | refine blk_drewN ?_ _ | refine blk_drew ?_ | refine blk_alloc ?_ _)); refine blk_put (cs := #[.int .u64 0, .int .u64 0]) ?_ 0 _ rfl; (with_reducible repeat (first | refine blk_drewN ?_ _ | refine blk_drew ?_ | refine blk_alloc ?_ _)); exact BK228.out) Try.underlying101 rfl (by kernel_rfl)) rfl ?_; (exact ⟨by first | rfl | (simp [errW_none, errW_some] <;> rfl) | (simp [*, errW_none, errW_some] <;> rfl), by repeat (first | (with_reducible first | exact HB.out | apply below_alloc | apply pw_below_drewN | apply below_drew1 | refine below_set ?_ GE227.out | refine below_set ?_ GE228.out) | exact HB.out)⟩))
end Go.Proofs.Ytlnhahnnjbfjdaa.U
namespace Go.Proofs.Ytlnhahnnjbfjdaa.U
open Go.RowKit Go.Proofs.YtlnhahnnjbfjdaaW.PrintWords Go.Proofs.YtlnhahnnjbfjdaaW.PrintLast Go.Proofs.YtlnhahnnjbfjdaaW.PrintMore
attribute [local go_sem] max2_int min2_int max_two min_two max_three min_three max_four min_four   -- for this text's walks alone
def incunableref02_Interval_Fixed.f (a0_0 : Int) (a0_1 : Int) : Option (Bool) := some ((a0_0 / 16777216) == (a0_1 / 16777216))
set_option maxHeartbeats 8000000 in
set_option maxRecDepth 100000 in
theorem incunableref02_Interval_Fixed.calls (a0_0 : Int) (a0_1 : Int) (r : Bool) (w : World) (h : incunableref02_Interval_Fixed.f a0_0 a0_1 = some r) :
    Calls Try.prog 80 #[.agg #[.int .u64 a0_0, .int .u64 a0_1]] w fun e w' => e = .returned (.bool r) ∧ Below w.heap.size w w' := by
 have hu101 := Try.underlying101; have HB := Aside0.mk (Below.refl w.heap.size w); have H : (some ((a0_0 / 16777216) == (a0_1 / 16777216))) = some r := h; clear h; obtain rfl := Option.some.inj H; go_enter Try.func80, Try.ntmps80
 go_wp2_with (first | ((with_reducible refine gate_dst (N := 1) rfl ?_); refine box_event ?hg (N := 1) ?hd (cs := #[.int .u64 a0_0, .int .u64 a0_1]) (t := 101) ?hr ?_; (case hd => rfl); (case hg => rfl); (case hr => first | (go_simp; done) | (go_simp; rfl)); intro gb231 hg w2 hbox hb; have n0_ := Aside0.mk (below_step (by repeat (first | (with_reducible first | exact HB.out | apply below_alloc | apply pw_below_drewN | apply below_drew1) | exact HB.out)) hb); have n1_ := Aside0.mk (hbox); have n2_ := Aside0.mk ((by rw [hg]; exact (below_size (by repeat (first | (with_reducible first | exact HB.out | apply below_alloc | apply pw_below_drewN | apply below_drew1) | exact HB.out))) : w.heap.size ≤ gb231)); have n3_ := Aside0.mk ((by rw [hg]; exact (below_size (by repeat (first | (with_reducible first | exact HB.out | apply below_alloc | apply pw_below_drewN | apply below_drew1) | exact HB.out))) : w.heap.size ≤ gb231)); clear HB; have HB := n0_; have BK231 := n1_; have GW231 := n2_; have GE231 := n3_; clear n0_ n1_ n2_ n3_; clear hb hbox hg; have hcz3_0 : w2.cell? ⟨gb231, 0, none⟩ = some (.int .u64 a0_0) := (blk_cell BK231.out 0).trans rfl; have hcz3_1 : w2.cell? ⟨gb231, 1, none⟩ = some (.int .u64 a0_1) := (blk_cell BK231.out 1).trans rfl; have hfz3_0 := blk_frozen BK231.out 0; have hfz3_1 := blk_frozen BK231.out 1)); go_ret
 (exact ⟨by first | rfl | (simp [errW_none, errW_some] <;> rfl) | (simp [*, errW_none, errW_some] <;> rfl), by repeat (first | (with_reducible first | exact HB.out | apply below_alloc | apply pw_below_drewN | apply below_drew1 | refine below_set ?_ GE231.out) | exact HB.out)⟩)
end Go.Proofs.Ytlnhahnnjbfjdaa.U
namespace Go.Proofs.Ytlnhahnnjbfjdaa.U
open Go.RowKit Go.Proofs.YtlnhahnnjbfjdaaW.PrintWords Go.Proofs.YtlnhahnnjbfjdaaW.PrintLast Go.Proofs.YtlnhahnnjbfjdaaW.PrintMore
attribute [local go_sem] max2_int min2_int max_two min_two max_three min_three max_four min_four   -- for this text's walks alone
def incunableref02_Interval_Shifted.f (a0_0 : Int) (a0_1 : Int) : Option (Int × Int) := some (IntKind.u64.wrap ((Int.tmod a0_0 16777216) * 256), IntKind.u64.wrap ((IntKind.u64.wrap ((Int.tmod a0_1 16777216) * 256)) + 255))
set_option maxHeartbeats 8000000 in
set_option maxRecDepth 100000 in
theorem incunableref02_Interval_Shifted.calls (a0_0 : Int) (a0_1 : Int) (r1 : Int) (r2 : Int) (w : World) (h : incunableref02_Interval_Shifted.f a0_0 a0_1 = some (r1, r2)) :
    Calls Try.prog 81 #[.agg #[.int .u64 a0_0, .int .u64 a0_1]] w fun e w' => e = .returned (.agg #[.int .u64 r1, .int .u64 r2]) ∧ Below w.heap.size w w' := by
 have hu101 := Try.underlying101; have HB := Aside0.mk (Below.refl w.heap.size w); have H : (some (IntKind.u64.wrap ((Int.tmod a0_0 16777216) * 256), IntKind.u64.wrap ((IntKind.u64.wrap ((Int.tmod a0_1 16777216) * 256)) + 255))) = some (r1, r2) := h; clear h; simp only [Option.some.injEq, Prod.mk.injEq] at H; obtain ⟨rfl, rfl⟩ := H; go_enter Try.func81, Try.ntmps81
 go_wp2_with (first | ((with_reducible refine gate_dst (N := 1) rfl ?_); refine box_event ?hg (N := 1) ?hd (cs := #[.int .u64 a0_0, .int .u64 a0_1]) (t := 101) ?hr ?_; (case hd => rfl); (case hg => rfl); (case hr => first | (go_simp; done) | (go_simp; rfl)); intro gb232 hg w2 hbox hb; have n0_ := Aside0.mk (below_step (by repeat (first | (with_reducible first | exact HB.out | apply below_alloc | apply pw_below_drewN | apply below_drew1) | exact HB.out)) hb); have n1_ := Aside0.mk (hbox); have n2_ := Aside0.mk ((by rw [hg]; exact (below_size (by repeat (first | (with_reducible first | exact HB.out | apply below_alloc | apply pw_below_drewN | apply below_drew1) | exact HB.out))) : w.heap.size ≤ gb232)); have n3_ := Aside0.mk ((by rw [hg]; exact (below_size (by repeat (first | (with_reducible first | exact HB.out | apply below_alloc | apply pw_below_drewN | apply below_drew1) | exact HB.out))) : w.heap.size ≤ gb232)); clear HB; have HB := n0_; have BK232 := n1_; have GW232 := n2_; have GE232 := n3_; clear n0_ n1_ n2_ n3_; clear hb hbox hg) | ((with_reducible refine gate_dst (N := 2) rfl ?_); refine box_event ?hg (N := 2) ?hd (cs := #[.int .u64 0, .int .u64 0]) (t := 101) ?hr ?_; (case hd => rfl); (case hg => rfl); (case hr => first | (go_simp; done) | (go_simp; rfl)); intro gb233 hg w3 hbox hb; have n0_ := Aside0.mk (blk_below (g := gb232) (o := .cells #[.int .u64 a0_0, .int .u64 a0_1] 101 (0, 0)) (by (with_reducible repeat (first | refine blk_drewN ?_ _ | refine blk_drew ?_ | refine blk_alloc ?_ _)); exact BK232.out) hb); have n1_ := Aside0.mk (below_step (by repeat (first | (with_reducible first | exact HB.out | apply below_alloc | apply pw_below_drewN | apply below_drew1 | refine below_set ?_ GE232.out) | exact HB.out)) hb); have n2_ := Aside0.mk (hbox); have n3_ := Aside0.mk ((by rw [hg]; exact (below_size (by repeat (first | (with_reducible first | exact HB.out | apply below_alloc | apply pw_below_drewN | apply below_drew1 | refine below_set ?_ GE232.out) | exact HB.out))) : w.heap.size ≤ gb233)); have n4_ := Aside0.mk ((by rw [hg]; exact (below_size (by repeat (first | (with_reducible first | exact HB.out | apply below_alloc | apply pw_below_drewN | apply below_drew1 | refine below_set ?_ GE232.out) | exact HB.out))) : w.heap.size ≤ gb233)); have n5_ := Aside0.mk ((by rw [hg]; exact Nat.ne_of_lt (blk_lt (g := gb232) (o := .cells #[.int .u64 a0_0, .int .u64 a0_1] 101 (0, 0)) (by (with_reducible repeat (first | refine blk_drewN ?_ _ | refine blk_drew ?_ | refine blk_alloc ?_ _)); exact BK232.out)) : gb232 ≠ gb233)); have n6_ := Aside0.mk ((by rw [hg]; exact Nat.ne_of_gt (blk_lt (g := gb232) (o := .cells #[.int .u64 a0_0, .int .u64 a0_1] 101 (0, 0)) (by (with_reducible repeat (first | refine blk_drewN ?_ _ | refine blk_drew ?_ | refine blk_alloc ?_ _)); exact BK232.out)) : gb233 ≠ gb232)); clear BK232; clear HB; have BK232 := n0_; have HB := n1_; have BK233 := n2_; have GW233 := n3_; have GE233 := n4_; have NB232_233 := n5_; have NB233_232 := n6_; clear n0_ n1_ n2_ n3_ n4_ n5_ n6_; clear hb hbox hg; have hnb4 := NB232_233.out; have hnc4 := NB233_232.out; have hcz5_0 : w3.cell? ⟨gb232, 0, none⟩ = some (.int .u64 a0_0) := (blk_cell BK232.out 0).trans rfl; have hcz5_1 : w3.cell? ⟨gb232, 1, none⟩ = some (.int .u64 a0_1) := (blk_cell BK232.out 1).trans rfl; have hfz5_0 := blk_frozen BK232.out 0; have hfz5_1 := blk_frozen BK232.out 1; have hcz6_0 : w3.cell? ⟨gb233, 0, none⟩ = some (.int .u64 0) := (blk_cell BK233.out 0).trans rfl; have hcz6_1 : w3.cell? ⟨gb233, 1, none⟩ = some (.int .u64 0) := (blk_cell BK233.out 1).trans rfl; have hfz6_0 := blk_frozen BK233.out 0; have hfz6_1 := blk_frozen BK233.out 1))
 refine bodyPost_ret (results_cell_row rfl _ _ gb233 101 #[.int .u64 (IntKind.u64.wrap ((Int.tmod a0_0 16777216) * 256)), .int .u64 (IntKind.u64.wrap ((IntKind.u64.wrap ((Int.tmod a0_1 16777216) * 256)) + 255))] (0, 0) _ rfl (by (with_reducible repeat (first | refine blk_drewN ?_ _ | refine blk_drew ?_ | refine blk_alloc ?_ _)); refine blk_put (cs := #[.int .u64 (IntKind.u64.wrap ((Int.tmod a0_0 16777216) * 256)), .int .u64 0]) ?_ 1 _ rfl; (with_reducible repeat (first | refine blk_drewN ?_ _ | refine blk_drew ?_ | refine blk_alloc ?_ _)); refine blk_put (cs := #[.int .u64 0, .int .u64 0]) ?_ 0 _ rfl; (with_reducible repeat (first | refine blk_drewN ?_ _ | refine blk_drew ?_ | refine blk_alloc ?_ _)); exact BK233.out) Try.underlying101 rfl (by kernel_rfl)) rfl ?_; (exact ⟨by first | rfl | (simp [errW_none, errW_some] <;> rfl) | (simp [*, errW_none, errW_some] <;> rfl), by repeat (first | (with_reducible first | exact HB.out | apply below_alloc | apply pw_below_drewN | apply below_drew1 | refine below_set ?_ GE232.out | refine below_set ?_ GE233.out) | exact HB.out)⟩)
end Go.Proofs.Ytlnhahnnjbfjdaa.U
namespace Go.Proofs.Ytlnhahnnjbfjdaa.U
open Go.RowKit Go.Proofs.YtlnhahnnjbfjdaaW.PrintWords Go.Proofs.YtlnhahnnjbfjdaaW.PrintLast Go.Proofs.YtlnhahnnjbfjdaaW.PrintMore
attribute [local go_sem] max2_int min2_int max_two min_two max_three min_three max_four min_four   -- for this text's walks alone
def incunableref02_Whole.f  : Option (Int × Int) := some (0, 4294967295)
set_option maxHeartbeats 8000000 in
set_option maxRecDepth 100000 in
theorem incunableref02_Whole.calls  (r1 : Int) (r2 : Int) (w : World) (h : incunableref02_Whole.f  = some (r1, r2)) :
    Calls Try.prog 54 #[] w fun e w' => e = .returned (.agg #[.int .u64 r1, .int .u64 r2]) ∧ Below w.heap.size w w' := by
 have hu101 := Try.underlying101; have HB := Aside0.mk (Below.refl w.heap.size w); have H : (some (0, 4294967295)) = some (r1, r2) := h; clear h; simp only [Option.some.injEq, Prod.mk.injEq] at H; obtain ⟨rfl, rfl⟩ := H; go_enter Try.func54, Try.ntmps54
 go_wp2_with (first | ((with_reducible refine gate_dst (N := 0) rfl ?_); refine box_event ?hg (N := 0) ?hd (cs := #[.int .u64 0, .int .u64 0]) (t := 101) ?hr ?_; (case hd => rfl); (case hg => rfl); (case hr => first | (go_simp; done) | (go_simp; rfl)); intro gb217 hg w1 hbox hb; have n0_ := Aside0.mk (below_step (by repeat (first | (with_reducible first | exact HB.out | apply below_alloc | apply pw_below_drewN | apply below_drew1) | exact HB.out)) hb); have n1_ := Aside0.mk (hbox); have n2_ := Aside0.mk ((by rw [hg]; exact (below_size (by repeat (first | (with_reducible first | exact HB.out | apply below_alloc | apply pw_below_drewN | apply below_drew1) | exact HB.out))) : w.heap.size ≤ gb217)); have n3_ := Aside0.mk ((by rw [hg]; exact (below_size (by repeat (first | (with_reducible first | exact HB.out | apply below_alloc | apply pw_below_drewN | apply below_drew1) | exact HB.out))) : w.heap.size ≤ gb217)); clear HB; have HB := n0_; have BK217 := n1_; have GW217 := n2_; have GE217 := n3_; clear n0_ n1_ n2_ n3_; clear hb hbox hg; have hcz2_0 : w1.cell? ⟨gb217, 0, none⟩ = some (.int .u64 0) := (blk_cell BK217.out 0).trans rfl; have hcz2_1 : w1.cell? ⟨gb217, 1, none⟩ = some (.int .u64 0) := (blk_cell BK217.out 1).trans rfl; have hfz2_0 := blk_frozen BK217.out 0; have hfz2_1 := blk_frozen BK217.out 1))
 refine bodyPost_ret (results_cell_row rfl _ _ gb217 101 #[.int .u64 0, .int .u64 4294967295] (0, 0) _ rfl (by (with_reducible repeat (first | refine blk_drewN ?_ _ | refine blk_drew ?_ | refine blk_alloc ?_ _)); refine blk_put (cs := #[.int .u64 0, .int .u64 0]) ?_ 1 _ rfl; (with_reducible repeat (first | refine blk_drewN ?_ _ | refine blk_drew ?_ | refine blk_alloc ?_ _)); refine blk_put (cs := #[.int .u64 0, .int .u64 0]) ?_ 0 _ rfl; (with_reducible repeat (first | refine blk_drewN ?_ _ | refine blk_drew ?_ | refine blk_alloc ?_ _)); exact BK217.out) Try.underlying101 rfl (by kernel_rfl)) rfl ?_; (exact ⟨by first | rfl | (simp [errW_none, errW_some] <;> rfl) | (simp [*, errW_none, errW_some] <;> rfl), by repeat (first | (with_reducible first | exact HB.out | apply below_alloc | apply pw_below_drewN | apply below_drew1 | refine below_set ?_ GE217.out) | exact HB.out)⟩)
end Go.Proofs.Ytlnhahnnjbfjdaa.U
namespace Go.Proofs.Ytlnhahnnjbfjdaa.RefAt
open Go Go.RowKit Go.Proofs.YtlnhahnnjbfjdaaW.PrintWords Go.Proofs.YtlnhahnnjbfjdaaW.PrintLast Go.Proofs.YtlnhahnnjbfjdaaW.PrintMore Go.Proofs.Ytlnhahnnjbfjdaa.Aid Go.Proofs.Ytlnhahnnjbfjdaa.HandAid Go.Proofs.Ytlnhahnnjbfjdaa.Cod1 Go.Proofs.Ytlnhahnnjbfjdaa.Cod2 Go.Proofs.Ytlnhahnnjbfjdaa.Cod3 Go.Proofs.Ytlnhahnnjbfjdaa.Mod Go.Proofs.Ytlnhahnnjbfjdaa.Enc Go.Proofs.Ytlnhahnnjbfjdaa.Mods Go.Proofs.Ytlnhahnnjbfjdaa.EncAt Go.Proofs.Ytlnhahnnjbfjdaa.Put Go.Proofs.Ytlnhahnnjbfjdaa.U
/-- The reference's encoder: its cells. -/
def ref5 (kind : Int) (v : Value) (low high : Int) (o : Value) : Array Value := #[.int .i64 kind, v, .int .u64 low, .int .u64 high, o]
structure RefRow (W : World) (S : Nat → Prop) (g : Nat) (kind : Int) (A : Option Addr) (c : Nat) (st : List Int) (low high : Int) (vo : Value) (out : List Int) : Prop where
  b : W.heap[g]? = some (.cells (ref5 kind (.slice A st.length c) low high vo) 115 (0, 0))
  s : Kd.R (Kd.int .i64) 3 W 0 S (.slice A st.length c) st
  o : Kd.R (Kd.int .u8) 5 W 0 S vo out
  g : S g
section
variable {W W' : World} {S S' : Nat → Prop} {g : Nat} {kind : Int} {A : Option Addr} {c : Nat} {st : List Int} {low high : Int} {vo : Value} {out : List Int}
theorem RefRow.kept (h : RefRow W S g kind A c st low high vo out) (hk : Mods W W' S') (hne : ∀ k, S k → ¬ S' k) : RefRow W' S g kind A c st low high vo out :=
  ⟨blk_kept h.b hk.kept (hne g h.g), Kd.R_kept h.s hk.kept hne, Kd.R_kept h.o hk.kept hne, h.g⟩
theorem RefRow.below (h : RefRow W S g kind A c st low high vo out) (hb : Below W.heap.size W W') : RefRow W' S g kind A c st low high vo out :=
  ⟨blk_below h.b hb, Kd.R_below h.s hb, Kd.R_below h.o hb, h.g⟩
theorem RefRow.drewN (h : RefRow W S g kind A c st low high vo out) (m : Nat) : RefRow (W.drewN m) S g kind A c st low high vo out := h.below (pw_below_drewN (Below.refl _ _) m)
theorem RefRow.drew (h : RefRow W S g kind A c st low high vo out) : RefRow W.drew S g kind A c st low high vo out := h.below (below_drew (Below.refl _ _))
theorem RefRow.mono (h : RefRow W S g kind A c st low high vo out) (hs : ∀ k, S k → S' k) : RefRow W S' g kind A c st low high vo out :=
  ⟨h.b, Kd.R_mono h.s hs, Kd.R_mono h.o hs, hs g h.g⟩
theorem RefRow.bound (h : RefRow W S g kind A c st low high vo out) : RefRow W (fun k => S k ∧ k < W.heap.size) g kind A c st low high vo out :=
  ⟨h.b, Kd.R_mono (Kd.R_bound h.s) (fun _ hk => ⟨hk.1, hk.2.2.1⟩), Kd.R_mono (Kd.R_bound h.o) (fun _ hk => ⟨hk.1, hk.2.2.1⟩), h.g, blk_lt h.b⟩
theorem RefRow.c0 (h : RefRow W S g kind A c st low high vo out) : W.cell? ⟨g, 0, none⟩ = some (.int .i64 kind) := (blk_cell h.b 0).trans rfl
theorem RefRow.c1 (h : RefRow W S g kind A c st low high vo out) : W.cell? ⟨g, 1, none⟩ = some (.slice A st.length c) := (blk_cell h.b 1).trans rfl
theorem RefRow.c2 (h : RefRow W S g kind A c st low high vo out) : W.cell? ⟨g, 2, none⟩ = some (.int .u64 low) := (blk_cell h.b 2).trans rfl
theorem RefRow.c3 (h : RefRow W S g kind A c st low high vo out) : W.cell? ⟨g, 3, none⟩ = some (.int .u64 high) := (blk_cell h.b 3).trans rfl
theorem RefRow.c4 (h : RefRow W S g kind A c st low high vo out) : W.cell? ⟨g, 4, none⟩ = some vo := (blk_cell h.b 4).trans rfl
theorem RefRow.fz (h : RefRow W S g kind A c st low high vo out) (i : Nat) : W.frozen? ⟨g, i, none⟩ = false := blk_frozen h.b i
theorem RefRow.cell (h : RefRow W S g kind A c st low high vo out) {i : Nat} (hi : i < st.length) : ∃ b, A = some ⟨b, 0, none⟩ ∧ W.cell? ⟨b, i, none⟩ = some (.int .i64 (rd st i)) ∧ W.frozen? ⟨b, i, none⟩ = false ∧ b ≠ g := by
  obtain ⟨b, cap, hv, _, _, cells, hc⟩ := Kd.R_form h.s (by omega)
  injection hv with hA _ hcap
  subst hA hcap
  have h1 := Kd.R_cell (0 : Int) h.s (i : Int) (by omega) (by omega)
  have hne : b ≠ g := blk_ne hc h.b (by decide)
  exact ⟨b, rfl, h1.1, h1.2, hne⟩
theorem RefRow.cut (h : RefRow W S g kind A c st low high vo out) (l' h' : Int) : RefRow ((W.setCell ⟨g, 2, none⟩ (.int .u64 l')).setCell ⟨g, 3, none⟩ (.int .u64 h')) S g kind A c st l' h' vo out := by
  have h1 : (W.setCell ⟨g, 2, none⟩ (.int .u64 l')).heap[g]? = some (.cells (ref5 kind (.slice A st.length c) l' high vo) 115 (0, 0)) := blk_put h.b 2 _ rfl
  exact ⟨blk_put h1 3 _ rfl, Kd.R_set (Kd.R_set h.s h.b (by decide) _ _) h1 (by decide) _ _, Kd.R_set (Kd.R_set h.o h.b (by decide) _ _) h1 (by decide) _ _, h.g⟩
theorem RefRow.setst {b : Nat} (h : RefRow W S g kind (some ⟨b, 0, none⟩) c st low high vo out) {i : Nat} (hi : i < st.length) (x : Int) : RefRow (W.setCell ⟨b, i, none⟩ (.int .i64 x)) S g kind (some ⟨b, 0, none⟩) c (st.set i x) low high vo out := by
  obtain ⟨b', hA, _, _, hne⟩ := h.cell hi
  injection hA with hA
  injection hA with hA _ _
  subst hA
  obtain ⟨cells, hty⟩ := Kd.R_typed h.s b (by simp [Value.ownBlock])
  have hp := (Kd.R_put (enc := Value.int .i64) h.s (i : Int) x).1
  rw [Int.toNat_natCast] at hp
  have hl : (st.set i x).length = st.length := List.length_set
  refine ⟨?_, ?_, Kd.R_set h.o hty (by decide) _ _, h.g⟩
  · rw [hl]
    exact blk_far h.b (Ne.symm hne) _
  · rw [hl]
    exact hp
theorem RefRow.grew {v1 : Value} {out1 : List Int} (h : RefRow W S g kind A c st low high vo out) (hg : W.grownBy W' vo.ownBlock) (hR : Kd.R (Kd.int .u8) 5 W' 0 S v1 out1) : RefRow (W'.setCell ⟨g, 4, none⟩ v1) S g kind A c st low high v1 out1 := by
  have hb : W'.heap[g]? = some (.cells (ref5 kind (.slice A st.length c) low high vo) 115 (0, 0)) := blk_grown h.b hg (Kd.R_ne h.o h.b (by decide))
  have hs := Kd.R_over h.s h.o (by decide) hg
  exact ⟨blk_put hb 4 _ rfl, Kd.R_set hs hb (by decide) _ _, Kd.R_set hR hb (by decide) _ _, h.g⟩
end
def RefAt (W : World) (S : Nat → Prop) (g : Nat) (s : ES) : Prop := ∃ A c vo, RefRow W S g s.kind A c s.st s.low s.high vo s.out
theorem RefAt.kept {W W' : World} {S S' : Nat → Prop} {g : Nat} {s : ES} (h : RefAt W S g s) (hk : Mods W W' S') (hne : ∀ k, S k → ¬ S' k) : RefAt W' S g s := by
  obtain ⟨A, c, vo, h⟩ := h
  exact ⟨A, c, vo, h.kept hk hne⟩
theorem RefAt.below {W W' : World} {S : Nat → Prop} {g : Nat} {s : ES} (h : RefAt W S g s) (hb : Below W.heap.size W W') : RefAt W' S g s := by
  obtain ⟨A, c, vo, h⟩ := h
  exact ⟨A, c, vo, h.below hb⟩
theorem RefAt.mono {W : World} {S S' : Nat → Prop} {g : Nat} {s : ES} (h : RefAt W S g s) (hs : ∀ k, S k → S' k) : RefAt W S' g s := by
  obtain ⟨A, c, vo, h⟩ := h
  exact ⟨A, c, vo, h.mono hs⟩
theorem RefAt.bound {W : World} {S : Nat → Prop} {g : Nat} {s : ES} (h : RefAt W S g s) : RefAt W (fun k => S k ∧ k < W.heap.size) g s := by
  obtain ⟨A, c, vo, h⟩ := h
  exact ⟨A, c, vo, h.bound⟩
theorem u64_id {x : Int} (h : 0 ≤ x) (h' : x < 18446744073709551616) : IntKind.u64.wrap x = x := wraps_u64 x h (by omega)
theorem mid_eq (low high p : Int) (h0 : 0 ≤ low) (h1 : low ≤ high) (h2 : high ≤ 4294967295) (h3 : 1 ≤ p) (h4 : p ≤ 4095) : incunableref02_Interval_Mid.f low high p = some (midOf low high p) := by
  have ha : (high - low) / 4096 * p ≤ (high - low) / 4096 * 4095 := Int.mul_le_mul_of_nonneg_left (by omega) (by omega)
  have hb : (high - low) % 4096 * p ≤ (high - low) % 4096 * 4095 := Int.mul_le_mul_of_nonneg_left (by omega) (by omega)
  have hc : 0 ≤ (high - low) / 4096 * p := Int.mul_nonneg (by omega) (by omega)
  have hd : 0 ≤ (high - low) % 4096 * p := Int.mul_nonneg (by omega) (by omega)
  unfold incunableref02_Interval_Mid.f midOf
  rw [u64_id (x := high - low) (by omega) (by omega), Int.tdiv_eq_ediv_of_nonneg (by omega), Int.tmod_eq_emod_of_nonneg (by omega), u64_id (x := p) (by omega) (by omega), u64_id (x := (high - low) / 4096) (by omega) (by omega), u64_id (x := (high - low) / 4096 * p) hc (by omega), u64_id (x := (high - low) % 4096 * p) hd (by omega), Int.tdiv_eq_ediv_of_nonneg hd, u64_id (x := (high - low) % 4096 * p / 4096) (by omega) (by omega), u64_id (x := low + (high - low) / 4096 * p) (by omega) (by omega), u64_id (by omega) (by omega)]
theorem part_eq (low high p bit : Int) (h0 : 0 ≤ low) (h1 : low ≤ high) (h2 : high ≤ 4294967295) (h3 : 1 ≤ p) (h4 : p ≤ 4095) : incunableref02_Interval_Part.f low high p bit = some (cutL low (midOf low high p) bit, cutH high (midOf low high p) bit) := by
  have hm := mid_range low high p h1 h3 h4
  unfold incunableref02_Interval_Part.f cutL cutH
  rw [mid_eq low high p h0 h1 h2 h3 h4]
  simp only [Option.bind_some]
  by_cases c : bit = 1
  · rw [if_pos c, if_pos c, if_pos c]
  · rw [if_neg c, if_neg c, if_neg c, u64_id (by omega) (by omega)]
theorem part_calls (low high p bit : Int) (w : World) (h0 : 0 ≤ low) (h1 : low ≤ high) (h2 : high ≤ 4294967295) (h3 : 1 ≤ p) (h4 : p ≤ 4095) : Calls Try.prog 79 #[.agg #[.int .u64 low, .int .u64 high], .int .i64 p, .int .i64 bit] w fun e w' => e = .returned (.agg #[.int .u64 (cutL low (midOf low high p) bit), .int .u64 (cutH high (midOf low high p) bit)]) ∧ Below w.heap.size w w' :=
  incunableref02_Interval_Part.calls low high p bit _ _ w (part_eq low high p bit h0 h1 h2 h3 h4)
theorem fixed_calls (low high : Int) (w : World) : Calls Try.prog 80 #[.agg #[.int .u64 low, .int .u64 high]] w fun e w' => e = .returned (.bool (decide (low / 16777216 = high / 16777216))) ∧ Below w.heap.size w w' :=
  incunableref02_Interval_Fixed.calls low high _ w rfl
theorem shift_calls (low high : Int) (w : World) (h0 : 0 ≤ low) (h1 : low ≤ 4294967295) (h2 : 0 ≤ high) (h3 : high ≤ 4294967295) : Calls Try.prog 81 #[.agg #[.int .u64 low, .int .u64 high]] w fun e w' => e = .returned (.agg #[.int .u64 (low % 16777216 * 256), .int .u64 (high % 16777216 * 256 + 255)]) ∧ Below w.heap.size w w' :=
  incunableref02_Interval_Shifted.calls low high _ _ w (by
    unfold incunableref02_Interval_Shifted.f
    rw [Int.tmod_eq_emod_of_nonneg h0, Int.tmod_eq_emod_of_nonneg h2, u64_id (x := low % 16777216 * 256) (by omega) (by omega), u64_id (x := high % 16777216 * 256) (by omega) (by omega), u64_id (by omega) (by omega)])
theorem likelyB (kind s : Int) (w : World) (hs : okState kind s) : Calls Try.prog 77 #[.int .i64 kind, .int .i64 s] w fun e w' => e = .returned (.int .i64 (likely kind s)) ∧ Below w.heap.size w w' :=
  (ref_likely kind s w hs).mono (fun e w' h => ⟨h.1, h.2 ▸ Below.refl _ _⟩)
end Go.Proofs.Ytlnhahnnjbfjdaa.RefAt
namespace Go.Proofs.Ytlnhahnnjbfjdaa.Pse
open Go Go.RowKit Go.Proofs.YtlnhahnnjbfjdaaW.PrintWords Go.Proofs.YtlnhahnnjbfjdaaW.PrintLast Go.Proofs.YtlnhahnnjbfjdaaW.PrintMore Go.Proofs.Ytlnhahnnjbfjdaa.U Go.Proofs.Ytlnhahnnjbfjdaa.Aid Go.Proofs.Ytlnhahnnjbfjdaa.HandAid Go.Proofs.Ytlnhahnnjbfjdaa.Cod1 Go.Proofs.Ytlnhahnnjbfjdaa.Cod2 Go.Proofs.Ytlnhahnnjbfjdaa.Cod3 Go.Proofs.Ytlnhahnnjbfjdaa.Mod Go.Proofs.Ytlnhahnnjbfjdaa.Enc Go.Proofs.Ytlnhahnnjbfjdaa.Mods Go.Proofs.Ytlnhahnnjbfjdaa.EncAt Go.Proofs.Ytlnhahnnjbfjdaa.Put Go.Proofs.Ytlnhahnnjbfjdaa.End Go.Proofs.Ytlnhahnnjbfjdaa.Snc
/-- Events are put as far as they go well. -/
def putsE : ES → List S87 → ES × Int
  | s, [] => (s, 0)
  | s, x :: l => if s.err x.f0 x.f1 = 0 then putsE (s.putI x.f0 x.f1) l else (s, s.err x.f0 x.f1)
theorem putsE_out : ∀ (l : List S87) (s : ES), (putsE s l).1.out.length ≤ s.out.length + 4 * l.length
  | [], s => by simp [putsE]
  | x :: l, s => by
    unfold putsE
    split
    · have h1 := putsE_out l (s.putI x.f0 x.f1)
      have h2 := (ES.putI_len s x.f0 x.f1).1
      simp only [List.length_cons]
      omega
    · simp
theorem putsE_ok : ∀ (l : List S87) (s : ES), s.ok → (putsE s l).1.ok
  | [], s, h => h
  | x :: l, s, h => by
    unfold putsE
    split
    · exact putsE_ok l _ (ES.putI_ok h _ _)
    · exact h
theorem drop_rdE {l : List S87} {i : Nat} (h : i < l.length) : l.drop i = rd_T87 l (i : Int) :: l.drop (i + 1) := by
  rw [List.drop_eq_getElem_cons h]
  simp [rd_T87, List.getD_eq_getElem?_getD, List.getElem?_eq_getElem h]
theorem putsE_step {l : List S87} {i : Nat} (h : i < l.length) (s : ES) : putsE s (l.drop i) = if s.err (rd_T87 l i).f0 (rd_T87 l i).f1 = 0 then putsE (s.putI (rd_T87 l i).f0 (rd_T87 l i).f1) (l.drop (i + 1)) else (s, s.err (rd_T87 l i).f0 (rd_T87 l i).f1) := by
  rw [drop_rdE h]
  rfl
/-- An event that n contexts take. -/
def goodL (n : Nat) (x : S87) : Bool := decide (0 ≤ x.f0) && decide (x.f0 < n) && (decide (x.f1 = 0) || decide (x.f1 = 1))
theorem putsE_err : ∀ (l : List S87) (s : ES), (putsE s l).2 = if l.all (goodL s.st.length) = true then 0 else 2
  | [], s => rfl
  | x :: l, s => by
    unfold putsE
    rw [List.all_cons]
    by_cases c : goodL s.st.length x = true
    · rw [if_pos (show s.err x.f0 x.f1 = 0 from if_pos c), putsE_err l, (ES.putI_len s x.f0 x.f1).2.2, c, Bool.true_and]
    · have e2 : s.err x.f0 x.f1 = 2 := if_neg c
      rw [if_neg (by rw [e2]; decide), show goodL s.st.length x = false by simpa using c]
      rw [Bool.false_and, if_neg (by decide)]
      exact e2
theorem putsE_app : ∀ (l m : List S87) (s : ES), (putsE s l).2 = 0 → putsE s (l ++ m) = putsE (putsE s l).1 m
  | [], m, s, _ => rfl
  | x :: l, m, s, h => by
    unfold putsE at h
    by_cases c : s.err x.f0 x.f1 = 0
    · rw [if_pos c] at h
      rw [List.cons_append]
      conv => lhs; unfold putsE
      conv => rhs; arg 1; unfold putsE
      rw [if_pos c, if_pos c]
      exact putsE_app l m _ h
    · rw [if_neg c] at h
      exact absurd h c
theorem putsE_len : ∀ (l : List S87) (s : ES), (putsE s l).1.st.length = s.st.length
  | [], s => rfl
  | x :: l, s => by
    unfold putsE
    split
    · rw [putsE_len l]
      exact (ES.putI_len s x.f0 x.f1).2.2
    · rfl
end Go.Proofs.Ytlnhahnnjbfjdaa.Pse
namespace Go.Proofs.Ytlnhahnnjbfjdaa.Npu
open Go Go.RowKit Go.Proofs.YtlnhahnnjbfjdaaW.PrintWords Go.Proofs.YtlnhahnnjbfjdaaW.PrintLast Go.Proofs.YtlnhahnnjbfjdaaW.PrintMore Go.Proofs.Ytlnhahnnjbfjdaa.U Go.Proofs.Ytlnhahnnjbfjdaa.Aid Go.Proofs.Ytlnhahnnjbfjdaa.HandAid Go.Proofs.Ytlnhahnnjbfjdaa.Cod1 Go.Proofs.Ytlnhahnnjbfjdaa.Cod2 Go.Proofs.Ytlnhahnnjbfjdaa.Cod3 Go.Proofs.Ytlnhahnnjbfjdaa.Mod Go.Proofs.Ytlnhahnnjbfjdaa.Enc Go.Proofs.Ytlnhahnnjbfjdaa.Mods Go.Proofs.Ytlnhahnnjbfjdaa.EncAt Go.Proofs.Ytlnhahnnjbfjdaa.Put Go.Proofs.Ytlnhahnnjbfjdaa.End Go.Proofs.Ytlnhahnnjbfjdaa.Snc Go.Proofs.Ytlnhahnnjbfjdaa.Pse
/-- What an encoder's row in memory is kept by. -/
class EnL (At : World → (Nat → Prop) → Nat → ES → Prop) : Prop where
  kept : ∀ {W W' : World} {S S' : Nat → Prop} {g : Nat} {s : ES}, At W S g s → Mods W W' S' → (∀ k, S k → ¬ S' k) → At W' S g s
  below : ∀ {W W' : World} {S : Nat → Prop} {g : Nat} {s : ES}, At W S g s → Below W.heap.size W W' → At W' S g s
  mono : ∀ {W : World} {S S' : Nat → Prop} {g : Nat} {s : ES}, At W S g s → (∀ k, S k → S' k) → At W S' g s
instance : EnL EncAt := ⟨fun h hk hne => EncAt.kept h hk hne, fun h hb => EncAt.below h hb, fun h hs => EncAt.mono h hs⟩
/-- An encoder in a world that came of w by what it did. -/
structure PW (At : World → (Nat → Prop) → Nat → ES → Prop) (w : World) (S : Nat → Prop) (g : Nat) (s : ES) (W : World) : Prop where
  e : At W (fun k => (S k ∨ w.heap.size ≤ k) ∧ k < W.heap.size) g s
  m : Mods w W S
  ok : s.ok
section
variable {At : World → (Nat → Prop) → Nat → ES → Prop} [EnL At] {w W W' : World} {S : Nat → Prop} {g : Nat} {s s' : ES}
theorem PW.start (h : At w S g s) (hS : ∀ k, S k → k < w.heap.size) (hok : s.ok) : PW At w S g s w := ⟨EnL.mono h (fun k hk => ⟨.inl hk, hS k hk⟩), Mods.refl w S, hok⟩
theorem PW.below (H : PW At w S g s W) (hb : Below W.heap.size W W') : PW At w S g s W' := ⟨EnL.mono (EnL.below H.e hb) (fun k hk => ⟨hk.1, Nat.lt_of_lt_of_le hk.2 hb.size⟩), H.m.below hb, H.ok⟩
omit [EnL At] in
theorem PW.next [EnL At] (H : PW At w S g s W) (hE : At W' (fun k => (((S k ∨ w.heap.size ≤ k) ∧ k < W.heap.size) ∨ W.heap.size ≤ k) ∧ k < W'.heap.size) g s') (hM : Mods W W' (fun k => (S k ∨ w.heap.size ≤ k) ∧ k < W.heap.size)) (ok' : s'.ok) : PW At w S g s' W' :=
  ⟨EnL.mono hE (fun k hk => ⟨by rcases hk.1 with h | h; exact h.1; exact .inr (Nat.le_trans H.m.size h), hk.2⟩), H.m.then_ hM (fun k hk => hk.1), ok'⟩
end
theorem PW.put {w W : World} {S : Nat → Prop} {g : Nat} {s : ES} (H : PW EncAt w S g s W) (hlen : s.out.length ≤ 1099511627776) (i bit : Int) :
    Calls Try.prog 63 #[.pointer (some ⟨g, 0, none⟩), .int .i64 i, .int .i64 bit] W fun e W' => e = .returned (.int .i64 (s.err i bit)) ∧ PW EncAt w S g (s.putI i bit) W' := by
  refine (put_calls W _ g s i bit H.e H.ok hlen).mono ?_
  rintro e W' ⟨he, hE, hM⟩
  exact ⟨he, H.next hE hM (ES.putI_ok H.ok _ _)⟩
theorem err_or (s : ES) (i bit : Int) : s.err i bit = 0 ∨ s.err i bit = 2 := by
  unfold ES.err
  split
  · exact .inl rfl
  · exact .inr rfl
set_option maxHeartbeats 2000000 in
set_option maxRecDepth 100000 in
/-- Events are put, as far as they go well. -/
theorem nput_calls (w : World) (S : Nat → Prop) (g : Nat) (s : ES) (A : Option Addr) (c : Nat) (l : List S87) (hE : EncAt w S g s) (hS : ∀ k, S k → k < w.heap.size) (hok : s.ok) (hlen : s.out.length + 4 * l.length ≤ 1099511627776) (hC : ∀ W, Mods w W S → Kd.C k87 W A l.length l) (R : ES × Int) (hR : putsE s l = R) :
    Calls Try.prog 64 #[.pointer (some ⟨g, 0, none⟩), .slice A l.length c] w fun e W => e = .returned (.int .i64 R.2) ∧ PW EncAt w S g R.1 W := by
  have HC := Aside0.mk hC
  have HP := Aside0.mk (PW.start (At := EncAt) hE hS hok)
  have hu2 := Try.underlying87
  have hmax : l.length ≤ 9223372036854775807 := Kd.C_max (hC w (Mods.refl w S))
  clear hC hE hS hok
  go_enter Try.func64, Try.ntmps64
  go_wp2_with (fail)
  go_loopw [10] (fun i wr => ∃ (k : Nat) (s1 : ES), k ≤ l.length ∧ i = .int .i64 k ∧ putsE s1 (l.drop k) = R ∧ s1.out.length ≤ s.out.length + 4 * k ∧ Aside0 (PW EncAt w S g s1 wr)) (fun i _ => l.length - (intOf i).toNat)
  case atStart => exact ⟨0, s, Nat.zero_le _, rfl, hR, by omega, HP⟩
  clear HP
  case round =>
    obtain ⟨k, s1, hk, rfl, hR1, hn, HP⟩ := hrel
    by_cases hlt : k < l.length
    · obtain ⟨ad, hA, hx0, hx1⟩ := at_T87 (HC.out _ HP.out.m) (k : Int) (by omega) (by omega)
      subst hA
      rw [putsE_step hlt] at hR1
      obtain ⟨x, hx⟩ : ∃ x, rd_T87 l (k : Int) = x := ⟨_, rfl⟩
      rw [hx] at hx0 hx1 hR1
      simp only [Int.toNat_natCast] at hx0 hx1
      have hPp := fun W' (hp : PW EncAt w S g s1 W') => hp.put (by omega) x.f0 x.f1
      have hle := (ES.putI_len s1 x.f0 x.f1).1
      have HP2 := Aside0.mk (HP.out.below (below_alloc (Below.refl _ _) (.cells #[.int .i64 x.f0, .int .i64 x.f1] 87)))
      clear hx
      by_cases her : s1.err x.f0 x.f1 = 0
      · rw [if_pos her] at hR1
        rw [her] at hPp
        have HPp := Aside0.mk hPp
        clear hPp her
        go_wp2_with (go_at_call 63; refine (HPp.out _ HP2.out).mono ?_; rintro e w6 ⟨rfl, hP6⟩; have HP6 := Aside0.mk hP6; clear hP6)
        go_roundw
        case rel => exact ⟨k + 1, _, by omega, by go_num, hR1, by omega, HP6⟩
        case measure => simp [intOf]; omega
      · have he2 : s1.err x.f0 x.f1 = 2 := (err_or _ _ _).resolve_left her
        have hpu : s1.putI x.f0 x.f1 = s1 := by
          unfold ES.err at her
          unfold ES.putI
          split
          · rename_i h; rw [if_pos h] at her; exact absurd rfl her
          · rfl
        rw [if_neg her, he2] at hR1
        rw [he2, hpu] at hPp
        have HPp := Aside0.mk hPp
        subst hR1
        clear hPp her he2 hpu
        go_wp2_with (go_at_call 63; refine (HPp.out _ HP2.out).mono ?_; rintro e w6 ⟨rfl, hP6⟩; have HP6 := Aside0.mk hP6; clear hP6)
        go_ret
        exact ⟨rfl, HP6.out⟩
    · rw [List.drop_eq_nil_of_le (by omega)] at hR1
      subst hR1
      go_wp2_with (fail)
      go_ret
      exact ⟨rfl, HP.out⟩
end Go.Proofs.Ytlnhahnnjbfjdaa.Npu
namespace Go.Proofs.Ytlnhahnnjbfjdaa.Nen
open Go Go.RowKit Go.Proofs.YtlnhahnnjbfjdaaW.PrintWords Go.Proofs.YtlnhahnnjbfjdaaW.PrintLast Go.Proofs.YtlnhahnnjbfjdaaW.PrintMore Go.Proofs.Ytlnhahnnjbfjdaa.U Go.Proofs.Ytlnhahnnjbfjdaa.Aid Go.Proofs.Ytlnhahnnjbfjdaa.HandAid Go.Proofs.Ytlnhahnnjbfjdaa.Cod1 Go.Proofs.Ytlnhahnnjbfjdaa.Cod2 Go.Proofs.Ytlnhahnnjbfjdaa.Cod3 Go.Proofs.Ytlnhahnnjbfjdaa.Mod Go.Proofs.Ytlnhahnnjbfjdaa.Enc Go.Proofs.Ytlnhahnnjbfjdaa.Mods Go.Proofs.Ytlnhahnnjbfjdaa.EncAt Go.Proofs.Ytlnhahnnjbfjdaa.Put Go.Proofs.Ytlnhahnnjbfjdaa.End Go.Proofs.Ytlnhahnnjbfjdaa.Snc Go.Proofs.Ytlnhahnnjbfjdaa.Num Go.Proofs.Ytlnhahnnjbfjdaa.Evs Go.Proofs.Ytlnhahnnjbfjdaa.RefEvs Go.Proofs.Ytlnhahnnjbfjdaa.Pse Go.Proofs.Ytlnhahnnjbfjdaa.Npu
theorem ev_bits (base : Int) (nn : Bool) (n : Int) : ∀ x ∈ evAll base nn n, x.f1 = 0 ∨ x.f1 = 1 := by
  unfold evAll
  cases nn
  · intro x hx
    rw [if_neg (by decide)] at hx
    unfold evList evHead evMid evDig evSign at hx
    simp only [List.mem_append, List.mem_cons, List.mem_map, List.mem_range] at hx
    rcases hx with ((( rfl | ⟨i, hi, rfl⟩) | hx) | ⟨i, hi, rfl⟩) | hx
    · exact .inl rfl
    · exact .inr rfl
    · split at hx
      · simp only [List.mem_singleton] at hx; subst hx; exact .inl rfl
      · simp at hx
    · simp only; omega
    · split at hx
      · simp at hx
      · simp only [List.mem_singleton] at hx; subst hx; simp only; split <;> simp
  · intro x hx
    rw [if_pos rfl] at hx
    simp only [List.mem_singleton] at hx
    subst hx; exact .inr rfl
/-- A number's events are good events of a tree that the model has. -/
theorem ev_all_good (base : Int) (nn : Bool) (n : Int) (hok : okNum nn n = true) (N : Nat) (h0 : 0 ≤ base) (h1 : base + 48 ≤ N) : (evAll base nn n).all (goodL N) = true := by
  rw [List.all_eq_true]
  intro x hx
  have hb := ev_bits base nn n x hx
  rw [← evAll_shift] at hx
  obtain ⟨y, hy, e⟩ := List.mem_map.1 hx
  have hc := evAll_ctx nn n hok y hy
  have e0 : y.f0 + base = x.f0 := congrArg (fun z => z.f0) e
  clear e
  unfold goodL
  simp only [Bool.and_eq_true, Bool.or_eq_true, decide_eq_true_eq]
  exact ⟨⟨by omega, by omega⟩, hb⟩
theorem putsE_good (l : List S87) (s : ES) (h : l.all (goodL s.st.length) = true) : (putsE s l).2 = 0 := by
  rw [putsE_err, if_pos h]
section
variable {At : World → (Nat → Prop) → Nat → ES → Prop} [EnL At] {w W4 W5 W6 : World} {S : Nat → Prop} {g : Nat} {s s' : ES}
theorem _root_.Go.Proofs.Ytlnhahnnjbfjdaa.Npu.PW.trans (H : PW At w S g s W4) (hb : Below W4.heap.size W4 W5) (H6 : PW At W5 (fun k => (S k ∨ w.heap.size ≤ k) ∧ k < W4.heap.size) g s' W6) : PW At w S g s' W6 :=
  ⟨EnL.mono H6.e (fun k hk => ⟨by rcases hk.1 with h | h; exact h.1; exact .inr (Nat.le_trans H.m.size (Nat.le_trans hb.size h)), hk.2⟩), (H.m.below hb).then_ H6.m (fun k hk => hk.1), H6.ok⟩
end
end Go.Proofs.Ytlnhahnnjbfjdaa.Nen
namespace Go.Proofs.Ytlnhahnnjbfjdaa.Dec
open Go Go.RowKit Go.Proofs.YtlnhahnnjbfjdaaW.PrintWords Go.Proofs.YtlnhahnnjbfjdaaW.PrintLast Go.Proofs.YtlnhahnnjbfjdaaW.PrintMore Go.Proofs.Ytlnhahnnjbfjdaa.Aid Go.Proofs.Ytlnhahnnjbfjdaa.HandAid Go.Proofs.Ytlnhahnnjbfjdaa.Cod1 Go.Proofs.Ytlnhahnnjbfjdaa.Cod2 Go.Proofs.Ytlnhahnnjbfjdaa.Cod3 Go.Proofs.Ytlnhahnnjbfjdaa.Mod Go.Proofs.Ytlnhahnnjbfjdaa.Enc Go.Proofs.Ytlnhahnnjbfjdaa.Mods Go.Proofs.Ytlnhahnnjbfjdaa.EncAt Go.Proofs.Ytlnhahnnjbfjdaa.Put Go.Proofs.Ytlnhahnnjbfjdaa.End Go.Proofs.Ytlnhahnnjbfjdaa.Snc
theorem u64_orb {x y : Int} (h : 0 ≤ x) (hm : x % 256 = 0) (h' : x < 2 ^ 64) (hy : 0 ≤ y) (hy' : y < 256) : Go.bits .or .u64 x y = x + y := bits_join .u64 64 (by decide) wraps_u64 8 x y h hm h' hy (by omega) (by omega)
/-- A model's copy. -/
def MPost (w : World) (kind : Int) (st : List Int) (e : Ending) (w' : World) : Prop := ∃ A c, e = .returned (.agg #[.int .i64 kind, .slice A st.length c]) ∧ Kd.R (Kd.int .i64) 3 w' w.heap.size (fun _ => True) (.slice A st.length c) st ∧ Below w.heap.size w w'
/-- A decoder's state: how many bytes beyond the code were taken is a's business. -/
structure DS where
  kind : Int
  st : List Int
  low : Int
  high : Int
  code : List Int
  a : Nat
  value : Int
  ended : Bool
/-- A byte of the code, 0 behind its end. -/
def byteOf (code : List Int) (i : Nat) : Int := if i < code.length then rd code i else 0
/-- The value behind n shifts. -/
def shV (code : List Int) : Nat → Int → Nat → Int
  | 0, v, _ => v
  | n + 1, v, a => shV code n (v % 16777216 * 256 + byteOf code a) (a + 1)
structure DS.ok (s : DS) : Prop where
  m : okModel s.kind s.st
  l : 0 ≤ s.low
  lh : s.low ≤ s.high
  h : s.high ≤ 4294967295
  n : s.low / 16777216 ≠ s.high / 16777216
  v0 : 0 ≤ s.value
  v1 : s.value ≤ 4294967295
  by_ : Bytes s.code
  len : s.code.length ≤ 1099511627776
  be : s.a - s.code.length ≤ 4
def DS.mid (s : DS) (i : Nat) : Int := midOf s.low s.high (likely s.kind (rd s.st i))
def DS.bit (s : DS) (i : Nat) : Int := if s.value ≤ s.mid i then 1 else 0
def DS.norm (s : DS) (i : Nat) : List Int × Int × Int := normE 4 (cutL s.low (s.mid i) (s.bit i)) (cutH s.high (s.mid i) (s.bit i))
/-- The state behind a bit that is got. -/
def DS.next (s : DS) (i : Nat) : DS := ⟨s.kind, s.st.set i (after s.kind (rd s.st i) (s.bit i)), (s.norm i).2.1, (s.norm i).2.2, s.code, s.a + (s.norm i).1.length, shV s.code (s.norm i).1.length s.value s.a, false⟩
def DS.dead (s : DS) : DS := { s with ended := true }
/-- Get: the state, the bit, the error. -/
def DS.getI (s : DS) (i : Int) : DS × Int × Int :=
  if 0 ≤ i ∧ i < s.st.length then (if s.ended = true then (s, 0, 6) else if s.a + (s.norm i.toNat).1.length - s.code.length > 4 then (s.dead, 0, 6) else (s.next i.toNat, s.bit i.toNat, 0)) else (s, 0, 2)
theorem byteOf_range {code : List Int} (h : Bytes code) (i : Nat) : 0 ≤ byteOf code i ∧ byteOf code i ≤ 255 := by
  unfold byteOf
  split
  · exact bytes_rd h (by assumption)
  · omega
theorem shV_range {code : List Int} (h : Bytes code) : ∀ (n : Nat) (v : Int) (a : Nat), 0 ≤ v → v ≤ 4294967295 → 0 ≤ shV code n v a ∧ shV code n v a ≤ 4294967295
  | 0, v, a, h0, h1 => ⟨h0, h1⟩
  | n + 1, v, a, h0, h1 => by
    have := byteOf_range h a
    exact shV_range h n _ _ (by omega) (by omega)
theorem shV_succ (code : List Int) : ∀ (n : Nat) (v : Int) (a : Nat), shV code (n + 1) v a = shV code n v a % 16777216 * 256 + byteOf code (a + n)
  | 0, v, a => rfl
  | n + 1, v, a => by
    show shV code (n + 1) (v % 16777216 * 256 + byteOf code a) (a + 1) = _
    rw [shV_succ code n, show a + 1 + n = a + (n + 1) by omega]
    rfl
theorem DS.at_ {s : DS} (h : s.ok) {i : Nat} (hi : i < s.st.length) : okState s.kind (rd s.st i) := h.m.2.2 _ (rd_mem (by omega) (by omega))
theorem DS.mid_ {s : DS} (h : s.ok) {i : Nat} (hi : i < s.st.length) : s.low ≤ s.mid i ∧ s.mid i < s.high := by
  have hr := likely_range _ _ (DS.at_ h hi)
  have hm := mid_range s.low s.high _ h.lh hr.1 hr.2
  have hlt : s.low < s.high := by
    have := h.lh
    rcases Int.lt_or_le s.low s.high with c | c
    · exact c
    · exact absurd (by rw [show s.low = s.high by omega]) h.n
  exact ⟨hm.1, hm.2.1 hlt⟩
theorem DS.cut_ {s : DS} (h : s.ok) {i : Nat} (hi : i < s.st.length) : 0 ≤ cutL s.low (s.mid i) (s.bit i) ∧ cutL s.low (s.mid i) (s.bit i) ≤ cutH s.high (s.mid i) (s.bit i) ∧ cutH s.high (s.mid i) (s.bit i) ≤ 4294967295 := by
  have hm := DS.mid_ h hi
  have := h.l
  have := h.h
  unfold cutL cutH
  split <;> omega
theorem DS.bit_ (s : DS) (i : Nat) : s.bit i = 0 ∨ s.bit i = 1 := by unfold DS.bit; split <;> simp
theorem DS.getI_ok {s : DS} (h : s.ok) (i : Int) : (s.getI i).1.ok := by
  unfold DS.getI
  by_cases c : 0 ≤ i ∧ i < s.st.length
  · rw [if_pos c]
    by_cases e : s.ended = true
    · rw [if_pos e]
      exact h
    rw [if_neg e]
    by_cases b : s.a + (s.norm i.toNat).1.length - s.code.length > 4
    · rw [if_pos b]
      exact ⟨h.m, h.l, h.lh, h.h, h.n, h.v0, h.v1, h.by_, h.len, h.be⟩
    · rw [if_neg b]
      have hi : i.toNat < s.st.length := by omega
      obtain ⟨h0, h1, h2⟩ := DS.cut_ h hi
      have hd := norm_done 4 _ _ h0 h1 h2 (by rw [show (256 : Int) ^ 4 = 4294967296 from rfl]; omega)
      have hv := shV_range h.by_ (s.norm i.toNat).1.length s.value s.a h.v0 h.v1
      refine ⟨⟨h.m.1, ?_, fun x hx => ?_⟩, hd.2.1, hd.2.2.1, hd.2.2.2, hd.1, hv.1, hv.2, h.by_, h.len, by show s.a + (s.norm i.toNat).1.length - s.code.length ≤ 4; omega⟩
      · show (s.st.set _ _).length ≤ 8192
        rw [List.length_set]
        exact h.m.2.1
      · rcases List.mem_or_eq_of_mem_set hx with hx | rfl
        · exact h.m.2.2 x hx
        · exact after_ok _ _ _ (DS.at_ h hi) (DS.bit_ s _)
  · rw [if_neg c]
    exact h
/-- A decoder's cells. -/
def dec42 (kind : Int) (v : Value) (low high : Int) (vc : Value) (a value be : Int) (ended real : Bool) : Array Value := #[.int .i64 kind, v, .int .i64 2048, .int .i64 1792, .int .i64 1568, .int .i64 1372, .int .i64 1201, .int .i64 1051, .int .i64 920, .int .i64 805, .int .i64 705, .int .i64 617, .int .i64 540, .int .i64 473, .int .i64 414, .int .i64 363, .int .i64 318, .int .i64 279, .int .i64 245, .int .i64 215, .int .i64 189, .int .i64 166, .int .i64 146, .int .i64 128, .int .i64 112, .int .i64 98, .int .i64 86, .int .i64 76, .int .i64 67, .int .i64 59, .int .i64 52, .int .i64 46, .int .i64 41, .int .i64 36, .int .u64 low, .int .u64 high, vc, .int .i64 a, .int .u64 value, .int .i64 be, .bool ended, .bool real]
structure DecRow (W : World) (S : Nat → Prop) (g : Nat) (kind : Int) (A : Option Addr) (c : Nat) (st : List Int) (low high : Int) (vc : Value) (code : List Int) (a : Nat) (value : Int) (ended : Bool) : Prop where
  b : W.heap[g]? = some (.cells (dec42 kind (.slice A st.length c) low high vc a value ((a - code.length : Nat) : Int) ended true) 98 (0, 0))
  s : Kd.R (Kd.int .i64) 3 W 0 S (.slice A st.length c) st
  o : Kd.R (Kd.int .u8) 5 W 0 S vc code
  g : S g
section
variable {W W' : World} {S S' : Nat → Prop} {g : Nat} {kind : Int} {A : Option Addr} {c : Nat} {st : List Int} {low high : Int} {vc : Value} {code : List Int} {a : Nat} {value : Int} {ended : Bool}
theorem DecRow.kept (h : DecRow W S g kind A c st low high vc code a value ended) (hk : Mods W W' S') (hne : ∀ k, S k → ¬ S' k) : DecRow W' S g kind A c st low high vc code a value ended :=
  ⟨blk_kept h.b hk.kept (hne g h.g), Kd.R_kept h.s hk.kept hne, Kd.R_kept h.o hk.kept hne, h.g⟩
theorem DecRow.below (h : DecRow W S g kind A c st low high vc code a value ended) (hb : Below W.heap.size W W') : DecRow W' S g kind A c st low high vc code a value ended :=
  ⟨blk_below h.b hb, Kd.R_below h.s hb, Kd.R_below h.o hb, h.g⟩
theorem DecRow.drewN (h : DecRow W S g kind A c st low high vc code a value ended) (m : Nat) : DecRow (W.drewN m) S g kind A c st low high vc code a value ended := h.below (pw_below_drewN (Below.refl _ _) m)
theorem DecRow.drew (h : DecRow W S g kind A c st low high vc code a value ended) : DecRow W.drew S g kind A c st low high vc code a value ended := h.below (below_drew (Below.refl _ _))
theorem DecRow.mono (h : DecRow W S g kind A c st low high vc code a value ended) (hs : ∀ k, S k → S' k) : DecRow W S' g kind A c st low high vc code a value ended :=
  ⟨h.b, Kd.R_mono h.s hs, Kd.R_mono h.o hs, hs g h.g⟩
theorem DecRow.iv (h : DecRow W S g kind A c st low high vc code a value ended) : Iv W g kind A st.length c low high :=
  ⟨(blk_cell h.b 0).trans rfl, (blk_cell h.b 1).trans rfl, range_of (r := [.int .u64 low, .int .u64 high, vc, .int .i64 a, .int .u64 value, .int .i64 ((a - code.length : Nat) : Int), .bool ended, .bool true]) (by rw [qlist]; exact h.b), (blk_cell h.b 34).trans rfl, (blk_cell h.b 35).trans rfl, fun i => blk_frozen h.b i⟩
theorem DecRow.c36 (h : DecRow W S g kind A c st low high vc code a value ended) : W.cell? ⟨g, 36, none⟩ = some vc := (blk_cell h.b 36).trans rfl
theorem DecRow.c37 (h : DecRow W S g kind A c st low high vc code a value ended) : W.cell? ⟨g, 37, none⟩ = some (.int .i64 a) := (blk_cell h.b 37).trans rfl
theorem DecRow.c38 (h : DecRow W S g kind A c st low high vc code a value ended) : W.cell? ⟨g, 38, none⟩ = some (.int .u64 value) := (blk_cell h.b 38).trans rfl
theorem DecRow.c39 (h : DecRow W S g kind A c st low high vc code a value ended) : W.cell? ⟨g, 39, none⟩ = some (.int .i64 ((a - code.length : Nat) : Int)) := (blk_cell h.b 39).trans rfl
theorem DecRow.c40 (h : DecRow W S g kind A c st low high vc code a value ended) : W.cell? ⟨g, 40, none⟩ = some (.bool ended) := (blk_cell h.b 40).trans rfl
theorem DecRow.c41 (h : DecRow W S g kind A c st low high vc code a value ended) : W.cell? ⟨g, 41, none⟩ = some (.bool true) := (blk_cell h.b 41).trans rfl
theorem DecRow.fz (h : DecRow W S g kind A c st low high vc code a value ended) (i : Nat) : W.frozen? ⟨g, i, none⟩ = false := blk_frozen h.b i
theorem DecRow.cell (h : DecRow W S g kind A c st low high vc code a value ended) {i : Nat} (hi : i < st.length) : ∃ b, A = some ⟨b, 0, none⟩ ∧ W.cell? ⟨b, i, none⟩ = some (.int .i64 (rd st i)) ∧ W.frozen? ⟨b, i, none⟩ = false ∧ b ≠ g := by
  obtain ⟨b, cap, hv, _, _, cells, hc⟩ := Kd.R_form h.s (by omega)
  injection hv with hA _ hcap
  subst hA hcap
  have h1 := Kd.R_cell (0 : Int) h.s (i : Int) (by omega) (by omega)
  have hne : b ≠ g := blk_ne hc h.b (by decide)
  exact ⟨b, rfl, h1.1, h1.2, hne⟩
theorem DecRow.put (h : DecRow W S g kind A c st low high vc code a value ended) (j : Nat) (u : Value) {kind' low' high' value' : Int} {a' : Nat} {ended' : Bool} (e : (dec42 kind (.slice A st.length c) low high vc a value ((a - code.length : Nat) : Int) ended true).setIfInBounds j u = dec42 kind' (.slice A st.length c) low' high' vc a' value' ((a' - code.length : Nat) : Int) ended' true) : DecRow (W.setCell ⟨g, j, none⟩ u) S g kind' A c st low' high' vc code a' value' ended' :=
  ⟨blk_put h.b j u e, Kd.R_set h.s h.b (by decide) _ _, Kd.R_set h.o h.b (by decide) _ _, h.g⟩
theorem DecRow.cut (h : DecRow W S g kind A c st low high vc code a value ended) (bit mid : Int) : DecRow (cutW W g bit mid) S g kind A c st (cutL low mid bit) (cutH high mid bit) vc code a value ended := by
  unfold cutW cutL cutH
  split
  · exact h.put 35 _ rfl
  · exact h.put 34 _ rfl
theorem DecRow.lost (h : DecRow W S g kind A c st low high vc code a value ended) (l' h' : Int) : DecRow ((W.setCell ⟨g, 34, none⟩ (.int .u64 l')).setCell ⟨g, 35, none⟩ (.int .u64 h')) S g kind A c st l' h' vc code a value ended :=
  DecRow.put (h.put (low' := l') 34 (.int .u64 l') rfl) 35 _ rfl
theorem DecRow.setst {b : Nat} (h : DecRow W S g kind (some ⟨b, 0, none⟩) c st low high vc code a value ended) {i : Nat} (hi : i < st.length) (x : Int) : DecRow (W.setCell ⟨b, i, none⟩ (.int .i64 x)) S g kind (some ⟨b, 0, none⟩) c (st.set i x) low high vc code a value ended := by
  obtain ⟨b', hA, _, _, hne⟩ := h.cell hi
  injection hA with hA
  injection hA with hA _ _
  subst hA
  obtain ⟨cells, hty⟩ := Kd.R_typed h.s b (by simp [Value.ownBlock])
  have hp := (Kd.R_put (enc := Value.int .i64) h.s (i : Int) x).1
  rw [Int.toNat_natCast] at hp
  have hl : (st.set i x).length = st.length := List.length_set
  refine ⟨?_, ?_, Kd.R_set h.o hty (by decide) _ _, h.g⟩
  · rw [hl]
    exact blk_far h.b (Ne.symm hne) _
  · rw [hl]
    exact hp
/-- A shift, where the code goes on. -/
theorem DecRow.adv (h : DecRow W S g kind A c st low high vc code a value ended) (ha : a < code.length) (v : Int) : DecRow ((W.setCell ⟨g, 37, none⟩ (.int .i64 ((a : Int) + 1))).setCell ⟨g, 38, none⟩ (.int .u64 v)) S g kind A c st low high vc code (a + 1) v ended := by
  have e1 : a + 1 - code.length = a - code.length := by omega
  exact DecRow.put (h.put (a' := a + 1) 37 (.int .i64 ((a : Int) + 1)) (by rw [e1]; rfl)) 38 _ rfl
/-- A shift behind the code's end. -/
theorem DecRow.advB (h : DecRow W S g kind A c st low high vc code a value ended) (ha : ¬ a < code.length) (v : Int) : DecRow (((W.setCell ⟨g, 39, none⟩ (.int .i64 (((a - code.length : Nat) : Int) + 1))).setCell ⟨g, 37, none⟩ (.int .i64 ((a : Int) + 1))).setCell ⟨g, 38, none⟩ (.int .u64 v)) S g kind A c st low high vc code (a + 1) v ended := by
  have e1 : ((a + 1 - code.length : Nat) : Int) = ((a - code.length : Nat) : Int) + 1 := by omega
  have h1 : (W.setCell ⟨g, 39, none⟩ (.int .i64 (((a - code.length : Nat) : Int) + 1))).heap[g]? = some (.cells (dec42 kind (.slice A st.length c) low high vc a value (((a - code.length : Nat) : Int) + 1) ended true) 98 (0, 0)) := blk_put h.b 39 _ rfl
  have h2 := blk_put (cs' := dec42 kind (.slice A st.length c) low high vc ((a : Int) + 1) value (((a - code.length : Nat) : Int) + 1) ended true) h1 37 (.int .i64 ((a : Int) + 1)) rfl
  have h3 := blk_put (cs' := dec42 kind (.slice A st.length c) low high vc ((a : Int) + 1) v (((a - code.length : Nat) : Int) + 1) ended true) h2 38 (.int .u64 v) rfl
  refine ⟨?_, Kd.R_set (Kd.R_set (Kd.R_set h.s h.b (by decide) _ _) h1 (by decide) _ _) h2 (by decide) _ _, Kd.R_set (Kd.R_set (Kd.R_set h.o h.b (by decide) _ _) h1 (by decide) _ _) h2 (by decide) _ _, h.g⟩
  rw [e1]
  exact h3
end
def ShiftPost (w : World) (S : Nat → Prop) (g : Nat) (kind : Int) (A : Option Addr) (c : Nat) (st : List Int) (low high : Int) (vc : Value) (code : List Int) (a : Nat) (value : Int) (ended : Bool) (e : Ending) (w' : World) : Prop :=
  e = .returned (.tuple #[]) ∧ DecRow w' S g kind A c st low high vc code (a + 1) (value % 16777216 * 256 + byteOf code a) ended ∧ Mods w w' S
set_option maxHeartbeats 2000000 in
theorem shift_row (w : World) (S : Nat → Prop) (g : Nat) (kind : Int) (A : Option Addr) (c : Nat) (st : List Int) (low high : Int) (vc : Value) (code : List Int) (a : Nat) (value : Int) (ended : Bool) (hE : DecRow w S g kind A c st low high vc code a value ended) (hv0 : 0 ≤ value) (hv1 : value ≤ 4294967295) (hby : Bytes code) (hlen : code.length ≤ 1099511627776) (ha : a ≤ 2199023255552) :
    Calls Try.prog 51 #[.pointer (some ⟨g, 0, none⟩)] w (ShiftPost w S g kind A c st low high vc code a value ended) := by
  have HE := Aside0.mk hE
  have hSg : S g := hE.g
  obtain ⟨Ac, cc, hvc⟩ := Kd.R_slice hE.o
  subst hvc
  have k36 := hE.c36
  have k37 := hE.c37
  have k38 := hE.c38
  have f37 := hE.fz 37
  have f38 := hE.fz 38
  have f39 := hE.fz 39
  have hbr := byteOf_range hby a
  have e1 : Go.bits .and .u64 (value * 256) 4294967295 = value % 16777216 * 256 := (u64_low32 (x := value * 256) (by omega) (by omega)).trans (by omega)
  by_cases hlt : a < code.length
  · have hb : byteOf code a = rd code a := if_pos hlt
    rw [hb] at hbr
    obtain ⟨ad, hA, hx⟩ := Kd.at_int (Kd.R_reads' hE.o).2.2 (a : Int) (by omega) (by omega)
    subst hA
    rw [Int.toNat_natCast] at hx
    have e2 : Go.bits .or .u64 (value % 16777216 * 256) (rd code a) = value % 16777216 * 256 + rd code a := u64_orb (by omega) (by omega) (by omega) hbr.1 (by omega)
    have hi : (a : Int) < (code.length : Int) := by omega
    have HL := Aside0.mk hlt
    have HBB := Aside0.mk hb
    clear hE hby hb hlt
    go_enter Try.func51, Try.ntmps51
    go_wp2
    go_quiet (fail)
    go_wp2
    go_quiet (fail)
    go_wp2
    go_end0
    refine ⟨rfl, ?_, ?_⟩
    · rw [HBB.out]
      exact (HE.out.adv HL.out _).drewN _
    · exact (((Mods.refl w S).setCell (.inl hSg) _).setCell (.inl hSg) _).drewN _
  · have hb : byteOf code a = 0 := if_neg hlt
    have k39 := hE.c39
    have hi : ¬ (a : Int) < (code.length : Int) := by omega
    obtain ⟨d, hd⟩ : ∃ d : Nat, a - code.length = d := ⟨_, rfl⟩
    rw [hd] at k39
    have hdd : (d : Int) ≤ 2199023255552 := by omega
    have HD := Aside0.mk hd
    have e2 : Go.bits .or .u64 (value % 16777216 * 256) 0 = value % 16777216 * 256 := (u64_orb (x := value % 16777216 * 256) (y := 0) (by omega) (by omega) (by omega) (by omega) (by omega)).trans (by omega)
    have HL := Aside0.mk hlt
    have HBB := Aside0.mk hb
    clear hE hby hb hlt hd hbr
    go_enter Try.func51, Try.ntmps51
    go_wp2
    go_quiet (fail)
    go_wp2
    go_end0
    refine ⟨rfl, ?_, ?_⟩
    · rw [HBB.out, Int.add_zero]
      have h9 := HE.out.advB HL.out (value % 16777216 * 256)
      rw [HD.out] at h9
      exact h9.drewN _
    · exact ((((Mods.refl w S).setCell (.inl hSg) _).setCell (.inl hSg) _).setCell (.inl hSg) _).drewN _
theorem dec_none (w : World) (g : Nat) (real : Bool) (h2 : w.cell? ⟨g, 41, none⟩ = some (.bool real)) : Calls Try.prog 62 #[.pointer (some ⟨g, 0, none⟩)] w fun e w' => e = .returned (.bool (!real)) ∧ w = w' := by
  go_enter Try.func62, Try.ntmps62
  go_wp2
  go_ret
  exact ⟨rfl, rfl⟩
end Go.Proofs.Ytlnhahnnjbfjdaa.Dec
