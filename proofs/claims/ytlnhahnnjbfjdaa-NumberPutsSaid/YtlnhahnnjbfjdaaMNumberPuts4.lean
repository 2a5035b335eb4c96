import Derived.Test.YtlnhahnnjbfjdaaMNumberPuts1
import Derived.Test.YtlnhahnnjbfjdaaMNumberPuts2
import Derived.Test.YtlnhahnnjbfjdaaMNumberPuts3
import Derived.RegionTactic
import Derived.ChangeAlike
import Derived.BigRegion
import Derived.Deep.RegionWith
import Derived.IntWalk
set_option linter.unusedVariables false
set_option linter.unusedSimpArgs false
namespace Go.Proofs.Ytlnhahnnjbfjdaa.Npt
open Go Go.RowKit Go.Proofs.YtlnhahnnjbfjdaaW.PrintWords Go.Proofs.YtlnhahnnjbfjdaaW.PrintLast Go.Proofs.YtlnhahnnjbfjdaaW.PrintMore Go.Proofs.Ytlnhahnnjbfjdaa.U Go.Proofs.Ytlnhahnnjbfjdaa.Aid Go.Proofs.Ytlnhahnnjbfjdaa.HandAid Go.Proofs.Ytlnhahnnjbfjdaa.Cod1 Go.Proofs.Ytlnhahnnjbfjdaa.Cod2 Go.Proofs.Ytlnhahnnjbfjdaa.Cod3 Go.Proofs.Ytlnhahnnjbfjdaa.Mod Go.Proofs.Ytlnhahnnjbfjdaa.Enc Go.Proofs.Ytlnhahnnjbfjdaa.Mods Go.Proofs.Ytlnhahnnjbfjdaa.EncAt Go.Proofs.Ytlnhahnnjbfjdaa.Put Go.Proofs.Ytlnhahnnjbfjdaa.End Go.Proofs.Ytlnhahnnjbfjdaa.Snc Go.Proofs.Ytlnhahnnjbfjdaa.RefAt Go.Proofs.Ytlnhahnnjbfjdaa.RefPut Go.Proofs.Ytlnhahnnjbfjdaa.RefEnd Go.Proofs.Ytlnhahnnjbfjdaa.Num Go.Proofs.Ytlnhahnnjbfjdaa.Evs Go.Proofs.Ytlnhahnnjbfjdaa.RefEvs Go.Proofs.Ytlnhahnnjbfjdaa.Pse Go.Proofs.Ytlnhahnnjbfjdaa.Npu Go.Proofs.Ytlnhahnnjbfjdaa.Nen Go.Proofs.Ytlnhahnnjbfjdaa.Ngt Go.Proofs.Ytlnhahnnjbfjdaa.Nrw Go.Proofs.Ytlnhahnnjbfjdaa.Gid Go.Proofs.Ytlnhahnnjbfjdaa.Nre Go.Proofs.Ytlnhahnnjbfjdaa.Pid
theorem _root_.Go.Proofs.Ytlnhahnnjbfjdaa.Npu.PW.lift {At : World → (Nat → Prop) → Nat → ES → Prop} [EnL At] {w W5 W : World} {S : Nat → Prop} {g : Nat} {s : ES} (hb : Below w.heap.size w W5) (H : PW At W5 S g s W) : PW At w S g s W :=
  ⟨EnL.mono H.e (fun k hk => ⟨by rcases hk.1 with h | h; exact .inl h; exact .inr (Nat.le_trans hb.size h), hk.2⟩), ((Mods.refl w S).below hb).then_ H.m (fun k hk => .inl hk), H.ok⟩
/-- A Put below the contexts changes nothing. -/
theorem enc_bad {W : World} {S : Nat → Prop} {g : Nat} {s : ES} (h : EncAt W S g s) : Calls Try.prog 63 #[.pointer (some ⟨g, 0, none⟩), .int .i64 (-1), .int .i64 0] W fun e W' => e = .returned (.int .i64 2) ∧ W = W' := by
  obtain ⟨A, c, vo, hR⟩ := h
  exact enc_put_arg W g A s.st.length c (-1) 0 hR.iv.s hR.real (.inl (by decide))
set_option maxHeartbeats 2000000 in
set_option maxRecDepth 100000 in
theorem nPut_calls (w : World) (S : Nat → Prop) (g : Nat) (s : ES) (base : Int) (nn : Bool) (n : Int) (h : EncAt w S g s) (hS : ∀ k, S k → k < w.heap.size) (hok : s.ok) (hlen : s.out.length ≤ 1099511620000) (R : ES × Int) (hR : putN base nn n s = R) :
    Calls Try.prog 31 #[.pointer (some ⟨g, 0, none⟩), .int .i64 base, .agg #[.bool nn, .int .i64 n]] w fun e W => e = .returned (.int .i64 R.2) ∧ PW EncAt w S g R.1 W := by
  have hu := Try.underlying23
  obtain ⟨b5, hb5⟩ : ∃ x, w.heap.size = x := ⟨_, rfl⟩
  obtain ⟨W1, hW1⟩ : ∃ x, w.alloc (.cells #[.bool nn, .int .i64 n] 23) = x := ⟨_, rfl⟩
  have HB1 := Aside0.mk (show Below w.heap.size w W1 from hW1 ▸ below_alloc (Below.refl _ _) _)
  have HZ1 := Aside0.mk (show W1.heap[b5]? = some (.cells #[.bool nn, .int .i64 n] 23 (0, 0)) from hW1 ▸ hb5 ▸ heap_new w _)
  have HE := Aside0.mk h
  have HS := Aside0.mk hS
  have HOK := Aside0.mk hok
  have hln : s.st.length ≤ 8192 := hok.m.2.1
  have k0 : W1.cell? ⟨b5, 0, none⟩ = some (.bool nn) := (blk_cell HZ1.out 0).trans rfl
  have k1 : W1.cell? ⟨b5, 1, none⟩ = some (.int .i64 n) := (blk_cell HZ1.out 1).trans rfl
  have fin : ∀ W : World, Below w.heap.size w W → PW EncAt w S g s W := fun W hb => (PW.start (At := EncAt) HE.out HS.out HOK.out).below hb
  have FIN := Aside0.mk fin
  unfold putN at hR
  clear h hS hok fin
  go_enter Try.func31, Try.ntmps31
  go_wp2_with (fail)
  clear hW1 hb5
  refine (enc_bad (HE.out.below HB1.out)).mono ?_
  rintro e W2 ⟨rfl, rfl⟩
  go_wp2_with (fail)
  refine (number_Valid.calls nn n (okNum nn n) W1 (valid_eq _ _)).mono ?_
  rintro e W3 ⟨rfl, hb3⟩
  have HB3 := Aside0.mk (below_then HB1.out HB1.out.size hb3)
  have HZ3 := Aside0.mk (blk_below HZ1.out hb3)
  clear k0 k1 hb3 HB1 HZ1
  by_cases hxo : okNum nn n = true
  · have HXO := Aside0.mk hxo
    rw [hxo]
    clear hxo
    go_wp2_with (fail)
    refine (model_calls W3 S g s (HE.out.below HB3.out) HOK.out).mono ?_
    rintro e W4 ⟨A4, c4, rfl, -, hb4⟩
    have HB4 := Aside0.mk (below_then HB3.out HB3.out.size hb4)
    have HZ4 := Aside0.mk (blk_below HZ3.out hb4)
    clear hb4 HB3 HZ3
    go_wp2_with (fail)
    refine (fits_calls s.kind A4 s.st.length c4 base 48 W4 hln (by decide) (by decide)).mono ?_
    rintro e W5 ⟨rfl, hb5⟩
    have HB5 := Aside0.mk (below_then HB4.out HB4.out.size hb5)
    have HZ5 := Aside0.mk (blk_below HZ4.out hb5)
    clear hb5 HB4 HZ4
    by_cases hrm : hasRoom s.st.length base 48
    · rw [if_pos (show okN s.st.length base nn n from ⟨HXO.out, hrm⟩)] at hR
      rw [if_pos hrm]
      have hb0 : 0 ≤ base ∧ base ≤ 8192 := by unfold hasRoom at hrm; omega
      have hgd := putsE_good (evAll base nn n) s (putN_good ⟨HXO.out, hrm⟩)
      have HGD := Aside0.mk hgd
      clear hrm hgd
      have k0 : W5.cell? ⟨b5, 0, none⟩ = some (.bool nn) := (blk_cell HZ5.out 0).trans rfl
      have k1 : W5.cell? ⟨b5, 1, none⟩ = some (.int .i64 n) := (blk_cell HZ5.out 1).trans rfl
      go_wp2_with (fail)
      refine (events_all base n nn W5 hb0.1 (by omega) HXO.out).mono ?_
      rintro e W6 ⟨v, rfl, hRv, hb6⟩
      obtain ⟨Av, cv, rfl⟩ := Kd.R_slice hRv
      have hle := evAll_len base nn n HXO.out
      have HB6 := Aside0.mk (below_then HB5.out HB5.out.size hb6)
      have HQ := Aside0.mk (nput_calls W6 S g s Av cv (evAll base nn n) (HE.out.below HB6.out) (fun k hk => Nat.lt_of_lt_of_le (HS.out k hk) HB6.out.size) HOK.out (by omega) (fun W hM => (Kd.R_reads' (Kd.R_step (w1 := W) (Kd.R_bound hRv) (fun k hk hlt => hM.block k hlt (fun hs => by have := HS.out k hs; have := hk.2.1; have := HB5.out.size; omega)))).2.2) _ rfl)
      rw [HGD.out] at HQ
      subst hR
      clear hRv hb6 k0 k1 hle HZ5 HB5
      go_wp2_with (fail)
      refine HQ.out.mono ?_
      rintro e W7 ⟨rfl, hP⟩
      have HP := Aside0.mk (PW.lift HB6.out hP)
      clear hP
      go_wp2_with (fail)
      go_ret
      exact ⟨rfl, HP.out⟩
    · rw [if_neg (fun h : okN s.st.length base nn n => hrm h.2)] at hR
      rw [if_neg hrm]
      subst hR
      go_wp2_with (fail)
      go_ret
      exact ⟨rfl, FIN.out _ HB5.out⟩
  · have hxf : okNum nn n = false := by simpa using hxo
    rw [if_neg (fun h : okN s.st.length base nn n => hxo h.1)] at hR
    subst hR
    rw [hxf]
    clear hxo hxf
    go_wp2_with (fail)
    go_ret
    exact ⟨rfl, FIN.out _ HB3.out⟩
theorem shift_take {l : List S87} {j : Nat} (base : Int) (h : j < l.length) (x : S87) (hx : rd_T87 l (j : Int) = x) : (l.take (j + 1)).map (shift base) = (l.take j).map (shift base) ++ [⟨base + x.f0, x.f1⟩] := by
  rw [take_ev h x hx, List.map_append]
  show _ ++ [shift base x] = _
  unfold shift
  rw [Int.add_comm]
set_option maxHeartbeats 2000000 in
set_option maxRecDepth 100000 in
theorem rPut_calls (w : World) (S : Nat → Prop) (g : Nat) (s : ES) (base : Int) (nn : Bool) (n : Int) (h : RefAt w S g s) (hS : ∀ k, S k → k < w.heap.size) (hok : s.ok) (hlen : s.out.length ≤ 1099511620000) (R : ES × Int) (hR : putN base nn n s = R) :
    Calls Try.prog 38 #[.pointer (some ⟨g, 0, none⟩), .int .i64 base, .agg #[.bool nn, .int .i64 n]] w fun e W => e = .returned (.int .i64 R.2) ∧ PW RefAt w S g R.1 W := by
  have hu := Try.underlying23
  have hu2 := Try.underlying45
  obtain ⟨b5, hb5⟩ : ∃ x, w.heap.size = x := ⟨_, rfl⟩
  obtain ⟨W1, hW1⟩ : ∃ x, w.alloc (.cells #[.bool nn, .int .i64 n] 23) = x := ⟨_, rfl⟩
  have HB1 := Aside0.mk (show Below w.heap.size w W1 from hW1 ▸ below_alloc (Below.refl _ _) _)
  have HZ1 := Aside0.mk (show W1.heap[b5]? = some (.cells #[.bool nn, .int .i64 n] 23 (0, 0)) from hW1 ▸ hb5 ▸ heap_new w _)
  have HE := Aside0.mk h
  have HS := Aside0.mk hS
  have HOK := Aside0.mk hok
  have hln : s.st.length ≤ 8192 := hok.m.2.1
  have k0 : W1.cell? ⟨b5, 0, none⟩ = some (.bool nn) := (blk_cell HZ1.out 0).trans rfl
  have k1 : W1.cell? ⟨b5, 1, none⟩ = some (.int .i64 n) := (blk_cell HZ1.out 1).trans rfl
  have fin : ∀ W : World, Below w.heap.size w W → PW RefAt w S g s W := fun W hb => (PW.start (At := RefAt) HE.out HS.out HOK.out).below hb
  have FIN := Aside0.mk fin
  unfold putN at hR
  clear h hS hok fin
  go_enter Try.func38, Try.ntmps38
  go_wp2_with (fail)
  clear hW1 hb5
  refine (incunableref03_Valid.calls nn n (okNum nn n) W1 (ref_valid_eq _ _)).mono ?_
  rintro e W3 ⟨rfl, hb3⟩
  have HB3 := Aside0.mk (below_then HB1.out HB1.out.size hb3)
  have HZ3 := Aside0.mk (blk_below HZ1.out hb3)
  clear k0 k1 hb3 HB1 HZ1
  by_cases hxo : okNum nn n = true
  · have HXO := Aside0.mk hxo
    rw [hxo]
    clear hxo
    go_wp2_with (fail)
    refine (ref_model_calls W3 S g s (HE.out.below HB3.out) HOK.out).mono ?_
    rintro e W4 ⟨A4, c4, rfl, -, hb4⟩
    have HB4 := Aside0.mk (below_then HB3.out HB3.out.size hb4)
    have HZ4 := Aside0.mk (blk_below HZ3.out hb4)
    have hfd := fld s.kind (.slice A4 s.st.length c4)
    clear hb4 HB3 HZ3
    go_wp2_with (fail)
    refine (room_calls s.st.length base 48 W4 (by omega) (by omega)).mono ?_
    rintro e W5 ⟨rfl, hb5⟩
    have HB5 := Aside0.mk (below_then HB4.out HB4.out.size hb5)
    have HZ5 := Aside0.mk (blk_below HZ4.out hb5)
    clear hb5 HB4 HZ4 hfd
    by_cases hrm : hasRoom s.st.length base 48
    · rw [if_pos (show okN s.st.length base nn n from ⟨HXO.out, hrm⟩)] at hR
      rw [decide_eq_true hrm]
      have hb0 : 0 ≤ base ∧ base ≤ 8192 := by unfold hasRoom at hrm; omega
      have HGD := Aside0.mk (putN_good (s := s) ⟨HXO.out, hrm⟩)
      clear hrm
      have k0 : W5.cell? ⟨b5, 0, none⟩ = some (.bool nn) := (blk_cell HZ5.out 0).trans rfl
      have k1 : W5.cell? ⟨b5, 1, none⟩ = some (.int .i64 n) := (blk_cell HZ5.out 1).trans rfl
      obtain ⟨K0, hev⟩ := Ev.rounds (ref_events_ev nn n HXO.out)
      have HEV := Aside0.mk (incunableref03_events.calls K0 nn n _ W5 hev)
      clear hev
      go_wp2_with (fail)
      refine HEV.out.mono ?_
      rintro e W6 ⟨v, rfl, hRv, hb6⟩
      obtain ⟨Av, cv, rfl⟩ := Kd.R_slice hRv
      have hle := evAll_len 0 nn n HXO.out
      have HCX := Aside0.mk (evAll_ctx nn n HXO.out)
      have hsh := evAll_shift base nn n
      rw [← hsh] at hR HGD
      have HB6 := Aside0.mk (below_then HB5.out HB5.out.size hb6)
      have HRW := Aside0.mk (show ∀ W, Mods W6 W S → Kd.C k87 W Av (evAll 0 nn n).length (evAll 0 nn n) from fun W hM => (Kd.R_reads' (Kd.R_step (w1 := W) (Kd.R_bound hRv) (fun k hk hlt => hM.block k hlt (fun hs => by have := HS.out k hs; have := hk.2.1; have := HB5.out.size; omega)))).2.2)
      have HP6 := Aside0.mk (PW.start (At := RefAt) (HE.out.below HB6.out) (fun k hk => Nat.lt_of_lt_of_le (HS.out k hk) HB6.out.size) HOK.out)
      clear hRv hb6 k0 k1 HZ5 HB5 HEV hsh
      generalize evAll 0 nn n = L at hR HGD hle HRW HCX ⊢
      go_wp2_with (fail)
      go_loopw [8] (fun i wq => ∃ (j : Nat) (s1 : ES), j ≤ L.length ∧ i = .int .i64 j ∧ putsE s ((L.take j).map (shift base)) = (s1, 0) ∧ Aside0 (s1.st.length = s.st.length) ∧ s1.out.length ≤ s.out.length + 4 * j ∧ Aside0 (PW RefAt W6 S g s1 wq)) (fun i _ => L.length - (intOf i).toNat)
      case atStart => exact ⟨0, s, Nat.zero_le _, rfl, rfl, ⟨rfl⟩, by omega, HP6⟩
      clear HP6
      case round =>
      obtain ⟨j, s1, hjl, rfl, hpu, hsl, hsn, HP⟩ := hrel
      by_cases hlt : j < L.length
      · obtain ⟨ad, hA, -⟩ := at_T87 (HRW.out _ HP.out.m) (j : Int) (by omega) (by omega)
        subst hA
        obtain ⟨x, hx⟩ : ∃ x, rd_T87 L (j : Int) = x := ⟨_, rfl⟩
        have etk := shift_take base hlt x hx
        have hxm : x ∈ L := by
          have h2 : x ∈ L.take (j + 1) := by rw [take_ev hlt x hx]; simp
          exact List.mem_of_mem_take h2
        have hxc := HCX.out x hxm
        have hgx : goodL s.st.length (shift base x) = true := by
          have h1 := HGD.out
          rw [List.all_eq_true] at h1
          exact h1 _ (List.mem_map_of_mem hxm)
        have her : s1.err (base + x.f0) x.f1 = 0 := by
          unfold ES.err
          have e : s1.good (base + x.f0) x.f1 = goodL s1.st.length ⟨base + x.f0, x.f1⟩ := rfl
          have e2 : (⟨base + x.f0, x.f1⟩ : S87) = shift base x := by unfold shift; rw [Int.add_comm]
          rw [e, hsl.out, e2, if_pos hgx]
        have hle2 := (ES.putI_len s1 (base + x.f0) x.f1).1
        have hwr : wrap64 (base + x.f0) = base + x.f0 := by rw [wrap_id] <;> omega
        have hq : ∀ W' : World, PW RefAt W6 S g s1 W' → Calls Try.prog 65 #[.pointer (some ⟨g, 0, none⟩), .int .i64 (wrap64 (base + x.f0)), .int .i64 x.f1] W' fun e W2 => e = .returned (.int .i64 0) ∧ PW RefAt W6 S g (s1.putI (base + x.f0) x.f1) W2 := fun W' hp => by
          have h3 := hp.rput (by omega) (base + x.f0) x.f1
          rw [her] at h3
          rw [hwr]
          exact h3
        clear hwr
        have HQ := Aside0.mk hq
        clear hq hgx hxm
        go_wp2_with (fail)
        have HP0 := Aside0.mk (HP.out.below (below_drew (Below.refl _ _)))
        clear HP
        refine start_ (n := 14) (S := fun w' => w'.cell? (ad.add (j * 2)) = some (.int .i64 x.f0) ∧ w'.cell? ⟨(ad.add (j * 2)).block, (ad.add (j * 2)).off + 1, none⟩ = some (.int .i64 x.f1)) (ds := []) #[false, false, false, false, false, false, false, false, false, false, false, false, false, false] (by kernel_rfl) rfl rfl ⟨(ev_at (HRW.out _ HP0.out.m) j hlt x hx).1, (ev_at (HRW.out _ HP0.out.m) j hlt x hx).2⟩ (fun hHeld => ?_)
        refine pure_ (i := 0) (N := some 29) (v := ?_) (a' := ?_) #[true, false, false, false, false, false, false, false, false, false, false, false, false, false] rfl rfl (by kernel_rfl) (fun _ _ _ h => h) (Or.inl ⟨by rfl, ?_⟩) ?_ ?_
        rotate_left
        · intro w'
          go_simp
          with_reducible rfl
        rotate_left
        · simp only [Act.put, List.setIfInBounds_toArray, List.set_cons_zero, List.set_cons_succ, i64_w, i32_w]
          rfl
        refine pure_ (i := 1) (N := some 30) (v := ?_) (a' := ?_) #[true, true, false, false, false, false, false, false, false, false, false, false, false, false] rfl rfl (by kernel_rfl) (fun _ _ _ h => h) (Or.inl ⟨by rfl, ?_⟩) ?_ ?_
        rotate_left
        · intro w'
          go_simp
          with_reducible rfl
        rotate_left
        · simp only [Act.put, List.setIfInBounds_toArray, List.set_cons_zero, List.set_cons_succ, i64_w, i32_w]
          rfl
        refine pure_ (i := 2) (N := some 31) (v := ?_) (a' := ?_) #[true, true, true, false, false, false, false, false, false, false, false, false, false, false] rfl rfl (by kernel_rfl) (fun _ _ _ h => h) (Or.inl ⟨by rfl, ?_⟩) ?_ ?_
        rotate_left
        · intro w'
          go_simp
          with_reducible rfl
        rotate_left
        · simp only [Act.put, List.setIfInBounds_toArray, List.set_cons_zero, List.set_cons_succ, i64_w, i32_w]
          rfl
        refine pure_ (i := 3) (N := some 32) (v := ?_) (a' := ?_) #[true, true, true, true, false, false, false, false, false, false, false, false, false, false] rfl rfl (by kernel_rfl) (fun _ _ _ h => h) (Or.inl ⟨by rfl, ?_⟩) ?_ ?_
        rotate_left
        · intro w'
          go_simp
          with_reducible rfl
        rotate_left
        · simp only [Act.put, List.setIfInBounds_toArray, List.set_cons_zero, List.set_cons_succ, i64_w, i32_w]
          rfl
        refine pure_ (i := 4) (N := some 33) (v := ?_) (a' := ?_) #[true, true, true, true, true, false, false, false, false, false, false, false, false, false] rfl rfl (by kernel_rfl) (fun _ _ _ h => h) (Or.inl ⟨by rfl, ?_⟩) ?_ ?_
        rotate_left
        · intro w'
          go_simp
          with_reducible rfl
        rotate_left
        · simp only [Act.put, List.setIfInBounds_toArray, List.set_cons_zero, List.set_cons_succ, i64_w, i32_w]
          rfl
        refine pure_ (i := 5) (N := some 34) (v := ?_) (a' := ?_) #[true, true, true, true, true, true, false, false, false, false, false, false, false, false] rfl rfl (by kernel_rfl) (fun _ _ _ h => h) (Or.inl ⟨by rfl, ?_⟩) ?_ ?_
        rotate_left
        · intro w'
          go_simp
          with_reducible rfl
        rotate_left
        · simp only [Act.put, List.setIfInBounds_toArray, List.set_cons_zero, List.set_cons_succ, i64_w, i32_w]
          rfl
        refine pure_ (i := 8) (N := some 37) (v := ?_) (a' := ?_) #[true, true, true, true, true, true, false, false, true, false, false, false, false, false] rfl rfl (by kernel_rfl) (fun _ _ _ h => h) (Or.inl ⟨by rfl, ?_⟩) ?_ ?_
        rotate_left
        · intro w'
          go_simp
          with_reducible rfl
        rotate_left
        · simp only [Act.put, List.setIfInBounds_toArray, List.set_cons_zero, List.set_cons_succ, i64_w, i32_w]
          rfl
        refine pure_ (i := 9) (N := some 38) (v := ?_) (a' := ?_) #[true, true, true, true, true, true, false, false, true, true, false, false, false, false] rfl rfl (by kernel_rfl) (fun _ _ _ h => h) (Or.inl ⟨by rfl, ?_⟩) ?_ ?_
        rotate_left
        · intro w'
          go_simp
          with_reducible rfl
        rotate_left
        · simp only [Act.put, List.setIfInBounds_toArray, List.set_cons_zero, List.set_cons_succ, i64_w, i32_w]
          rfl
        refine pure_ (i := 10) (N := some 39) (v := ?_) (a' := ?_) #[true, true, true, true, true, true, false, false, true, true, true, false, false, false] rfl rfl (by kernel_rfl) (fun _ _ _ h => h) (Or.inl ⟨by rfl, ?_⟩) ?_ ?_
        rotate_left
        · intro w'
          go_simp
          with_reducible rfl
        rotate_left
        · simp only [Act.put, List.setIfInBounds_toArray, List.set_cons_zero, List.set_cons_succ, i64_w, i32_w]
          rfl
        refine pure_ (i := 11) (N := some 40) (v := ?_) (a' := ?_) #[true, true, true, true, true, true, false, false, true, true, true, true, false, false] rfl rfl (by kernel_rfl) (fun _ _ _ h => h) (Or.inl ⟨by rfl, ?_⟩) ?_ ?_
        rotate_left
        · intro w'
          go_simp
          with_reducible rfl
        rotate_left
        · simp only [Act.put, List.setIfInBounds_toArray, List.set_cons_zero, List.set_cons_succ, i64_w, i32_w]
          rfl
        refine take_ (i := 6) (N := some 35) (v := ?_) (a' := ?_) #[true, true, true, true, true, true, true, false, true, true, true, true, false, false] rfl rfl (by kernel_rfl) (fun _ _ _ h => h) (Or.inl ⟨by rfl, ?_⟩) hHeld ?_ ?_
        rotate_left
        · rintro w' ⟨s0, s1⟩
          go_simp
          with_reducible rfl
        rotate_left
        · simp only [Act.put, List.setIfInBounds_toArray, List.set_cons_zero, List.set_cons_succ, i64_w, i32_w]
          rfl
        refine pure_ (i := 7) (N := some 36) (v := ?_) (a' := ?_) #[true, true, true, true, true, true, true, true, true, true, true, true, false, false] rfl rfl (by kernel_rfl) (fun _ _ _ h => h) (Or.inl ⟨by rfl, ?_⟩) ?_ ?_
        rotate_left
        · intro w'
          go_simp
          with_reducible rfl
        rotate_left
        · simp only [Act.put, List.setIfInBounds_toArray, List.set_cons_zero, List.set_cons_succ, i64_w, i32_w]
          rfl
        refine take_ (i := 12) (N := some 41) (v := ?_) (a' := ?_) #[true, true, true, true, true, true, true, true, true, true, true, true, true, false] rfl rfl (by kernel_rfl) (fun _ _ _ h => h) (Or.inl ⟨by rfl, ?_⟩) hHeld ?_ ?_
        rotate_left
        · rintro w' ⟨s0, s1⟩
          go_simp
          with_reducible rfl
        rotate_left
        · simp only [Act.put, List.setIfInBounds_toArray, List.set_cons_zero, List.set_cons_succ, i64_w, i32_w]
          rfl
        refine one_ (i := 13) (N := some 42) #[true, true, true, true, true, true, true, true, true, true, true, true, true, true] rfl rfl (by kernel_rfl) (by decide) (fun K hK => ?_)
        refine goes_ Try.func65 (by kernel_rfl) rfl #[.pointer (some ⟨g, 0, none⟩), .int .i64 (wrap64 (base + x.f0)), .int .i64 x.f1] (by rfl) rfl rfl (by simp only [List.map_toArray, List.map_cons, List.map_nil]; rfl) ?_
        with_reducible refine ((HQ.out _ HP0.out)).mono ?_
        rintro e W7 ⟨rfl, hT⟩
        refine ⟨_, rfl, ?_⟩
        have HP7 := Aside0.mk hT
        clear hT
        refine hK.out _ _ ⟨(ev_at (HRW.out _ HP7.out.m) j hlt x hx).1, (ev_at (HRW.out _ HP7.out.m) j hlt x hx).2⟩ (fun hHeld => ?_)
        clear hK K
        refine norm_ (a' := ?_) ?_ ?_
        rotate_left
        · show Act.put _ (some 42) _ = _
          simp only [Act.put, List.setIfInBounds_toArray, List.set_cons_zero, List.set_cons_succ, i64_w, i32_w]
          rfl
        refine done_ (by kernel_rfl) ?_
        go_wp2_with (fail)
        refine ⟨⟨j + 1, _, by omega, by go_num, ?_, ?_, ?_, HP7⟩, by simp [intOf]; omega⟩
        · rw [etk, putsE_app _ _ _ (by rw [hpu]), hpu]
          show putsE s1 [⟨base + x.f0, x.f1⟩] = _
          unfold putsE
          rw [if_pos her]
          rfl
        · exact ⟨by rw [(ES.putI_len s1 (base + x.f0) x.f1).2.2]; exact hsl.out⟩
        · omega
      · have e : L.take j = L := List.take_of_length_le (by omega)
        rw [e] at hpu
        rw [hpu] at hR
        subst hR
        go_wp2_with (fail)
        go_ret
        exact ⟨rfl, PW.lift HB6.out HP.out⟩
    · rw [if_neg (fun h : okN s.st.length base nn n => hrm h.2)] at hR
      rw [decide_eq_false hrm]
      subst hR
      go_wp2_with (fail)
      go_ret
      exact ⟨rfl, FIN.out _ HB5.out⟩
  · have hxf : okNum nn n = false := by simpa using hxo
    rw [if_neg (fun h : okN s.st.length base nn n => hxo h.1)] at hR
    subst hR
    rw [hxf]
    clear hxo hxf
    go_wp2_with (fail)
    go_ret
    exact ⟨rfl, FIN.out _ HB3.out⟩
end Go.Proofs.Ytlnhahnnjbfjdaa.Npt
namespace Go.Proofs.Ytlnhahnnjbfjdaa.Npi
open Go Go.RowKit Go.Proofs.YtlnhahnnjbfjdaaW.PrintWords Go.Proofs.YtlnhahnnjbfjdaaW.PrintLast Go.Proofs.YtlnhahnnjbfjdaaW.PrintMore Go.Proofs.Ytlnhahnnjbfjdaa.U Go.Proofs.Ytlnhahnnjbfjdaa.Aid Go.Proofs.Ytlnhahnnjbfjdaa.HandAid Go.Proofs.Ytlnhahnnjbfjdaa.Cod1 Go.Proofs.Ytlnhahnnjbfjdaa.Cod2 Go.Proofs.Ytlnhahnnjbfjdaa.Cod3 Go.Proofs.Ytlnhahnnjbfjdaa.Mod Go.Proofs.Ytlnhahnnjbfjdaa.Enc Go.Proofs.Ytlnhahnnjbfjdaa.Mods Go.Proofs.Ytlnhahnnjbfjdaa.EncAt Go.Proofs.Ytlnhahnnjbfjdaa.Put Go.Proofs.Ytlnhahnnjbfjdaa.End Go.Proofs.Ytlnhahnnjbfjdaa.Snc Go.Proofs.Ytlnhahnnjbfjdaa.RefAt Go.Proofs.Ytlnhahnnjbfjdaa.RefPut Go.Proofs.Ytlnhahnnjbfjdaa.RefEnd Go.Proofs.Ytlnhahnnjbfjdaa.Num Go.Proofs.Ytlnhahnnjbfjdaa.Evs Go.Proofs.Ytlnhahnnjbfjdaa.RefEvs Go.Proofs.Ytlnhahnnjbfjdaa.Pse Go.Proofs.Ytlnhahnnjbfjdaa.Npu Go.Proofs.Ytlnhahnnjbfjdaa.Nen Go.Proofs.Ytlnhahnnjbfjdaa.Ngt Go.Proofs.Ytlnhahnnjbfjdaa.Nrw Go.Proofs.Ytlnhahnnjbfjdaa.Gid Go.Proofs.Ytlnhahnnjbfjdaa.Nre Go.Proofs.Ytlnhahnnjbfjdaa.Pid Go.Proofs.Ytlnhahnnjbfjdaa.Npt
theorem id_bit {id : Int} (h0 : 0 ≤ id) (h1 : id < 2048) (r : Nat) : Go.bits .and .i64 (id / 2 ^ r) 1 = id / 2 ^ r % 2 := by
  have hp : (0 : Int) < 2 ^ r := Int.pow_pos (by decide)
  have h2 : 0 ≤ id / 2 ^ r := Int.ediv_nonneg h0 (by omega)
  have h3 : id / 2 ^ r ≤ id := Int.ediv_le_self _ h0
  exact i64_and1 h2 (by omega)
theorem p_step {p : Int} {r : Nat} {b : Int} (h0 : 1 ≤ p) (h1 : (p + 1) * 2 ^ (r + 1) ≤ 2048) (hb : 0 ≤ b ∧ b ≤ 1) : 1 ≤ 2 * p + b ∧ (2 * p + b + 1) * 2 ^ r ≤ 2048 ∧ p ≤ 1023 := by
  have hp : (1 : Int) ≤ 2 ^ r := by have : (0 : Int) < 2 ^ r := Int.pow_pos (by decide); omega
  have e : (p + 1) * 2 ^ (r + 1) = (2 * p + 2) * 2 ^ r := by rw [Int.pow_succ, Int.mul_comm (2 ^ r) 2, ← Int.mul_assoc]; congr 1; omega
  rw [e] at h1
  have h3 : (2 * p + 2) * 1 ≤ (2 * p + 2) * 2 ^ r := Int.mul_le_mul_of_nonneg_left hp (by omega)
  have h4 : (2 * p + b + 1) * 2 ^ r ≤ (2 * p + 2) * 2 ^ r := Int.mul_le_mul_of_nonneg_right (by omega) (by omega)
  omega
set_option maxHeartbeats 2000000 in
set_option maxRecDepth 100000 in
theorem nPutId_calls (w : World) (S : Nat → Prop) (g : Nat) (s : ES) (base k id : Int) (h : EncAt w S g s) (hS : ∀ k, S k → k < w.heap.size) (hok : s.ok) (hlen : s.out.length ≤ 1099511620000) (R : ES × Int) (hR : putI base k id s = R) :
    Calls Try.prog 32 #[.pointer (some ⟨g, 0, none⟩), .int .i64 base, .int .i64 k, .int .i64 id] w fun e W => e = .returned (.int .i64 R.2) ∧ PW EncAt w S g R.1 W := by
  have HE := Aside0.mk h
  have HS := Aside0.mk hS
  have HOK := Aside0.mk hok
  have hln : s.st.length ≤ 8192 := hok.m.2.1
  have fin : ∀ W : World, Below w.heap.size w W → PW EncAt w S g s W := fun W hb => (PW.start (At := EncAt) HE.out HS.out HOK.out).below hb
  have FIN := Aside0.mk fin
  unfold putI at hR
  clear h hS hok fin
  have hc : (k < 0 ∨ (¬ k < 0 ∧ 10 < k) ∨ (¬ k < 0 ∧ ¬ 10 < k ∧ id < 0)) ∨ (0 ≤ k ∧ k ≤ 10 ∧ 0 ≤ id) := by omega
  rcases hc with hc | ⟨hk0, hk1, hi0⟩
  · rw [if_neg (fun h : okI s.st.length base k id => by have h1 := h.1; have h2 := h.2.1; omega)] at hR
    subst hR
    rcases hc with hc | ⟨hc, hc2⟩ | ⟨hc, hc2, hc3⟩
    · go_enter Try.func32, Try.ntmps32
      go_wp2_with (fail)
      refine (enc_bad HE.out).mono ?_
      rintro e W2 ⟨rfl, rfl⟩
      go_wp2_with (fail)
      go_ret
      exact ⟨rfl, FIN.out _ (Below.refl _ _)⟩
    · go_enter Try.func32, Try.ntmps32
      go_wp2_with (fail)
      refine (enc_bad HE.out).mono ?_
      rintro e W2 ⟨rfl, rfl⟩
      go_wp2_with (fail)
      go_ret
      exact ⟨rfl, FIN.out _ (Below.refl _ _)⟩
    · go_enter Try.func32, Try.ntmps32
      go_wp2_with (fail)
      refine (enc_bad HE.out).mono ?_
      rintro e W2 ⟨rfl, rfl⟩
      go_wp2_with (fail)
      go_ret
      exact ⟨rfl, FIN.out _ (Below.refl _ _)⟩
  obtain ⟨m, hm⟩ : ∃ m : Int, (2 : Int) ^ k.toNat = m := ⟨_, rfl⟩
  have hm2 := pow_small hk0 hk1
  rw [hm] at hm2
  have w1 : IntKind.i64.wrap m = m := IntWalk.i64_in m (by omega)
  by_cases hid : m ≤ id
  · rw [if_neg (fun h : okI s.st.length base k id => by have h2 := h.2.1; rw [hm] at h2; omega)] at hR
    subst hR
    have hk0' : ¬ k < 0 := by omega
    have hk1' : ¬ 10 < k := by omega
    have hi0' : ¬ id < 0 := by omega
    have hk64 : k ≤ 64 := by omega
    go_enter Try.func32, Try.ntmps32
    go_wp2_with (fail)
    refine (enc_bad HE.out).mono ?_
    rintro e W2 ⟨rfl, rfl⟩
    go_wp2_with (fail)
    go_ret
    exact ⟨rfl, FIN.out _ (Below.refl _ _)⟩
  · have hid2 : id < m := by omega
    have hk0' : ¬ k < 0 := by omega
    have hk1' : ¬ 10 < k := by omega
    have hi0' : ¬ id < 0 := by omega
    have hk64 : k ≤ 64 := by omega
    go_enter Try.func32, Try.ntmps32
    go_wp2_with (fail)
    refine (enc_bad HE.out).mono ?_
    rintro e W2 ⟨rfl, rfl⟩
    go_wp2_with (fail)
    have w3 : IntKind.i64.wrap (IntKind.i64.wrap m - 1) = m - 1 := by rw [w1]; exact IntWalk.i64_in _ (by omega)
    have hMd : ∀ W : World, Below w.heap.size w W → Calls Try.prog 42 #[.pointer (some ⟨g, 0, none⟩)] W (ModelPost W s.kind s.st) := fun W H => model_calls W S g s (HE.out.below H) HOK.out
    have hFt : ∀ (A : Option Addr) (c : Nat) (W : World), Calls Try.prog 57 #[.agg #[.int .i64 s.kind, .slice A s.st.length c], .int .i64 base, .int .i64 (m - 1)] W fun e w' => e = .returned (.int .i64 (if hasRoom s.st.length base (m - 1) then 0 else 2)) ∧ Below W.heap.size W w' := fun A c W => fits_calls s.kind A s.st.length c base (m - 1) W hln (by omega) (by omega)
    obtain ⟨rm, hrm⟩ : ∃ rm : Int, (if hasRoom s.st.length base (m - 1) then 0 else 2) = rm := ⟨_, rfl⟩
    rw [hrm] at hFt
    have HB := Aside0.mk (below_drew (Below.refl w.heap.size w))
    clear w1
    go_region_with (first
      | (go_at_call 42; refine (hMd _ HB.out).mono ?_; rintro e W8 ⟨A8, c8, rfl, -, hb8⟩; have HB8 := Aside0.mk (below_then HB.out HB.out.size hb8); clear hb8)
      | (go_at_call 57; refine (hFt A8 c8 W8).mono ?_; rintro e W9 ⟨rfl, hb9⟩; have HB9 := Aside0.mk (below_then HB8.out HB8.out.size hb9); clear hb9))
    clear HB HB8 hMd hFt w3
    by_cases hroom : hasRoom s.st.length base (m - 1)
    · have hoki : okI s.st.length base k id := ⟨⟨hk0, hk1⟩, ⟨hi0, by rw [hm]; exact hid2⟩, by rw [hm]; exact hroom⟩
      rw [if_pos hroom] at hrm
      subst hrm
      rw [if_pos hoki] at hR
      have HGD := Aside0.mk (putsE_good (idE base id k.toNat 1) s (putI_goodE hoki))
      have hEl := Aside0.mk (show (idE base id k.toNat 1).length ≤ 10 by rw [idE_len]; omega)
      obtain ⟨E, hE⟩ : ∃ x, idE base id k.toNat 1 = x := ⟨_, rfl⟩
      rw [hE] at HGD hR hEl
      have hrb : 0 ≤ base ∧ base ≤ 8192 := by unfold hasRoom at hroom; omega
      have hm1 : ((1 : Int) + 1) * 2 ^ k.toNat ≤ 2048 := by rw [hm]; omega
      have HN9 := Aside0.mk (Kd.R_nil k87 87 W9 W9.heap.size (fun _ => True))
      have HD9 := Aside0.mk (Below.refl W9.heap.size W9)
      have hid3 : id < 2048 := by omega
      clear hroom hoki hm
      go_wp2_with (fail)
      go_loopw [10, 11, 12] (fun x v i wr => ∃ (r : Nat) (p q : Int) (pre : List S87), q = (r : Int) - 1 ∧ r ≤ 10 ∧ x = .int .i64 p ∧ i = .int .i64 q ∧ 1 ≤ p ∧ (p + 1) * 2 ^ r ≤ 2048 ∧ pre ++ idE base id r p = E ∧ Aside0 (Kd.R k87 87 wr W9.heap.size (fun _ => True) v pre) ∧ Aside0 (Below W9.heap.size W9 wr)) (fun _ _ i _ => (intOf i + 1).toNat)
      case atStart => exact ⟨k.toNat, 1, k - 1, [], by omega, by omega, rfl, by first | rfl | go_num, by decide, hm1, hE, HN9, HD9⟩
      clear HN9 HD9 hE hm1
      case round =>
        obtain ⟨r, p, q, pre, hq, hr, rfl, rfl, hp1, hpr, hpre, HR, HD⟩ := hrel
        rcases r with _ | r
        · have hqn : ¬ (0 : Int) ≤ q := by omega
          unfold idE at hpre
          rw [List.append_nil] at hpre
          subst hpre
          obtain ⟨Av, cv, hv⟩ := Kd.R_slice HR.out
          subst hv
          have HBr := Aside0.mk (below_then HB9.out HB9.out.size HD.out)
          have hpl : pre.length ≤ 10 := hEl.out
          have HQ := Aside0.mk (nput_calls wr S g s Av cv pre (HE.out.below HBr.out) (fun k hk => Nat.lt_of_lt_of_le (HS.out k hk) HBr.out.size) HOK.out (by omega) (fun W hM => (Kd.R_reads' (Kd.R_step (w1 := W) (Kd.R_bound HR.out) (fun k hk hlt => hM.block k hlt (fun hs => by have := HS.out k hs; have := hk.2.1; have := HB9.out.size; omega)))).2.2) _ rfl)
          rw [HGD.out] at HQ
          subst hR
          go_wp2_with (fail)
          refine HQ.out.mono ?_
          rintro e W7 ⟨rfl, hP⟩
          have HP := Aside0.mk (PW.lift HBr.out hP)
          clear hP
          go_wp2_with (fail)
          go_ret
          exact ⟨rfl, HP.out⟩
        · obtain rfl : q = (r : Int) := by omega
          have hq0 : (0 : Int) ≤ (r : Int) := by omega
          unfold idE at hpre
          have hbit := id_bit hi0 hid3 r
          obtain ⟨bt, hbt⟩ : ∃ x, id / 2 ^ r % 2 = x := ⟨_, rfl⟩
          have hb01 : 0 ≤ bt ∧ bt ≤ 1 := by omega
          rw [hbt] at hbit hpre
          obtain ⟨hp2, hpr2, hp3⟩ := p_step hp1 hpr hb01
          have hprel : pre.length ≤ 20 := by
            have h1 := congrArg List.length hpre
            rw [List.length_append] at h1
            have h2 := hEl.out
            omega
          have HPL := Aside0.mk hprel
          have HPRE := Aside0.mk hpre
          have HPR2 := Aside0.mk hpr2
          clear hpre hprel hbt hpr hpr2 hq
          go_wp2_with ((with_reducible refine gate_builtin (b := .append) (xs := #[.tmp 53, .tmp 60]) rfl ?_); at_builtin; refine Kd.R_append k87 (w0 := W9) W9.heap.size rfl (.tmp 53) (.tmp 60) 24 87 (.agg #[(.int .i64 0), (.int .i64 0)]) 16 rfl Try.underlying24 info87 rfl (by decide) (by decide) u11 pre (⟨base + p - 1, bt⟩ : S87) [.int .i64 (base + p - 1), .int .i64 bt] (fun _ => True) (fun _ => False) rfl ?aX (k87_mkM _ _ _ (⟨base + p - 1, bt⟩ : S87)) (fun _ hk => hk.elim) (fun _ _ => trivial) HR.out HD.out HD.out.size ?aL ?_; (case aX => first | (go_simp; done) | rfl); (case aL => have := HPL.out; omega); intro v2 w3 ho hb2 hgr hat; have HR5 := Aside0.mk ho; have HD5 := Aside0.mk hb2; clear ho hb2 hgr hat)
          exact ⟨⟨r, 2 * p + bt, (r : Int) - 1, _, rfl, by omega, by first | rfl | go_num, by first | rfl | go_num, hp2, HPR2.out, by rw [List.append_assoc]; exact HPRE.out, HR5, HD5⟩, by simp [intOf] <;> omega⟩
    · rw [if_neg hroom] at hrm
      subst hrm
      rw [if_neg (fun h : okI s.st.length base k id => hroom (by have h2 := h.2.2; rw [hm] at h2; exact h2))] at hR
      subst hR
      go_wp2_with (fail)
      go_ret
      exact ⟨rfl, FIN.out _ HB9.out⟩
theorem isid2_calls (k id : Int) (w : World) (b : Bool) (hb : decide ((0 ≤ k ∧ k ≤ 10) ∧ 0 ≤ id ∧ id < 2 ^ k.toNat) = b) :
    Calls Try.prog 58 #[.int .i64 k, .int .i64 id] w fun e w' => e = .returned (.bool b) ∧ Below w.heap.size w w' := by
  refine (Go.Proofs.Ytlnhahnnjbfjdaa.U.incunableref03_isId.calls k id b w ?_).mono ?_
  · unfold Go.Proofs.Ytlnhahnnjbfjdaa.U.incunableref03_isId.f
    by_cases c0 : k ≥ 0
    · rw [if_pos c0]
      by_cases c1 : k ≤ 10
      · rw [if_pos c1]
        by_cases c2 : id ≥ 0
        · rw [if_pos c2, if_pos c0]
          have hm2 := pow_small c0 c1
          have : shl .i64 1 k = 2 ^ k.toNat := by
            unfold shl
            rw [show min k.toNat IntKind.i64.bits = k.toNat from Nat.min_eq_left (by have : IntKind.i64.bits = 64 := rfl; omega), Int.one_mul]
            exact IntWalk.i64_in _ (by omega)
          rw [this, ← hb]
          congr 1
          by_cases c3 : id < 2 ^ k.toNat
          · rw [decide_eq_true c3, decide_eq_true (show (0 ≤ k ∧ k ≤ 10) ∧ 0 ≤ id ∧ id < 2 ^ k.toNat from ⟨⟨c0, c1⟩, c2, c3⟩)]
          · rw [decide_eq_false c3, decide_eq_false (fun h => c3 h.2.2)]
        · rw [if_neg c2, ← hb, decide_eq_false (fun h => c2 h.2.1)]
      · rw [if_neg c1, ← hb, decide_eq_false (fun h => c1 h.1.2)]
    · rw [if_neg c0, ← hb, decide_eq_false (fun h => c0 h.1.1)]
  · rintro e W ⟨rfl, hd⟩
    exact ⟨rfl, drawn_below hd⟩
set_option maxHeartbeats 2000000 in
set_option maxRecDepth 100000 in
theorem rPutId_calls (w : World) (S : Nat → Prop) (g : Nat) (s : ES) (base k id : Int) (h : RefAt w S g s) (hS : ∀ k, S k → k < w.heap.size) (hok : s.ok) (hlen : s.out.length ≤ 1099511620000) (R : ES × Int) (hR : putI base k id s = R) :
    Calls Try.prog 37 #[.pointer (some ⟨g, 0, none⟩), .int .i64 base, .int .i64 k, .int .i64 id] w fun e W => e = .returned (.int .i64 R.2) ∧ PW RefAt w S g R.1 W := by
  have HE := Aside0.mk h
  have HS := Aside0.mk hS
  have HOK := Aside0.mk hok
  have hln : s.st.length ≤ 8192 := hok.m.2.1
  have fin : ∀ W : World, Below w.heap.size w W → PW RefAt w S g s W := fun W hb => (PW.start (At := RefAt) HE.out HS.out HOK.out).below hb
  have FIN := Aside0.mk fin
  unfold putI at hR
  clear h hS hok fin
  by_cases hc : (0 ≤ k ∧ k ≤ 10) ∧ 0 ≤ id ∧ id < 2 ^ k.toNat
  · obtain ⟨⟨hk0, hk1⟩, hi0, hi1⟩ := hc
    have hId : ∀ W : World, Calls Try.prog 58 #[.int .i64 k, .int .i64 id] W fun e w' => e = .returned (.bool true) ∧ Below W.heap.size W w' := fun W => isid2_calls k id W true (decide_eq_true ⟨⟨hk0, hk1⟩, hi0, hi1⟩)
    obtain ⟨m, hm⟩ : ∃ m : Int, (2 : Int) ^ k.toNat = m := ⟨_, rfl⟩
    have hm2 := pow_small hk0 hk1
    rw [hm] at hm2
    have w3 : IntKind.i64.wrap (IntKind.i64.wrap m - 1) = m - 1 := by rw [IntWalk.i64_in m (by omega)]; exact IntWalk.i64_in _ (by omega)
    have hk64 : k ≤ 64 := by omega
    have hMd : ∀ W : World, Below w.heap.size w W → Calls Try.prog 43 #[.pointer (some ⟨g, 0, none⟩)] W (ModelPost W s.kind s.st) := fun W H => ref_model_calls W S g s (HE.out.below H) HOK.out
    have hFt : ∀ (W : World), Calls Try.prog 59 #[.int .i64 s.st.length, .int .i64 base, .int .i64 (m - 1)] W fun e w' => e = .returned (.bool (decide (hasRoom s.st.length base (m - 1)))) ∧ Below W.heap.size W w' := fun W => room_calls s.st.length base (m - 1) W (by omega) (by omega)
    obtain ⟨rm, hrm⟩ : ∃ rm : Bool, decide (hasRoom s.st.length base (m - 1)) = rm := ⟨_, rfl⟩
    rw [hrm] at hFt
    have hfd := fun (A : Option Addr) (c : Nat) (W : World) => fld s.kind (.slice A s.st.length c) W
    have HB := Aside0.mk (below_drew (Below.refl w.heap.size w))
    have hid3 : id < 2048 := by omega
    go_enter Try.func37, Try.ntmps37
    go_wp2_with (fail)
    go_region_with (first
      | (go_at_call 58; refine (hId _).mono ?_; rintro e W7 ⟨rfl, hb7⟩; have HB7 := Aside0.mk (below_then HB.out HB.out.size hb7); clear hb7)
      | (go_at_call 43; refine (hMd _ HB7.out).mono ?_; rintro e W8 ⟨A8, c8, rfl, -, hb8⟩; have HB8 := Aside0.mk (below_then HB7.out HB7.out.size hb8); clear hb8; have hfd8 := hfd A8 c8 W8)
      | (go_at_call 59; refine (hFt W8).mono ?_; rintro e W9 ⟨rfl, hb9⟩; have HB9 := Aside0.mk (below_then HB8.out HB8.out.size hb9); clear hb9))
    clear HB HB7 HB8 hId hMd hFt hfd hfd8 w3
    by_cases hroom : hasRoom s.st.length base (m - 1)
    · have hoki : okI s.st.length base k id := ⟨⟨hk0, hk1⟩, ⟨hi0, hi1⟩, by rw [hm]; exact hroom⟩
      rw [decide_eq_true hroom] at hrm
      subst hrm
      rw [if_pos hoki] at hR
      have HGD := Aside0.mk (putI_goodE hoki)
      have hrb : 0 ≤ base ∧ base ≤ 8192 := by unfold hasRoom at hroom; omega
      have hm1 : ((1 : Int) + 1) * 2 ^ k.toNat ≤ 2048 := by rw [hm]; omega
      have HP9 := Aside0.mk (FIN.out _ HB9.out)
      obtain ⟨F, hF⟩ : ∃ x, putsE s (idE base id k.toNat 1) = x := ⟨_, rfl⟩
      rw [hF] at hR
      clear hroom hoki hm
      go_wp2_with (fail)
      go_loopw [9, 10] (fun x i wr => ∃ (r : Nat) (p q : Int) (s1 : ES), q = (r : Int) - 1 ∧ r ≤ k.toNat ∧ x = .int .i64 p ∧ i = .int .i64 q ∧ 1 ≤ p ∧ (p + 1) * 2 ^ r ≤ 2048 ∧ putsE s1 (idE base id r p) = F ∧ Aside0 ((idE base id r p).all (goodL s.st.length) = true) ∧ Aside0 (s1.st.length = s.st.length) ∧ s1.out.length + 4 * r ≤ s.out.length + 4 * k.toNat ∧ Aside0 (PW RefAt w S g s1 wr)) (fun _ i _ => (intOf i + 1).toNat)
      case atStart => exact ⟨k.toNat, 1, k - 1, s, by omega, Nat.le_refl _, rfl, by first | rfl | go_num, by decide, hm1, hF, HGD, ⟨rfl⟩, Nat.le_refl _, HP9⟩
      clear HP9 hF hm1 HGD
      case round =>
        obtain ⟨r, p, q, s1, hq, hr, rfl, rfl, hp1, hpr, hpu, HG, HL, hsn, HP⟩ := hrel
        rcases r with _ | r
        · have hqn : ¬ (0 : Int) ≤ q := by omega
          have hpu2 : (s1, 0) = F := hpu
          subst hpu2
          subst hR
          go_wp2_with (fail)
          go_ret
          exact ⟨rfl, HP.out⟩
        · obtain rfl : q = (r : Int) := by omega
          have hq0 : (0 : Int) ≤ (r : Int) := by omega
          have hbit := id_bit hi0 hid3 r
          obtain ⟨bt, hbt⟩ : ∃ x, id / 2 ^ r % 2 = x := ⟨_, rfl⟩
          have hb01 : 0 ≤ bt ∧ bt ≤ 1 := by omega
          have hg := HG.out
          unfold idE at hpu hg
          rw [hbt] at hbit hpu hg
          rw [List.all_cons, Bool.and_eq_true] at hg
          obtain ⟨hp2, hpr2, hp3⟩ := p_step hp1 hpr hb01
          have her : s1.err (base + p - 1) bt = 0 := by
            unfold ES.err
            have e : s1.good (base + p - 1) bt = goodL s1.st.length ⟨base + p - 1, bt⟩ := rfl
            rw [e, HL.out, if_pos hg.1]
          unfold putsE at hpu
          rw [if_pos her] at hpu
          have hle2 := (ES.putI_len s1 (base + p - 1) bt).1
          have hst2 := (ES.putI_len s1 (base + p - 1) bt).2.2
          clear hq
          have hq := HP.out.rput (by omega) (base + p - 1) bt
          rw [her] at hq
          have HQ := Aside0.mk hq
          have HG2 := Aside0.mk hg.2
          have HL2 := Aside0.mk (hst2.trans HL.out)
          have HPR2 := Aside0.mk hpr2
          have HPU := Aside0.mk hpu
          have HLE := Aside0.mk (show (s1.putI (base + p - 1) bt).out.length + 4 * r ≤ s.out.length + 4 * k.toNat by omega)
          have HRK := Aside0.mk (show r ≤ k.toNat by omega)
          have hr64 : r ≤ 64 := by omega
          clear hq hg hbt hpr hpr2 her hst2 hpu hle2 hsn hr
          go_wp2_with (fail)
          refine HQ.out.mono ?_
          rintro e W7 ⟨rfl, hP⟩
          have HP7 := Aside0.mk hP
          clear hP
          go_wp2_with (fail)
          exact ⟨⟨r, 2 * p + bt, (r : Int) - 1, _, rfl, HRK.out, by first | rfl | go_num, by first | rfl | go_num, hp2, HPR2.out, HPU.out, HG2, HL2, HLE.out, HP7⟩, by simp [intOf] <;> omega⟩
    · rw [decide_eq_false hroom] at hrm
      subst hrm
      rw [if_neg (fun h : okI s.st.length base k id => hroom (by have h2 := h.2.2; rw [hm] at h2; exact h2))] at hR
      subst hR
      go_wp2_with (fail)
      go_ret
      exact ⟨rfl, FIN.out _ HB9.out⟩
  · rw [if_neg (fun h : okI s.st.length base k id => hc ⟨h.1, h.2.1⟩)] at hR
    subst hR
    have hId : ∀ W : World, Calls Try.prog 58 #[.int .i64 k, .int .i64 id] W fun e w' => e = .returned (.bool false) ∧ Below W.heap.size W w' := fun W => isid2_calls k id W false (decide_eq_false hc)
    go_enter Try.func37, Try.ntmps37
    go_wp2_with (fail)
    have HB := Aside0.mk (Below.refl w.heap.size w)
    have HB_0 := Aside0.mk (below_drew1 HB.out)
    clear  HB
    refine start_ (n := 16) (S := fun w' => True) (ds := []) #[false, false, false, false, false, false, false, false, false, false, false, false, false, false, false, false] (by kernel_rfl) rfl rfl trivial (fun hHeld => ?_)
    refine pure_ (i := 0) (N := some 12) (v := ?_) (a' := ?_) #[true, false, false, false, false, false, false, false, false, false, false, false, false, false, false, false] rfl rfl (by kernel_rfl) (fun _ _ _ h => h) (Or.inl ⟨by rfl, ?_⟩) ?_ ?_
    rotate_left
    · intro w'
      go_simp
      with_reducible rfl
    rotate_left
    · simp only [Act.put, List.setIfInBounds_toArray, List.set_cons_zero, List.set_cons_succ, i64_w, i32_w]
      rfl
    refine pure_ (i := 1) (N := some 13) (v := ?_) (a' := ?_) #[true, true, false, false, false, false, false, false, false, false, false, false, false, false, false, false] rfl rfl (by kernel_rfl) (fun _ _ _ h => h) (Or.inl ⟨by rfl, ?_⟩) ?_ ?_
    rotate_left
    · intro w'
      go_simp
      with_reducible rfl
    rotate_left
    · simp only [Act.put, List.setIfInBounds_toArray, List.set_cons_zero, List.set_cons_succ, i64_w, i32_w]
      rfl
    refine one_ (i := 2) (N := some 14) #[true, true, true, false, false, false, false, false, false, false, false, false, false, false, false, false] rfl rfl (by kernel_rfl) (by decide) (fun K hK => ?_)
    refine goes_ Try.func58 (by kernel_rfl) rfl #[.int .i64 k, .int .i64 id] (by rfl) rfl rfl (by simp only [List.map_toArray, List.map_cons, List.map_nil]; rfl) ?_
    with_reducible refine (hId _).mono ?_
    rintro e wk1 ⟨rfl, hk1⟩
    refine ⟨_, rfl, ?_⟩
    have HB_1 := Aside0.mk (below_then HB_0.out HB_0.out.size hk1)
    clear  HB_0 hk1
    refine hK.out _ _ trivial (fun hHeld => ?_)
    clear hK K
    refine norm_ (a' := ?_) ?_ ?_
    rotate_left
    · show Act.put _ (some 14) _ = _
      simp only [Act.put, List.setIfInBounds_toArray, List.set_cons_zero, List.set_cons_succ, i64_w, i32_w]
      rfl
    refine pure_ (i := 3) (N := some 15) (v := ?_) (a' := ?_) #[true, true, true, true, false, false, false, false, false, false, false, false, false, false, false, false] rfl rfl (by kernel_rfl) (fun _ _ _ h => h) (Or.inl ⟨by rfl, ?_⟩) ?_ ?_
    rotate_left
    · intro w'
      go_simp
      with_reducible rfl
    rotate_left
    · simp only [Act.put, List.setIfInBounds_toArray, List.set_cons_zero, List.set_cons_succ, i64_w, i32_w]
      rfl
    refine pure_ (i := 4) (N := some 16) (v := ?_) (a' := ?_) #[true, true, true, true, true, false, false, false, false, false, false, false, false, false, false, false] rfl rfl (by kernel_rfl) (fun _ _ _ h => h) (Or.inl ⟨by rfl, ?_⟩) ?_ ?_
    rotate_left
    · intro w'
      go_simp
      with_reducible rfl
    rotate_left
    · simp only [Act.put, List.setIfInBounds_toArray, List.set_cons_zero, List.set_cons_succ, i64_w, i32_w]
      rfl
    refine pure_ (i := 5) (N := some 17) (v := undef) (a' := ?_) #[true, true, true, true, true, true, false, false, false, false, false, false, false, false, false, false] rfl rfl (by kernel_rfl) (fun _ _ _ h => h) (Or.inr ⟨by rfl, rfl⟩) ?_ ?_
    rotate_left
    · simp only [Act.put, List.setIfInBounds_toArray, List.set_cons_zero, List.set_cons_succ, i64_w, i32_w]
      rfl
    refine pure_ (i := 6) (N := some 18) (v := undef) (a' := ?_) #[true, true, true, true, true, true, true, false, false, false, false, false, false, false, false, false] rfl rfl (by kernel_rfl) (fun _ _ _ h => h) (Or.inr ⟨by rfl, rfl⟩) ?_ ?_
    rotate_left
    · simp only [Act.put, List.setIfInBounds_toArray, List.set_cons_zero, List.set_cons_succ, i64_w, i32_w]
      rfl
    refine pure_ (i := 7) (N := some 19) (v := undef) (a' := ?_) #[true, true, true, true, true, true, true, true, false, false, false, false, false, false, false, false] rfl rfl (by kernel_rfl) (fun _ _ _ h => h) (Or.inr ⟨by rfl, rfl⟩) ?_ ?_
    rotate_left
    · simp only [Act.put, List.setIfInBounds_toArray, List.set_cons_zero, List.set_cons_succ, i64_w, i32_w]
      rfl
    refine pure_ (i := 8) (N := some 20) (v := undef) (a' := ?_) #[true, true, true, true, true, true, true, true, true, false, false, false, false, false, false, false] rfl rfl (by kernel_rfl) (fun _ _ _ h => h) (Or.inr ⟨by rfl, rfl⟩) ?_ ?_
    rotate_left
    · simp only [Act.put, List.setIfInBounds_toArray, List.set_cons_zero, List.set_cons_succ, i64_w, i32_w]
      rfl
    refine pure_ (i := 9) (N := some 21) (v := undef) (a' := ?_) #[true, true, true, true, true, true, true, true, true, true, false, false, false, false, false, false] rfl rfl (by kernel_rfl) (fun _ _ _ h => h) (Or.inr ⟨by rfl, rfl⟩) ?_ ?_
    rotate_left
    · simp only [Act.put, List.setIfInBounds_toArray, List.set_cons_zero, List.set_cons_succ, i64_w, i32_w]
      rfl
    refine pure_ (i := 10) (N := some 22) (v := undef) (a' := ?_) #[true, true, true, true, true, true, true, true, true, true, true, false, false, false, false, false] rfl rfl (by kernel_rfl) (fun _ _ _ h => h) (Or.inr ⟨by rfl, rfl⟩) ?_ ?_
    rotate_left
    · simp only [Act.put, List.setIfInBounds_toArray, List.set_cons_zero, List.set_cons_succ, i64_w, i32_w]
      rfl
    refine pure_ (i := 11) (N := some 23) (v := undef) (a' := ?_) #[true, true, true, true, true, true, true, true, true, true, true, true, false, false, false, false] rfl rfl (by kernel_rfl) (fun _ _ _ h => h) (Or.inr ⟨by rfl, rfl⟩) ?_ ?_
    rotate_left
    · simp only [Act.put, List.setIfInBounds_toArray, List.set_cons_zero, List.set_cons_succ, i64_w, i32_w]
      rfl
    refine pure_ (i := 12) (N := some 24) (v := undef) (a' := ?_) #[true, true, true, true, true, true, true, true, true, true, true, true, true, false, false, false] rfl rfl (by kernel_rfl) (fun _ _ _ h => h) (Or.inr ⟨by rfl, rfl⟩) ?_ ?_
    rotate_left
    · simp only [Act.put, List.setIfInBounds_toArray, List.set_cons_zero, List.set_cons_succ, i64_w, i32_w]
      rfl
    refine pure_ (i := 13) (N := some 25) (v := undef) (a' := ?_) #[true, true, true, true, true, true, true, true, true, true, true, true, true, true, false, false] rfl rfl (by kernel_rfl) (fun _ _ _ h => h) (Or.inr ⟨by rfl, rfl⟩) ?_ ?_
    rotate_left
    · simp only [Act.put, List.setIfInBounds_toArray, List.set_cons_zero, List.set_cons_succ, i64_w, i32_w]
      rfl
    refine pure_ (i := 14) (N := some 26) (v := undef) (a' := ?_) #[true, true, true, true, true, true, true, true, true, true, true, true, true, true, true, false] rfl rfl (by kernel_rfl) (fun _ _ _ h => h) (Or.inr ⟨by rfl, rfl⟩) ?_ ?_
    rotate_left
    · simp only [Act.put, List.setIfInBounds_toArray, List.set_cons_zero, List.set_cons_succ, i64_w, i32_w]
      rfl
    refine pure_ (i := 15) (N := some 27) (v := ?_) (a' := ?_) #[true, true, true, true, true, true, true, true, true, true, true, true, true, true, true, true] rfl rfl (by kernel_rfl) (fun _ _ _ h => h) (Or.inl ⟨by rfl, ?_⟩) ?_ ?_
    rotate_left
    · intro w'
      go_simp
      with_reducible rfl
    rotate_left
    · simp only [Act.put, List.setIfInBounds_toArray, List.set_cons_zero, List.set_cons_succ, i64_w, i32_w]
      rfl
    refine done_ (by kernel_rfl) ?_
    have HB := HB_1
    clear HB_1
    go_wp2_with (fail)
    go_ret
    exact ⟨rfl, FIN.out _ HB.out⟩
end Go.Proofs.Ytlnhahnnjbfjdaa.Npi
namespace Go.Proofs.Ytlnhahnnjbfjdaa.U
open Go.RowKit Go.Proofs.YtlnhahnnjbfjdaaW.PrintWords Go.Proofs.YtlnhahnnjbfjdaaW.PrintLast Go.Proofs.YtlnhahnnjbfjdaaW.PrintMore
attribute [local go_sem] max2_int min2_int max_two min_two max_three min_three max_four min_four   -- for this text's walks alone
mutual
def incunablelaw03_sameModel.j0 : Nat → Bool → Int → List Int → Int → List Int → Option (Bool)
  | 0, _, _, _, _, _ => none
  | k + 1, x19, x302000, x302001, x303000, x303001 => if x19 = true then (some false) else (incunablelaw03_sameModel.l0 k 0 x302000 x302001 x303000 x303001)
def incunablelaw03_sameModel.l0 : Nat → Int → Int → List Int → Int → List Int → Option (Bool)
  | 0, _, _, _, _, _ => none
  | k + 1, x5, x302000, x302001, x303000, x303001 => if x5 < (x302001.length : Int) then (if 0 ≤ x5 then (if x5 < (x303001.length : Int) then (if (rd x302001 x5) = (rd x303001 x5) then (incunablelaw03_sameModel.l0 k (wrap64 (x5 + 1)) x302000 x302001 x303000 x303001) else (some false)) else (none)) else (none)) else (some true)
end
def incunablelaw03_sameModel.f (k : Nat) (a0_0 : Int) (l0_1 : List Int) (a1_0 : Int) (l1_1 : List Int) : Option (Bool) := if a0_0 = a1_0 then (incunablelaw03_sameModel.j0 k ((l0_1.length : Int) != (l1_1.length : Int)) a0_0 l0_1 a1_0 l1_1) else (incunablelaw03_sameModel.j0 k true a0_0 l0_1 a1_0 l1_1)
theorem incunablelaw03_sameModel.mono_l : ∀ k, (∀ y0 y1 y2 y3 y4, LeO (incunablelaw03_sameModel.j0 k y0 y1 y2 y3 y4) (incunablelaw03_sameModel.j0 (k + 1) y0 y1 y2 y3 y4)) ∧ (∀ y0 y1 y2 y3 y4, LeO (incunablelaw03_sameModel.l0 k y0 y1 y2 y3 y4) (incunablelaw03_sameModel.l0 (k + 1) y0 y1 y2 y3 y4))
  | 0 => ⟨fun _ _ _ _ _ r h => by simp [incunablelaw03_sameModel.j0] at h, fun _ _ _ _ _ r h => by simp [incunablelaw03_sameModel.l0] at h⟩
  | k + 1 => by
    obtain ⟨ih0, ih1⟩ := incunablelaw03_sameModel.mono_l k
    refine ⟨?_, ?_⟩
    · intro y0 y1 y2 y3 y4
      unfold incunablelaw03_sameModel.j0
      repeat' first
      | (with_reducible exact ih0 _ _ _ _ _)
      | (with_reducible exact ih1 _ _ _ _ _)
      | (with_reducible exact LeO.refl _)
      | (with_reducible exact LeO.none _)
      | (with_reducible refine LeO.ite ?_ ?_)
      | (with_reducible refine LeO.bind ?_ (fun _ => ?_))
      | exact ih0 _ _ _ _ _
      | exact ih1 _ _ _ _ _
      | exact LeO.none _
      | refine LeO.ite ?_ ?_
      | refine LeO.bind ?_ (fun _ => ?_)
    · intro y0 y1 y2 y3 y4
      unfold incunablelaw03_sameModel.l0
      repeat' first
      | (with_reducible exact ih0 _ _ _ _ _)
      | (with_reducible exact ih1 _ _ _ _ _)
      | (with_reducible exact LeO.refl _)
      | (with_reducible exact LeO.none _)
      | (with_reducible refine LeO.ite ?_ ?_)
      | (with_reducible refine LeO.bind ?_ (fun _ => ?_))
      | exact ih0 _ _ _ _ _
      | exact ih1 _ _ _ _ _
      | exact LeO.none _
      | refine LeO.ite ?_ ?_
      | refine LeO.bind ?_ (fun _ => ?_)
theorem incunablelaw03_sameModel.mono : ∀ a0 a1 a2 a3 k, LeO (incunablelaw03_sameModel.f k a0 a1 a2 a3) (incunablelaw03_sameModel.f (k + 1) a0 a1 a2 a3) := by
 intro a0 a1 a2 a3 k; obtain ⟨ih0, ih1⟩ := incunablelaw03_sameModel.mono_l k; unfold incunablelaw03_sameModel.f
 repeat' first
  | (with_reducible exact ih0 _ _ _ _ _)
  | (with_reducible exact ih1 _ _ _ _ _)
  | (with_reducible exact LeO.refl _)
  | (with_reducible exact LeO.none _)
  | (with_reducible refine LeO.ite ?_ ?_)
  | (with_reducible refine LeO.bind ?_ (fun _ => ?_))
  | exact ih0 _ _ _ _ _
  | exact ih1 _ _ _ _ _
  | exact LeO.none _
  | refine LeO.ite ?_ ?_
  | refine LeO.bind ?_ (fun _ => ?_)
set_option maxHeartbeats 8000000 in
set_option maxRecDepth 100000 in
theorem incunablelaw03_sameModel.calls (k : Nat) (a0_0 : Int) (A0_1 : Option Addr) (c0_1 : Nat) (l0_1 : List Int) (a1_0 : Int) (A1_1 : Option Addr) (c1_1 : Nat) (l1_1 : List Int) (r : Bool) (w : World) (hr0_1 : Kd.C (Kd.int .i64) w A0_1 l0_1.length l0_1) (hc0_1 : l0_1.length ≤ c0_1) (hr1_1 : Kd.C (Kd.int .i64) w A1_1 l1_1.length l1_1) (hc1_1 : l1_1.length ≤ c1_1) (h : incunablelaw03_sameModel.f k a0_0 l0_1 a1_0 l1_1 = some r) :
    Calls Try.prog 41 #[.agg #[.int .i64 a0_0, .slice A0_1 l0_1.length c0_1], .agg #[.int .i64 a1_0, .slice A1_1 l1_1.length c1_1]] w fun e w' => e = .returned (.bool r) ∧ Below w.heap.size w w' := by
 have hu45 := Try.underlying45; have HR0_1 := Aside0.mk hr0_1; have HC0_1 := Aside0.mk hc0_1; clear hr0_1 hc0_1; have HR1_1 := Aside0.mk hr1_1; have HC1_1 := Aside0.mk hc1_1; clear hr1_1 hc1_1; have HB := Aside0.mk (Below.refl w.heap.size w); have H : (if a0_0 = a1_0 then (incunablelaw03_sameModel.j0 k ((l0_1.length : Int) != (l1_1.length : Int)) a0_0 l0_1 a1_0 l1_1) else (incunablelaw03_sameModel.j0 k true a0_0 l0_1 a1_0 l1_1)) = some r := h; clear h; have HC3 := Aside0.mk H; clear H; go_enter Try.func41, Try.ntmps41
 go_upto_region 1 with (first | ((with_reducible refine gate_dst (N := 2) rfl ?_); (try (refine gate_guard (by rfl) ?_; dsimp only)); refine box_event ?hg (N := 2) ?hd (cs := #[.int .i64 a0_0, .slice A0_1 l0_1.length c0_1]) (t := 45) ?hr ?_; (case hd => rfl); (case hg => rfl); (case hr => first | (go_simp; done) | (go_simp; rfl)); intro gb301 hg w4 hbox hb; have n0_ := Aside0.mk (below_step (by repeat (first | (with_reducible first | exact HB.out | apply below_alloc | apply pw_below_drewN | apply below_drew1) | exact HB.out)) hb); have n1_ := Aside0.mk (hbox); have n2_ := Aside0.mk ((by rw [hg]; exact (below_size (by repeat (first | (with_reducible first | exact HB.out | apply below_alloc | apply pw_below_drewN | apply below_drew1) | exact HB.out))) : w.heap.size ≤ gb301)); have n3_ := Aside0.mk ((by rw [hg]; exact (below_size (by repeat (first | (with_reducible first | exact HB.out | apply below_alloc | apply pw_below_drewN | apply below_drew1) | exact HB.out))) : w.heap.size ≤ gb301)); clear HB; have HB := n0_; have BK301 := n1_; have GW301 := n2_; have GE301 := n3_; clear n0_ n1_ n2_ n3_; clear hb hbox hg) | ((with_reducible refine gate_dst (N := 3) rfl ?_); (try (refine gate_guard (by rfl) ?_; dsimp only)); refine box_event ?hg (N := 3) ?hd (cs := #[.int .i64 a1_0, .slice A1_1 l1_1.length c1_1]) (t := 45) ?hr ?_; (case hd => rfl); (case hg => rfl); (case hr => first | (go_simp; done) | (go_simp; rfl)); intro gb302 hg w5 hbox hb; have n0_ := Aside0.mk (blk_below (g := gb301) (o := .cells #[.int .i64 a0_0, .slice A0_1 l0_1.length c0_1] 45 (0, 0)) (by (with_reducible repeat (first | refine blk_drewN ?_ _ | refine blk_drew ?_ | refine blk_alloc ?_ _)); exact BK301.out) hb); have n1_ := Aside0.mk (below_step (by repeat (first | (with_reducible first | exact HB.out | apply below_alloc | apply pw_below_drewN | apply below_drew1 | refine below_set ?_ GE301.out) | exact HB.out)) hb); have n2_ := Aside0.mk (hbox); have n3_ := Aside0.mk ((by rw [hg]; exact (below_size (by repeat (first | (with_reducible first | exact HB.out | apply below_alloc | apply pw_below_drewN | apply below_drew1 | refine below_set ?_ GE301.out) | exact HB.out))) : w.heap.size ≤ gb302)); have n4_ := Aside0.mk ((by rw [hg]; exact (below_size (by repeat (first | (with_reducible first | exact HB.out | apply below_alloc | apply pw_below_drewN | apply below_drew1 | refine below_set ?_ GE301.out) | exact HB.out))) : w.heap.size ≤ gb302)); have n5_ := Aside0.mk ((by rw [hg]; exact Nat.ne_of_lt (blk_lt (g := gb301) (o := .cells #[.int .i64 a0_0, .slice A0_1 l0_1.length c0_1] 45 (0, 0)) (by (with_reducible repeat (first | refine blk_drewN ?_ _ | refine blk_drew ?_ | refine blk_alloc ?_ _)); exact BK301.out)) : gb301 ≠ gb302)); have n6_ := Aside0.mk ((by rw [hg]; exact Nat.ne_of_gt (blk_lt (g := gb301) (o := .cells #[.int .i64 a0_0, .slice A0_1 l0_1.length c0_1] 45 (0, 0)) (by (with_reducible repeat (first | refine blk_drewN ?_ _ | refine blk_drew ?_ | refine blk_alloc ?_ _)); exact BK301.out)) : gb302 ≠ gb301)); clear BK301; clear HB; have BK301 := n0_; have HB := n1_; have BK302 := n2_; have GW302 := n3_; have GE302 := n4_; have NB301_302 := n5_; have NB302_301 := n6_; clear n0_ n1_ n2_ n3_ n4_ n5_ n6_; clear hb hbox hg))
 (repeat (go_quiet (first | ((with_reducible refine gate_dst (N := 2) rfl ?_); (try (refine gate_guard (by rfl) ?_; dsimp only)); refine box_event ?hg (N := 2) ?hd (cs := #[.int .i64 a0_0, .slice A0_1 l0_1.length c0_1]) (t := 45) ?hr ?_; (case hd => rfl); (case hg => rfl); (case hr => first | (go_simp; done) | (go_simp; rfl)); intro gb301 hg w4 hbox hb; have n0_ := Aside0.mk (below_step (by repeat (first | (with_reducible first | exact HB.out | apply below_alloc | apply pw_below_drewN | apply below_drew1) | exact HB.out)) hb); have n1_ := Aside0.mk (hbox); have n2_ := Aside0.mk ((by rw [hg]; exact (below_size (by repeat (first | (with_reducible first | exact HB.out | apply below_alloc | apply pw_below_drewN | apply below_drew1) | exact HB.out))) : w.heap.size ≤ gb301)); have n3_ := Aside0.mk ((by rw [hg]; exact (below_size (by repeat (first | (with_reducible first | exact HB.out | apply below_alloc | apply pw_below_drewN | apply below_drew1) | exact HB.out))) : w.heap.size ≤ gb301)); clear HB; have HB := n0_; have BK301 := n1_; have GW301 := n2_; have GE301 := n3_; clear n0_ n1_ n2_ n3_; clear hb hbox hg) | ((with_reducible refine gate_dst (N := 3) rfl ?_); (try (refine gate_guard (by rfl) ?_; dsimp only)); refine box_event ?hg (N := 3) ?hd (cs := #[.int .i64 a1_0, .slice A1_1 l1_1.length c1_1]) (t := 45) ?hr ?_; (case hd => rfl); (case hg => rfl); (case hr => first | (go_simp; done) | (go_simp; rfl)); intro gb302 hg w5 hbox hb; have n0_ := Aside0.mk (blk_below (g := gb301) (o := .cells #[.int .i64 a0_0, .slice A0_1 l0_1.length c0_1] 45 (0, 0)) (by (with_reducible repeat (first | refine blk_drewN ?_ _ | refine blk_drew ?_ | refine blk_alloc ?_ _)); exact BK301.out) hb); have n1_ := Aside0.mk (below_step (by repeat (first | (with_reducible first | exact HB.out | apply below_alloc | apply pw_below_drewN | apply below_drew1 | refine below_set ?_ GE301.out) | exact HB.out)) hb); have n2_ := Aside0.mk (hbox); have n3_ := Aside0.mk ((by rw [hg]; exact (below_size (by repeat (first | (with_reducible first | exact HB.out | apply below_alloc | apply pw_below_drewN | apply below_drew1 | refine below_set ?_ GE301.out) | exact HB.out))) : w.heap.size ≤ gb302)); have n4_ := Aside0.mk ((by rw [hg]; exact (below_size (by repeat (first | (with_reducible first | exact HB.out | apply below_alloc | apply pw_below_drewN | apply below_drew1 | refine below_set ?_ GE301.out) | exact HB.out))) : w.heap.size ≤ gb302)); have n5_ := Aside0.mk ((by rw [hg]; exact Nat.ne_of_lt (blk_lt (g := gb301) (o := .cells #[.int .i64 a0_0, .slice A0_1 l0_1.length c0_1] 45 (0, 0)) (by (with_reducible repeat (first | refine blk_drewN ?_ _ | refine blk_drew ?_ | refine blk_alloc ?_ _)); exact BK301.out)) : gb301 ≠ gb302)); have n6_ := Aside0.mk ((by rw [hg]; exact Nat.ne_of_gt (blk_lt (g := gb301) (o := .cells #[.int .i64 a0_0, .slice A0_1 l0_1.length c0_1] 45 (0, 0)) (by (with_reducible repeat (first | refine blk_drewN ?_ _ | refine blk_drew ?_ | refine blk_alloc ?_ _)); exact BK301.out)) : gb302 ≠ gb301)); clear BK301; clear HB; have BK301 := n0_; have HB := n1_; have BK302 := n2_; have GW302 := n3_; have GE302 := n4_; have NB301_302 := n5_; have NB302_301 := n6_; clear n0_ n1_ n2_ n3_ n4_ n5_ n6_; clear hb hbox hg)); go_upto_region 1 with (first | ((with_reducible refine gate_dst (N := 2) rfl ?_); (try (refine gate_guard (by rfl) ?_; dsimp only)); refine box_event ?hg (N := 2) ?hd (cs := #[.int .i64 a0_0, .slice A0_1 l0_1.length c0_1]) (t := 45) ?hr ?_; (case hd => rfl); (case hg => rfl); (case hr => first | (go_simp; done) | (go_simp; rfl)); intro gb301 hg w4 hbox hb; have n0_ := Aside0.mk (below_step (by repeat (first | (with_reducible first | exact HB.out | apply below_alloc | apply pw_below_drewN | apply below_drew1) | exact HB.out)) hb); have n1_ := Aside0.mk (hbox); have n2_ := Aside0.mk ((by rw [hg]; exact (below_size (by repeat (first | (with_reducible first | exact HB.out | apply below_alloc | apply pw_below_drewN | apply below_drew1) | exact HB.out))) : w.heap.size ≤ gb301)); have n3_ := Aside0.mk ((by rw [hg]; exact (below_size (by repeat (first | (with_reducible first | exact HB.out | apply below_alloc | apply pw_below_drewN | apply below_drew1) | exact HB.out))) : w.heap.size ≤ gb301)); clear HB; have HB := n0_; have BK301 := n1_; have GW301 := n2_; have GE301 := n3_; clear n0_ n1_ n2_ n3_; clear hb hbox hg) | ((with_reducible refine gate_dst (N := 3) rfl ?_); (try (refine gate_guard (by rfl) ?_; dsimp only)); refine box_event ?hg (N := 3) ?hd (cs := #[.int .i64 a1_0, .slice A1_1 l1_1.length c1_1]) (t := 45) ?hr ?_; (case hd => rfl); (case hg => rfl); (case hr => first | (go_simp; done) | (go_simp; rfl)); intro gb302 hg w5 hbox hb; have n0_ := Aside0.mk (blk_below (g := gb301) (o := .cells #[.int .i64 a0_0, .slice A0_1 l0_1.length c0_1] 45 (0, 0)) (by (with_reducible repeat (first | refine blk_drewN ?_ _ | refine blk_drew ?_ | refine blk_alloc ?_ _)); exact BK301.out) hb); have n1_ := Aside0.mk (below_step (by repeat (first | (with_reducible first | exact HB.out | apply below_alloc | apply pw_below_drewN | apply below_drew1 | refine below_set ?_ GE301.out) | exact HB.out)) hb); have n2_ := Aside0.mk (hbox); have n3_ := Aside0.mk ((by rw [hg]; exact (below_size (by repeat (first | (with_reducible first | exact HB.out | apply below_alloc | apply pw_below_drewN | apply below_drew1 | refine below_set ?_ GE301.out) | exact HB.out))) : w.heap.size ≤ gb302)); have n4_ := Aside0.mk ((by rw [hg]; exact (below_size (by repeat (first | (with_reducible first | exact HB.out | apply below_alloc | apply pw_below_drewN | apply below_drew1 | refine below_set ?_ GE301.out) | exact HB.out))) : w.heap.size ≤ gb302)); have n5_ := Aside0.mk ((by rw [hg]; exact Nat.ne_of_lt (blk_lt (g := gb301) (o := .cells #[.int .i64 a0_0, .slice A0_1 l0_1.length c0_1] 45 (0, 0)) (by (with_reducible repeat (first | refine blk_drewN ?_ _ | refine blk_drew ?_ | refine blk_alloc ?_ _)); exact BK301.out)) : gb301 ≠ gb302)); have n6_ := Aside0.mk ((by rw [hg]; exact Nat.ne_of_gt (blk_lt (g := gb301) (o := .cells #[.int .i64 a0_0, .slice A0_1 l0_1.length c0_1] 45 (0, 0)) (by (with_reducible repeat (first | refine blk_drewN ?_ _ | refine blk_drew ?_ | refine blk_alloc ?_ _)); exact BK301.out)) : gb302 ≠ gb301)); clear BK301; clear HB; have BK301 := n0_; have HB := n1_; have BK302 := n2_; have GW302 := n3_; have GE302 := n4_; have NB301_302 := n5_; have NB302_301 := n6_; clear n0_ n1_ n2_ n3_ n4_ n5_ n6_; clear hb hbox hg))))
 (try simp only [Act.put, List.setIfInBounds_toArray, List.set_cons_zero, List.set_cons_succ]); go_cut [19] (fun v19 wc => ∃ (kq : Nat) (x19_2 : Bool), v19 = .bool x19_2 ∧ Aside0 (incunablelaw03_sameModel.j0 kq x19_2 a0_0 l0_1 a1_0 l1_1 = some r) ∧ Aside0 (kq ≤ k) ∧ Aside0 (wc.heap[gb301]? = some (.cells #[.int .i64 a0_0, (.slice A0_1 l0_1.length c0_1)] 45 (0, 0))) ∧ Aside0 (wc.heap[gb302]? = some (.cells #[.int .i64 a1_0, (.slice A1_1 l1_1.length c1_1)] 45 (0, 0))) ∧ Aside0 (Below w.heap.size w wc))
 (case first => have H := HC3.out; clear HC3; by_cases c6 : a0_0 = a1_0; (· rw [if_pos c6] at H; have c6b0 : (a0_0 == a1_0) = true := beq_iff_eq.mpr c6; have c6b1 : (a0_0 != a1_0) = false := bne_eq_false_iff_eq.mpr c6; clear c6; (first | rw [c6b0] | (simp only [i64_w, i32_w]; rw [c6b0]) | skip); have H' := Aside0.mk H; clear H; have hnb7 := NB301_302.out; have hnc7 := NB302_301.out; have hcz8_0 : w5.cell? ⟨gb301, 0, none⟩ = some (.int .i64 a0_0) := (blk_cell BK301.out 0).trans rfl; have hcz8_1 : w5.cell? ⟨gb301, 1, none⟩ = some (.slice A0_1 l0_1.length c0_1) := (blk_cell BK301.out 1).trans rfl; have hfz8_0 := blk_frozen BK301.out 0; have hfz8_1 := blk_frozen BK301.out 1; have hcz9_0 : w5.cell? ⟨gb302, 0, none⟩ = some (.int .i64 a1_0) := (blk_cell BK302.out 0).trans rfl; have hcz9_1 : w5.cell? ⟨gb302, 1, none⟩ = some (.slice A1_1 l1_1.length c1_1) := (blk_cell BK302.out 1).trans rfl; have hfz9_0 := blk_frozen BK302.out 0; have hfz9_1 := blk_frozen BK302.out 1; go_wp2; (repeat (go_quiet (fail); try go_wp2)); go_meet; (case rel => exact ⟨_, (((l0_1.length : Int) != (l1_1.length : Int))), (by first | rfl | (simp; done) | (simp [*]; done)), H', ⟨by first | omega | exact Nat.le_refl _⟩, ⟨by (with_reducible repeat (first | refine blk_drewN ?_ _ | refine blk_drew ?_ | refine blk_alloc ?_ _)); exact BK301.out⟩, ⟨by (with_reducible repeat (first | refine blk_drewN ?_ _ | refine blk_drew ?_ | refine blk_alloc ?_ _)); exact BK302.out⟩, ⟨by repeat (first | (with_reducible first | exact HB.out | apply below_alloc | apply pw_below_drewN | apply below_drew1 | refine below_set ?_ GE301.out | refine below_set ?_ GE302.out) | exact HB.out)⟩⟩)); (· rw [if_neg c6] at H; have c6b0 : (a0_0 == a1_0) = false := beq_eq_false_iff_ne.mpr c6; have c6b1 : (a0_0 != a1_0) = true := bne_iff_ne.mpr c6; (first | rw [c6b0] | (simp only [i64_w, i32_w]; rw [c6b0]) | skip); have H' := Aside0.mk H; clear H; have hnb10 := NB301_302.out; have hnc10 := NB302_301.out; have hcz11_0 : w5.cell? ⟨gb301, 0, none⟩ = some (.int .i64 a0_0) := (blk_cell BK301.out 0).trans rfl; have hcz11_1 : w5.cell? ⟨gb301, 1, none⟩ = some (.slice A0_1 l0_1.length c0_1) := (blk_cell BK301.out 1).trans rfl; have hfz11_0 := blk_frozen BK301.out 0; have hfz11_1 := blk_frozen BK301.out 1; have hcz12_0 : w5.cell? ⟨gb302, 0, none⟩ = some (.int .i64 a1_0) := (blk_cell BK302.out 0).trans rfl; have hcz12_1 : w5.cell? ⟨gb302, 1, none⟩ = some (.slice A1_1 l1_1.length c1_1) := (blk_cell BK302.out 1).trans rfl; have hfz12_0 := blk_frozen BK302.out 0; have hfz12_1 := blk_frozen BK302.out 1; go_wp2; (repeat (go_quiet (fail); try go_wp2)); go_meet; (case rel => exact ⟨_, (true), (by first | rfl | (simp; done) | (simp [*]; done)), H', ⟨by first | omega | exact Nat.le_refl _⟩, ⟨by (with_reducible repeat (first | refine blk_drewN ?_ _ | refine blk_drew ?_ | refine blk_alloc ?_ _)); exact BK301.out⟩, ⟨by (with_reducible repeat (first | refine blk_drewN ?_ _ | refine blk_drew ?_ | refine blk_alloc ?_ _)); exact BK302.out⟩, ⟨by repeat (first | (with_reducible first | exact HB.out | apply below_alloc | apply pw_below_drewN | apply below_drew1 | refine below_set ?_ GE301.out | refine below_set ?_ GE302.out) | exact HB.out)⟩⟩)))
 case rest =>
  clear HC3; (try clear c1); (try clear p2); (try clear c4); (try clear c6); (try clear c6b0); (try clear c6b1); (try clear c7); (try clear c10); (try clear hcz11_0); (try clear hcz11_1); (try clear hcz12_0); (try clear hcz12_1); (try clear hcz8_0); (try clear hcz8_1); (try clear hcz9_0); (try clear hcz9_1); (try clear hfz11_0); (try clear hfz11_1); (try clear hfz12_0); (try clear hfz12_1); (try clear hfz8_0); (try clear hfz8_1); (try clear hfz9_0); (try clear hfz9_1); obtain ⟨kq, x19_2, rfl, HA, HJ2, BK301, BK302, HB⟩ := hcut
  cases kq with
  | zero => exact absurd HA.out (by simp [incunablelaw03_sameModel.j0])
  | succ kj2 =>
   have H := HA.out; clear HA; simp only [incunablelaw03_sameModel.j0] at H; by_cases c13 : x19_2 = true; (· subst c13; (have H1 : (some false) = some r := by rw [if_pos rfl] at H; exact H); clear H; have H := H1; clear H1; obtain rfl := Option.some.inj H; go_wp2; (repeat (go_quiet (fail); try go_wp2)); go_ret; (exact ⟨by first | rfl | (simp [errW_none, errW_some] <;> rfl) | (simp [*, errW_none, errW_some] <;> rfl), by repeat (first | (with_reducible first | exact HB.out | apply below_alloc | apply pw_below_drewN | apply below_drew1 | refine below_set ?_ GE301.out | refine below_set ?_ GE302.out) | exact HB.out)⟩))
   · replace c13 := Bool.eq_false_iff.mpr c13
     subst c13; (have H1 : (incunablelaw03_sameModel.l0 kj2 0 a0_0 l0_1 a1_0 l1_1) = some r := by rw [if_neg (show ¬ (false = true) by decide)] at H; exact H); clear H; have H := H1; clear H1; have H' := Aside0.mk H; clear H; go_wp2; (repeat (go_quiet (fail); try go_wp2)); go_loopg [5] kj2 (fun kq v5 w' => ∃ (x5_2 : Int), v5 = .int .i64 x5_2 ∧ Aside0 (incunablelaw03_sameModel.l0 kq x5_2 a0_0 l0_1 a1_0 l1_1 = some r) ∧ Aside0 (kq ≤ kj2) ∧ Aside0 (w'.heap[gb301]? = some (.cells #[.int .i64 a0_0, (.slice A0_1 l0_1.length c0_1)] 45 (0, 0))) ∧ Aside0 (w'.heap[gb302]? = some (.cells #[.int .i64 a1_0, (.slice A1_1 l1_1.length c1_1)] 45 (0, 0))) ∧ Aside0 (Below w.heap.size w w')); (case atStart => exact ⟨(0), (by first | rfl | (simp; done) | (simp [*]; done)), H', ⟨Nat.le_refl _⟩, ⟨by (with_reducible repeat (first | refine blk_drewN ?_ _ | refine blk_drew ?_ | refine blk_alloc ?_ _)); exact BK301.out⟩, ⟨by (with_reducible repeat (first | refine blk_drewN ?_ _ | refine blk_drew ?_ | refine blk_alloc ?_ _)); exact BK302.out⟩, ⟨by repeat (first | (with_reducible first | exact HB.out | apply below_alloc | apply pw_below_drewN | apply below_drew1 | refine below_set ?_ GE301.out | refine below_set ?_ GE302.out) | exact HB.out)⟩⟩)
     case round =>
      clear H'; (try clear c1); (try clear p2); (try clear c4); (try clear c6); (try clear c6b0); (try clear c6b1); (try clear c7); (try clear c10); (try clear c13); (try clear hcz11_0); (try clear hcz11_1); (try clear hcz12_0); (try clear hcz12_1); (try clear hcz8_0); (try clear hcz8_1); (try clear hcz9_0); (try clear hcz9_1); (try clear hfz11_0); (try clear hfz11_1); (try clear hfz12_0); (try clear hfz12_1); (try clear hfz8_0); (try clear hfz8_1); (try clear hfz9_0); (try clear hfz9_1); (try clear p2); obtain ⟨x5_2, rfl, HA, HK2, BK301, BK302, HB⟩ := hrel
      cases gk with
      | zero => exact absurd HA.out (by simp [incunablelaw03_sameModel.l0])
      | succ k2 =>
       have H := HA.out; clear HA; simp only [incunablelaw03_sameModel.l0] at H; by_cases c14 : x5_2 < (l0_1.length : Int)
       (· rw [if_pos c14] at H; have c14b0 : decide (x5_2 < (l0_1.length : Int)) = true := decide_eq_true c14; clear c14; by_cases c15 : 0 ≤ x5_2; (· rw [if_pos c15] at H; have c15b0 : decide (0 ≤ x5_2) = true := decide_eq_true c15; clear c15; by_cases c16 : x5_2 < (l1_1.length : Int); (· rw [if_pos c16] at H; have c16b0 : decide (x5_2 < (l1_1.length : Int)) = true := decide_eq_true c16; clear c16; by_cases c17 : (rd l0_1 x5_2) = (rd l1_1 x5_2); (· rw [if_pos c17] at H; have c17b0 : ((rd l0_1 x5_2) == (rd l1_1 x5_2)) = true := beq_iff_eq.mpr c17; have c17b1 : ((rd l0_1 x5_2) != (rd l1_1 x5_2)) = false := bne_eq_false_iff_eq.mpr c17; clear c17; have H' := Aside0.mk H; clear H; have hnb18 := NB301_302.out; have hnc18 := NB302_301.out; have hcz19_0 : wr.cell? ⟨gb301, 0, none⟩ = some (.int .i64 a0_0) := (blk_cell BK301.out 0).trans rfl; have hcz19_1 : wr.cell? ⟨gb301, 1, none⟩ = some (.slice A0_1 l0_1.length c0_1) := (blk_cell BK301.out 1).trans rfl; have hfz19_0 := blk_frozen BK301.out 0; have hfz19_1 := blk_frozen BK301.out 1; have p303 : 0 ≤ (x5_2 : Int) := of_decide_eq_true (by first | (with_reducible assumption) | assumption); have q303 : x5_2 < (l0_1.length : Int) := of_decide_eq_true (by first | (with_reducible assumption) | assumption); obtain ⟨ad303, e303, hx303_0⟩ := Kd.at_int HR0_1.out x5_2 p303 q303; cases e303; replace hx303_0 := (HB.out.cell (World.block_lt_of_cell? w _ hx303_0)).trans hx303_0; replace p303 := eq_true p303; replace q303 := eq_true q303; have hcz20_0 : wr.cell? ⟨gb302, 0, none⟩ = some (.int .i64 a1_0) := (blk_cell BK302.out 0).trans rfl; have hcz20_1 : wr.cell? ⟨gb302, 1, none⟩ = some (.slice A1_1 l1_1.length c1_1) := (blk_cell BK302.out 1).trans rfl; have hfz20_0 := blk_frozen BK302.out 0; have hfz20_1 := blk_frozen BK302.out 1; have p304 : 0 ≤ (x5_2 : Int) := of_decide_eq_true (by first | (with_reducible assumption) | assumption); have q304 : x5_2 < (l1_1.length : Int) := of_decide_eq_true (by first | (with_reducible assumption) | assumption); obtain ⟨ad304, e304, hx304_0⟩ := Kd.at_int HR1_1.out x5_2 p304 q304; cases e304; replace hx304_0 := (HB.out.cell (World.block_lt_of_cell? w _ hx304_0)).trans hx304_0; replace p304 := eq_true p304; replace q304 := eq_true q304; go_wp2; (repeat (go_quiet (fail); try go_wp2)); go_roundg k2; (case measure => have := HJ2.out; have := HK2.out; omega); (case rel => exact ⟨(wrap64 (x5_2 + 1)), (by first | rfl | (simp; done) | (simp [*]; done)), H', ⟨by have := HJ2.out; have := HK2.out; omega⟩, ⟨by (with_reducible repeat (first | refine blk_drewN ?_ _ | refine blk_drew ?_ | refine blk_alloc ?_ _)); exact BK301.out⟩, ⟨by (with_reducible repeat (first | refine blk_drewN ?_ _ | refine blk_drew ?_ | refine blk_alloc ?_ _)); exact BK302.out⟩, ⟨by repeat (first | (with_reducible first | exact HB.out | apply below_alloc | apply pw_below_drewN | apply below_drew1 | refine below_set ?_ GE301.out | refine below_set ?_ GE302.out) | exact HB.out)⟩⟩)); (· rw [if_neg c17] at H; have c17b0 : ((rd l0_1 x5_2) == (rd l1_1 x5_2)) = false := beq_eq_false_iff_ne.mpr c17; have c17b1 : ((rd l0_1 x5_2) != (rd l1_1 x5_2)) = true := bne_iff_ne.mpr c17; obtain rfl := Option.some.inj H; have hnb21 := NB301_302.out; have hnc21 := NB302_301.out; have hcz22_0 : wr.cell? ⟨gb301, 0, none⟩ = some (.int .i64 a0_0) := (blk_cell BK301.out 0).trans rfl; have hcz22_1 : wr.cell? ⟨gb301, 1, none⟩ = some (.slice A0_1 l0_1.length c0_1) := (blk_cell BK301.out 1).trans rfl; have hfz22_0 := blk_frozen BK301.out 0; have hfz22_1 := blk_frozen BK301.out 1; have p303 : 0 ≤ (x5_2 : Int) := of_decide_eq_true (by first | (with_reducible assumption) | assumption); have q303 : x5_2 < (l0_1.length : Int) := of_decide_eq_true (by first | (with_reducible assumption) | assumption); obtain ⟨ad303, e303, hx303_0⟩ := Kd.at_int HR0_1.out x5_2 p303 q303; cases e303; replace hx303_0 := (HB.out.cell (World.block_lt_of_cell? w _ hx303_0)).trans hx303_0; replace p303 := eq_true p303; replace q303 := eq_true q303; have hcz23_0 : wr.cell? ⟨gb302, 0, none⟩ = some (.int .i64 a1_0) := (blk_cell BK302.out 0).trans rfl; have hcz23_1 : wr.cell? ⟨gb302, 1, none⟩ = some (.slice A1_1 l1_1.length c1_1) := (blk_cell BK302.out 1).trans rfl; have hfz23_0 := blk_frozen BK302.out 0; have hfz23_1 := blk_frozen BK302.out 1; have p304 : 0 ≤ (x5_2 : Int) := of_decide_eq_true (by first | (with_reducible assumption) | assumption); have q304 : x5_2 < (l1_1.length : Int) := of_decide_eq_true (by first | (with_reducible assumption) | assumption); obtain ⟨ad304, e304, hx304_0⟩ := Kd.at_int HR1_1.out x5_2 p304 q304; cases e304; replace hx304_0 := (HB.out.cell (World.block_lt_of_cell? w _ hx304_0)).trans hx304_0; replace p304 := eq_true p304; replace q304 := eq_true q304; go_wp2; (repeat (go_quiet (fail); try go_wp2)); go_ret; (exact ⟨by first | rfl | (simp [errW_none, errW_some] <;> rfl) | (simp [*, errW_none, errW_some] <;> rfl), by repeat (first | (with_reducible first | exact HB.out | apply below_alloc | apply pw_below_drewN | apply below_drew1 | refine below_set ?_ GE301.out | refine below_set ?_ GE302.out) | exact HB.out)⟩))); (· rw [if_neg c16] at H; exact absurd H (by simp))); (· rw [if_neg c15] at H; exact absurd H (by simp)))
       (· rw [if_neg c14] at H; have c14b0 : decide (x5_2 < (l0_1.length : Int)) = false := decide_eq_false c14; clear c14; obtain rfl := Option.some.inj H; have hnb24 := NB301_302.out; have hnc24 := NB302_301.out; have hcz25_0 : wr.cell? ⟨gb301, 0, none⟩ = some (.int .i64 a0_0) := (blk_cell BK301.out 0).trans rfl; have hcz25_1 : wr.cell? ⟨gb301, 1, none⟩ = some (.slice A0_1 l0_1.length c0_1) := (blk_cell BK301.out 1).trans rfl; have hfz25_0 := blk_frozen BK301.out 0; have hfz25_1 := blk_frozen BK301.out 1; go_wp2; (repeat (go_quiet (fail); try go_wp2)); go_ret; (exact ⟨by first | rfl | (simp [errW_none, errW_some] <;> rfl) | (simp [*, errW_none, errW_some] <;> rfl), by repeat (first | (with_reducible first | exact HB.out | apply below_alloc | apply pw_below_drewN | apply below_drew1 | refine below_set ?_ GE301.out | refine below_set ?_ GE302.out) | exact HB.out)⟩))
end Go.Proofs.Ytlnhahnnjbfjdaa.U
namespace Go.Proofs.Ytlnhahnnjbfjdaa.Tpi
open Go Go.RowKit Go.Proofs.YtlnhahnnjbfjdaaW.PrintWords Go.Proofs.YtlnhahnnjbfjdaaW.PrintLast Go.Proofs.YtlnhahnnjbfjdaaW.PrintMore Go.Proofs.Ytlnhahnnjbfjdaa.U Go.Proofs.Ytlnhahnnjbfjdaa.Aid Go.Proofs.Ytlnhahnnjbfjdaa.HandAid Go.Proofs.Ytlnhahnnjbfjdaa.Cod1 Go.Proofs.Ytlnhahnnjbfjdaa.Cod2 Go.Proofs.Ytlnhahnnjbfjdaa.Cod3 Go.Proofs.Ytlnhahnnjbfjdaa.Mod Go.Proofs.Ytlnhahnnjbfjdaa.Enc Go.Proofs.Ytlnhahnnjbfjdaa.Mods Go.Proofs.Ytlnhahnnjbfjdaa.EncAt Go.Proofs.Ytlnhahnnjbfjdaa.Put Go.Proofs.Ytlnhahnnjbfjdaa.End Go.Proofs.Ytlnhahnnjbfjdaa.Snc Go.Proofs.Ytlnhahnnjbfjdaa.RefAt Go.Proofs.Ytlnhahnnjbfjdaa.RefPut Go.Proofs.Ytlnhahnnjbfjdaa.RefEnd Go.Proofs.Ytlnhahnnjbfjdaa.Num Go.Proofs.Ytlnhahnnjbfjdaa.Evs Go.Proofs.Ytlnhahnnjbfjdaa.RefEvs Go.Proofs.Ytlnhahnnjbfjdaa.Pse Go.Proofs.Ytlnhahnnjbfjdaa.Npu Go.Proofs.Ytlnhahnnjbfjdaa.Nen Go.Proofs.Ytlnhahnnjbfjdaa.Dec Go.Proofs.Ytlnhahnnjbfjdaa.Get Go.Proofs.Ytlnhahnnjbfjdaa.Ngt Go.Proofs.Ytlnhahnnjbfjdaa.Nwk Go.Proofs.Ytlnhahnnjbfjdaa.Nrw Go.Proofs.Ytlnhahnnjbfjdaa.Gid Go.Proofs.Ytlnhahnnjbfjdaa.Pgt Go.Proofs.Ytlnhahnnjbfjdaa.Nre Go.Proofs.Ytlnhahnnjbfjdaa.Pid Go.Proofs.Ytlnhahnnjbfjdaa.Npt Go.Proofs.Ytlnhahnnjbfjdaa.Npi
/-- Both encoders (the program's at g in the state s, the reference's at h in the state t) and the deeds that are put. -/
structure PI (w : World) (g h : Nat) (s t : ES) (v : Value) (P : List S55) (W : World) : Prop where
  ex : ∃ S1 S2 S3 : Nat → Prop, EncAt W S1 g s ∧ RefAt W S2 h t ∧ Kd.R k55 55 W w.heap.size S3 v P ∧ (∀ k, S1 k → w.heap.size ≤ k ∧ k < W.heap.size) ∧ (∀ k, S2 k → w.heap.size ≤ k ∧ k < W.heap.size) ∧ (∀ k, S3 k → w.heap.size ≤ k ∧ k < W.heap.size) ∧ (∀ k, S1 k → ¬ S2 k) ∧ (∀ k, S1 k → ¬ S3 k) ∧ (∀ k, S2 k → ¬ S3 k)
  b : Below w.heap.size w W
  sok : s.ok
  tok : t.ok
section
variable {w W W' : World} {g h : Nat} {s t : ES} {v : Value} {P : List S55}
theorem PI.below (H : PI w g h s t v P W) (hb : Below W.heap.size W W') : PI w g h s t v P W' := by
  obtain ⟨⟨S1, S2, S3, h1, h2, h3, h4, h5, h6, h7, h8, h9⟩, b, sok, tok⟩ := H
  exact ⟨⟨S1, S2, S3, h1.below hb, h2.below hb, Kd.R_below h3 hb, fun k hk => ⟨(h4 k hk).1, Nat.lt_of_lt_of_le (h4 k hk).2 hb.size⟩, fun k hk => ⟨(h5 k hk).1, Nat.lt_of_lt_of_le (h5 k hk).2 hb.size⟩, fun k hk => ⟨(h6 k hk).1, Nat.lt_of_lt_of_le (h6 k hk).2 hb.size⟩, h7, h8, h9⟩, below_then b b.size hb, sok, tok⟩
theorem PI.prog (H : PI w g h s t v P W) {f : Nat} {args : Array Value} {u : Value} {s' : ES} (hc : ∀ S : Nat → Prop, EncAt W S g s → (∀ k, S k → k < W.heap.size) → Calls Try.prog f args W fun e W' => e = .returned u ∧ PW EncAt W S g s' W') : Calls Try.prog f args W fun e W' => e = .returned u ∧ PI w g h s' t v P W' := by
  obtain ⟨⟨S1, S2, S3, h1, h2, h3, h4, h5, h6, h7, h8, h9⟩, b, sok, tok⟩ := H
  refine (hc S1 h1 (fun k hk => (h4 k hk).2)).mono ?_
  rintro e W' ⟨he, hE, hM, ok⟩
  refine ⟨he, ⟨⟨_, S2, S3, hE, h2.kept hM (fun k hk hk1 => h7 k hk1 hk), Kd.R_step h3 (fun k hk hlt => hM.block k hlt (fun hs => h8 k hs hk)), fun k hk => ⟨?_, hk.2⟩, fun k hk => ⟨(h5 k hk).1, Nat.lt_of_lt_of_le (h5 k hk).2 hM.size⟩, fun k hk => ⟨(h6 k hk).1, Nat.lt_of_lt_of_le (h6 k hk).2 hM.size⟩, fun k hk hk2 => ?_, fun k hk hk3 => ?_, h9⟩, below_mods b hM (fun k hk => (h4 k hk).1) b.size, ok, tok⟩⟩
  · rcases hk.1 with hk | hk
    · exact (h4 k hk).1
    · exact Nat.le_trans b.size hk
  · rcases hk.1 with hk | hk
    · exact h7 k hk hk2
    · have := (h5 k hk2).2; omega
  · rcases hk.1 with hk | hk
    · exact h8 k hk hk3
    · have := (h6 k hk3).2; omega
theorem PI.ref (H : PI w g h s t v P W) {f : Nat} {args : Array Value} {u : Value} {t' : ES} (hc : ∀ S : Nat → Prop, RefAt W S h t → (∀ k, S k → k < W.heap.size) → Calls Try.prog f args W fun e W' => e = .returned u ∧ PW RefAt W S h t' W') : Calls Try.prog f args W fun e W' => e = .returned u ∧ PI w g h s t' v P W' := by
  obtain ⟨⟨S1, S2, S3, h1, h2, h3, h4, h5, h6, h7, h8, h9⟩, b, sok, tok⟩ := H
  refine (hc S2 h2 (fun k hk => (h5 k hk).2)).mono ?_
  rintro e W' ⟨he, hE, hM, ok⟩
  refine ⟨he, ⟨⟨S1, _, S3, h1.kept hM (fun k hk hk1 => h7 k hk hk1), hE, Kd.R_step h3 (fun k hk hlt => hM.block k hlt (fun hs => h9 k hs hk)), fun k hk => ⟨(h4 k hk).1, Nat.lt_of_lt_of_le (h4 k hk).2 hM.size⟩, fun k hk => ⟨?_, hk.2⟩, fun k hk => ⟨(h6 k hk).1, Nat.lt_of_lt_of_le (h6 k hk).2 hM.size⟩, fun k hk hk2 => ?_, h8, fun k hk hk3 => ?_⟩, below_mods b hM (fun k hk => (h5 k hk).1) b.size, sok, ok⟩⟩
  · rcases hk.1 with hk | hk
    · exact (h5 k hk).1
    · exact Nat.le_trans b.size hk
  · rcases hk2.1 with hk2 | hk2
    · exact h7 k hk hk2
    · have := (h4 k hk).2; omega
  · rcases hk.1 with hk | hk
    · exact h9 k hk hk3
    · have := (h6 k hk3).2; omega
/-- A deed is put to the others. -/
theorem PI.app {S1 S2 S3 : Nat → Prop} {v1 : Value} {P1 : List S55} (h1 : EncAt W S1 g s) (h2 : RefAt W S2 h t) (h3 : Kd.R k55 55 W w.heap.size S3 v P) (h4 : ∀ k, S1 k → w.heap.size ≤ k ∧ k < W.heap.size) (h5 : ∀ k, S2 k → w.heap.size ≤ k ∧ k < W.heap.size) (h6 : ∀ k, S3 k → w.heap.size ≤ k ∧ k < W.heap.size) (h7 : ∀ k, S1 k → ¬ S2 k) (h8 : ∀ k, S1 k → ¬ S3 k) (h9 : ∀ k, S2 k → ¬ S3 k) (sok : s.ok) (tok : t.ok)
    (hR : Kd.R k55 55 W' w.heap.size (fun k => S3 k ∨ W.heap.size ≤ k) v1 P1) (hB : Below w.heap.size w W') (hg : W.grownBy W' v.ownBlock) : PI w g h s t v1 P1 W' := by
  have hM : Mods W W' S3 := Mods.of_grown hg (Mods.refl _ _) (fun k hk => .inl (h3.1 k hk))
  refine ⟨⟨S1, S2, _, h1.kept hM (fun k hk hk3 => h8 k hk hk3), h2.kept hM (fun k hk hk3 => h9 k hk hk3), Kd.R_bound hR, fun k hk => ⟨(h4 k hk).1, Nat.lt_of_lt_of_le (h4 k hk).2 hM.size⟩, fun k hk => ⟨(h5 k hk).1, Nat.lt_of_lt_of_le (h5 k hk).2 hM.size⟩, fun k hk => ⟨hk.2.1, hk.2.2.1⟩, h7, fun k hk hk3 => ?_, fun k hk hk3 => ?_⟩, hB, sok, tok⟩
  · rcases hk3.1 with h | h
    · exact h8 k hk h
    · have := (h4 k hk).2; omega
  · rcases hk3.1 with h | h
    · exact h9 k hk h
    · have := (h5 k hk).2; omega
theorem PI.put (H : PI w g h s t v P W) (base : Int) (nn : Bool) (n : Int) (hlen : s.out.length ≤ 1099511620000) (s' : ES) (er : Int) (hR : putN base nn n s = (s', er)) :
    Calls Try.prog 31 #[.pointer (some ⟨g, 0, none⟩), .int .i64 base, .agg #[.bool nn, .int .i64 n]] W fun e W' => e = .returned (.int .i64 er) ∧ PI w g h s' t v P W' :=
  H.prog fun S hE hS => nPut_calls W S g s base nn n hE hS H.sok hlen _ hR
theorem PI.rput (H : PI w g h s t v P W) (base : Int) (nn : Bool) (n : Int) (hlen : t.out.length ≤ 1099511620000) (t' : ES) (er : Int) (hR : putN base nn n t = (t', er)) :
    Calls Try.prog 38 #[.pointer (some ⟨h, 0, none⟩), .int .i64 base, .agg #[.bool nn, .int .i64 n]] W fun e W' => e = .returned (.int .i64 er) ∧ PI w g h s t' v P W' :=
  H.ref fun S hE hS => rPut_calls W S h t base nn n hE hS H.tok hlen _ hR
theorem PI.putid (H : PI w g h s t v P W) (base k id : Int) (hlen : s.out.length ≤ 1099511620000) (s' : ES) (er : Int) (hR : putI base k id s = (s', er)) :
    Calls Try.prog 32 #[.pointer (some ⟨g, 0, none⟩), .int .i64 base, .int .i64 k, .int .i64 id] W fun e W' => e = .returned (.int .i64 er) ∧ PI w g h s' t v P W' :=
  H.prog fun S hE hS => nPutId_calls W S g s base k id hE hS H.sok hlen _ hR
theorem PI.rputid (H : PI w g h s t v P W) (base k id : Int) (hlen : t.out.length ≤ 1099511620000) (t' : ES) (er : Int) (hR : putI base k id t = (t', er)) :
    Calls Try.prog 37 #[.pointer (some ⟨h, 0, none⟩), .int .i64 base, .int .i64 k, .int .i64 id] W fun e W' => e = .returned (.int .i64 er) ∧ PI w g h s t' v P W' :=
  H.ref fun S hE hS => rPutId_calls W S h t base k id hE hS H.tok hlen _ hR
theorem PI.end_ (H : PI w g h s t v P W) (hlen : s.out.length ≤ 1099511620000) : Calls Try.prog 39 #[.pointer (some ⟨g, 0, none⟩)] W (EndPost W s.end_) := by
  obtain ⟨⟨S1, S2, S3, h1, h2, h3, h4, h5, h6, h7, h8, h9⟩, b, sok, tok⟩ := H
  exact end_calls W S1 g s h1 sok (by omega)
theorem PI.rend (H : PI w g h s t v P W) (hlen : t.out.length ≤ 1099511620000) : Calls Try.prog 40 #[.pointer (some ⟨h, 0, none⟩)] W (EndPost W t.end_) := by
  obtain ⟨⟨S1, S2, S3, h1, h2, h3, h4, h5, h6, h7, h8, h9⟩, b, sok, tok⟩ := H
  exact ref_end_calls W S2 h t h2 tok (by omega)
theorem PI.model (H : PI w g h s t v P W) : Calls Try.prog 42 #[.pointer (some ⟨g, 0, none⟩)] W (ModelPost W s.kind s.st) := by
  obtain ⟨⟨S1, S2, S3, h1, h2, h3, h4, h5, h6, h7, h8, h9⟩, b, sok, tok⟩ := H
  exact model_calls W S1 g s h1 sok
theorem PI.rmodel (H : PI w g h s t v P W) : Calls Try.prog 43 #[.pointer (some ⟨h, 0, none⟩)] W (ModelPost W t.kind t.st) := by
  obtain ⟨⟨S1, S2, S3, h1, h2, h3, h4, h5, h6, h7, h8, h9⟩, b, sok, tok⟩ := H
  exact ref_model_calls W S2 h t h2 tok
/-- What the encoder and the deeds are behind a decoder that was made last. -/
theorem PI.later (H : PI w g h s t v P W) {W8 : World} (hb : Below W.heap.size W W8) {A : Option Addr} {c : Nat} (hv : v = .slice A P.length c) : ∀ W' : World, Mods W8 W' (Since W.heap.size W8) → Calls Try.prog 42 #[.pointer (some ⟨g, 0, none⟩)] W' (ModelPost W' s.kind s.st) ∧ Kd.C k55 W' A P.length P := by
  obtain ⟨⟨S1, S2, S3, h1, h2, h3, h4, h5, h6, h7, h8, h9⟩, b, sok, tok⟩ := H
  intro W' hM
  subst hv
  refine ⟨model_calls W' S1 g s ((h1.below hb).kept hM (fun k hk hk2 => by have := (h4 k hk).2; have := hk2.1; omega)) sok, ?_⟩
  exact (Kd.R_reads' (Kd.R_step (w1 := W') (Kd.R_below h3 hb) (fun k hk hlt => hM.block k hlt (fun hs => by have := (h6 k hk).2; have := hs.1; omega)))).2.2
end
theorem _root_.Go.Proofs.Ytlnhahnnjbfjdaa.Gid.IS.getid {w W : World} {S : Nat → Prop} {g : Nat} {s : DS} (H : IS DecAt w S g s W) (hS : ∀ k, S k → k < w.heap.size) (base k : Int) (s' : DS) (v er : Int) (hR : idR base k s = (s', v, er)) :
    Calls Try.prog 25 #[.pointer (some ⟨g, 0, none⟩), .int .i64 base, .int .i64 k] W fun e W' => e = .returned (.tuple #[.int .i64 v, .int .i64 er]) ∧ IS DecAt w S g s' W' :=
  (getid_calls W S g s base k H.d (fun k hk => Nat.lt_of_lt_of_le (hS k hk) H.m.size) H.ok _ hR).mono (fun _ _ hp => ⟨hp.1, hp.2.d, H.m.then_ hp.2.m (fun k hk => .inl hk), hp.2.ok⟩)
theorem _root_.Go.Proofs.Ytlnhahnnjbfjdaa.Gid.IS.num {w W : World} {S : Nat → Prop} {g : Nat} {s : DS} (H : IS DecAt w S g s W) (hS : ∀ k, S k → k < w.heap.size) (base : Int) (s' : DS) (nn : Bool) (v er : Int) (hR : numR base s = (s', (nn, v), er)) :
    Calls Try.prog 27 #[.pointer (some ⟨g, 0, none⟩), .int .i64 base] W fun e W' => e = .returned (.tuple #[.agg #[.bool nn, .int .i64 v], .int .i64 er]) ∧ IS DecAt w S g s' W' :=
  (pnum_get W S g s base H.d (fun k hk => Nat.lt_of_lt_of_le (hS k hk) H.m.size) H.ok _ hR).mono (fun _ _ hp => ⟨hp.1, hp.2.1, H.m.then_ hp.2.2.1 (fun k hk => .inl hk), hp.2.2.2⟩)
theorem sm_l0 (a : Int) (l : List Int) (hn : l.length ≤ 1000000) : ∀ (r i : Nat), i + r = l.length → Ev (fun k => incunablelaw03_sameModel.l0 k i a l a l) true
  | 0, i, h => by
    refine ev_succ ?_
    unfold incunablelaw03_sameModel.l0
    exact ev_neg (by omega) (Ev.now _)
  | r + 1, i, h => by
    refine ev_succ ?_
    unfold incunablelaw03_sameModel.l0
    refine ev_pos (by omega) (ev_pos (by omega) (ev_pos (by omega) (ev_pos rfl ?_)))
    rw [show wrap64 ((i : Int) + 1) = ((i + 1 : Nat) : Int) by rw [wrap_id] <;> omega]
    exact sm_l0 a l hn r (i + 1) (by omega)
theorem sm_calls (a : Int) (l : List Int) (hn : l.length ≤ 1000000) (A : Option Addr) (c : Nat) (A2 : Option Addr) (c2 : Nat) (w : World) (h1 : Kd.C (Kd.int .i64) w A l.length l) (h2 : l.length ≤ c) (h3 : Kd.C (Kd.int .i64) w A2 l.length l) (h4 : l.length ≤ c2) :
    Calls Try.prog 41 #[.agg #[.int .i64 a, .slice A l.length c], .agg #[.int .i64 a, .slice A2 l.length c2]] w fun e w' => e = .returned (.bool true) ∧ Below w.heap.size w w' := by
  have hev : Ev (fun k => incunablelaw03_sameModel.f k a l a l) true := by
    unfold incunablelaw03_sameModel.f
    refine ev_pos rfl (ev_succ ?_)
    unfold incunablelaw03_sameModel.j0
    exact ev_neg (by simp) (sm_l0 a l hn l.length 0 (by omega))
  obtain ⟨K, hK⟩ := hev
  exact incunablelaw03_sameModel.calls K a A c l a A2 c2 l true w h1 h2 h3 h4 (hK K (Nat.le_refl _))
/-- Put's answer for a deed. -/
theorem put_ok {N : Nat} {d : S55} {s s' : ES} {er : Int} (hs : s.st.length = N) (hR : (if d.f3 = true then putI d.f0 d.f1 d.f2 s else putN d.f0 d.f4.f0 d.f4.f1 s) = (s', er)) :
    (okD N d ∧ er = 0 ∧ putsE s (evD d) = (s', 0) ∧ s'.st.length = N ∧ s'.out.length ≤ s.out.length + 240) ∨ (er = 2 ∧ s' = s) := by
  subst hs
  by_cases h : d.f3 = true
  · rw [if_pos h] at hR
    have h1 := putI_len d.f0 d.f1 d.f2 s
    unfold putI at hR h1
    by_cases c : okI s.st.length d.f0 d.f1 d.f2
    · rw [if_pos c] at hR h1
      simp only [Prod.mk.injEq] at hR
      have hd : okD s.st.length d := by unfold okD; rw [if_pos h]; exact c
      have hg := evD_good hd s rfl
      have e : evD d = idE d.f0 d.f2 d.f1.toNat 1 := if_pos h
      rw [e] at hg ⊢
      refine .inl ⟨hd, hR.2.symm, Prod.ext hR.1 hg, ?_, ?_⟩
      · rw [← hR.1]; exact h1.1
      · rw [← hR.1]; exact h1.2
    · rw [if_neg c] at hR
      simp only [Prod.mk.injEq] at hR
      exact .inr ⟨hR.2.symm, hR.1.symm⟩
  · rw [if_neg h] at hR
    have h1 := putN_len d.f0 d.f4.f0 d.f4.f1 s
    unfold putN at hR h1
    by_cases c : okN s.st.length d.f0 d.f4.f0 d.f4.f1
    · rw [if_pos c] at hR h1
      simp only [Prod.mk.injEq] at hR
      have hd : okD s.st.length d := by unfold okD; rw [if_neg h]; exact c
      have hg := evD_good hd s rfl
      have e : evD d = evAll d.f0 d.f4.f0 d.f4.f1 := if_neg h
      rw [e] at hg ⊢
      refine .inl ⟨hd, hR.2.symm, Prod.ext hR.1 hg, ?_, ?_⟩
      · rw [← hR.1]; exact h1.1
      · rw [← hR.1]; exact h1.2
    · rw [if_neg c] at hR
      simp only [Prod.mk.injEq] at hR
      exact .inr ⟨hR.2.symm, hR.1.symm⟩
end Go.Proofs.Ytlnhahnnjbfjdaa.Tpi
namespace Go.Proofs.Ytlnhahnnjbfjdaa.Ngw
open Go Go.RowKit Go.Proofs.YtlnhahnnjbfjdaaW.PrintWords Go.Proofs.YtlnhahnnjbfjdaaW.PrintLast Go.Proofs.YtlnhahnnjbfjdaaW.PrintMore Go.Proofs.Ytlnhahnnjbfjdaa.U Go.Proofs.Ytlnhahnnjbfjdaa.Aid Go.Proofs.Ytlnhahnnjbfjdaa.HandAid Go.Proofs.Ytlnhahnnjbfjdaa.Cod1 Go.Proofs.Ytlnhahnnjbfjdaa.Cod2 Go.Proofs.Ytlnhahnnjbfjdaa.Cod3 Go.Proofs.Ytlnhahnnjbfjdaa.Mod Go.Proofs.Ytlnhahnnjbfjdaa.NewRef Go.Proofs.Ytlnhahnnjbfjdaa.Enc Go.Proofs.Ytlnhahnnjbfjdaa.Mods Go.Proofs.Ytlnhahnnjbfjdaa.EncAt Go.Proofs.Ytlnhahnnjbfjdaa.Put Go.Proofs.Ytlnhahnnjbfjdaa.End Go.Proofs.Ytlnhahnnjbfjdaa.Snc Go.Proofs.Ytlnhahnnjbfjdaa.Sane Go.Proofs.Ytlnhahnnjbfjdaa.Dec Go.Proofs.Ytlnhahnnjbfjdaa.Get Go.Proofs.Ytlnhahnnjbfjdaa.DecNew Go.Proofs.Ytlnhahnnjbfjdaa.RefAt Go.Proofs.Ytlnhahnnjbfjdaa.RDec Go.Proofs.Ytlnhahnnjbfjdaa.RDecNew Go.Proofs.Ytlnhahnnjbfjdaa.TwoD Go.Proofs.Ytlnhahnnjbfjdaa.Ngt Go.Proofs.Ytlnhahnnjbfjdaa.Nwk Go.Proofs.Ytlnhahnnjbfjdaa.Nrw Go.Proofs.Ytlnhahnnjbfjdaa.Gid Go.Proofs.Ytlnhahnnjbfjdaa.Pgt Go.Proofs.Ytlnhahnnjbfjdaa.TwN
theorem newM {kind n : Int} (h : ¬ n > 8192) : ((kind = 0 ∨ kind = 1) ∧ 0 ≤ n ∧ newModel kind n = (kind, List.replicate n.toNat 0, 0)) ∨ newModel kind n = (0, [], 2) := by
  unfold newModel
  by_cases c : (kind = 0 ∨ kind = 1) ∧ 0 ≤ n ∧ n ≤ 8192
  · rw [if_pos c]; exact .inl ⟨c.1, c.2.1, rfl⟩
  · rw [if_neg c]; exact .inr rfl
end Go.Proofs.Ytlnhahnnjbfjdaa.Ngw
namespace Go.Proofs.Ytlnhahnnjbfjdaa.Npw
open Go Go.RowKit Go.Proofs.YtlnhahnnjbfjdaaW.PrintWords Go.Proofs.YtlnhahnnjbfjdaaW.PrintLast Go.Proofs.YtlnhahnnjbfjdaaW.PrintMore Go.Proofs.Ytlnhahnnjbfjdaa.U Go.Proofs.Ytlnhahnnjbfjdaa.Aid Go.Proofs.Ytlnhahnnjbfjdaa.HandAid Go.Proofs.Ytlnhahnnjbfjdaa.Cod1 Go.Proofs.Ytlnhahnnjbfjdaa.Cod2 Go.Proofs.Ytlnhahnnjbfjdaa.Cod3 Go.Proofs.Ytlnhahnnjbfjdaa.Mod Go.Proofs.Ytlnhahnnjbfjdaa.NewRef Go.Proofs.Ytlnhahnnjbfjdaa.Enc Go.Proofs.Ytlnhahnnjbfjdaa.Mods Go.Proofs.Ytlnhahnnjbfjdaa.EncAt Go.Proofs.Ytlnhahnnjbfjdaa.Put Go.Proofs.Ytlnhahnnjbfjdaa.End Go.Proofs.Ytlnhahnnjbfjdaa.Snc Go.Proofs.Ytlnhahnnjbfjdaa.RefAt Go.Proofs.Ytlnhahnnjbfjdaa.RefPut Go.Proofs.Ytlnhahnnjbfjdaa.RefEnd Go.Proofs.Ytlnhahnnjbfjdaa.Num Go.Proofs.Ytlnhahnnjbfjdaa.Evs Go.Proofs.Ytlnhahnnjbfjdaa.RefEvs Go.Proofs.Ytlnhahnnjbfjdaa.Sane Go.Proofs.Ytlnhahnnjbfjdaa.Pse Go.Proofs.Ytlnhahnnjbfjdaa.Npu Go.Proofs.Ytlnhahnnjbfjdaa.Nen Go.Proofs.Ytlnhahnnjbfjdaa.Dec Go.Proofs.Ytlnhahnnjbfjdaa.Get Go.Proofs.Ytlnhahnnjbfjdaa.DecNew Go.Proofs.Ytlnhahnnjbfjdaa.Bkp Go.Proofs.Ytlnhahnnjbfjdaa.Ngt Go.Proofs.Ytlnhahnnjbfjdaa.Nwk Go.Proofs.Ytlnhahnnjbfjdaa.Nrw Go.Proofs.Ytlnhahnnjbfjdaa.Gid Go.Proofs.Ytlnhahnnjbfjdaa.Pgt Go.Proofs.Ytlnhahnnjbfjdaa.Nre Go.Proofs.Ytlnhahnnjbfjdaa.Ned Go.Proofs.Ytlnhahnnjbfjdaa.Pid Go.Proofs.Ytlnhahnnjbfjdaa.Npt Go.Proofs.Ytlnhahnnjbfjdaa.Npi Go.Proofs.Ytlnhahnnjbfjdaa.Tpi Go.Proofs.Ytlnhahnnjbfjdaa.Ngw
theorem deed6' {w : World} {ad : Addr} {l : List S55} (hC : Kd.C k55 w (some ad) l.length l) (k : Nat) (hk : k < l.length) (d : S55) (hd : rd_T55 l (k : Int) = d) :
    w.cell? (ad.add (k * 6)) = some (.int .i64 d.f0) ∧ w.cell? ⟨(ad.add (k * 6)).block, (ad.add (k * 6)).off + 1, none⟩ = some (.int .i64 d.f1) ∧ w.cell? ⟨(ad.add (k * 6)).block, (ad.add (k * 6)).off + 2, none⟩ = some (.int .i64 d.f2) ∧ w.cell? ⟨(ad.add (k * 6)).block, (ad.add (k * 6)).off + 3, none⟩ = some (.bool d.f3) ∧ w.cell? ⟨(ad.add (k * 6)).block, (ad.add (k * 6)).off + 4, none⟩ = some (.bool d.f4.f0) ∧ w.cell? ⟨(ad.add (k * 6)).block, (ad.add (k * 6)).off + 5, none⟩ = some (.int .i64 d.f4.f1) := by
  obtain ⟨ad', hA, x0, x1, x2, x3, x4, x5⟩ := at_T55 hC (k : Int) (by omega) (by omega)
  obtain rfl := Option.some.inj hA
  rw [Int.toNat_natCast, hd] at x0 x1 x2 x3 x4 x5
  exact ⟨x0, x1, x2, x3, x4, x5⟩
theorem deed6 {w W : World} {ad : Addr} {l : List S55} (hC : Kd.C k55 w (some ad) l.length l) (hb : Below w.heap.size w W) (k : Nat) (hk : k < l.length) (d : S55) (hd : rd_T55 l (k : Int) = d) :
    W.cell? (ad.add (k * 6)) = some (.int .i64 d.f0) ∧ W.cell? ⟨(ad.add (k * 6)).block, (ad.add (k * 6)).off + 1, none⟩ = some (.int .i64 d.f1) ∧ W.cell? ⟨(ad.add (k * 6)).block, (ad.add (k * 6)).off + 2, none⟩ = some (.int .i64 d.f2) ∧ W.cell? ⟨(ad.add (k * 6)).block, (ad.add (k * 6)).off + 3, none⟩ = some (.bool d.f3) ∧ W.cell? ⟨(ad.add (k * 6)).block, (ad.add (k * 6)).off + 4, none⟩ = some (.bool d.f4.f0) ∧ W.cell? ⟨(ad.add (k * 6)).block, (ad.add (k * 6)).off + 5, none⟩ = some (.int .i64 d.f4.f1) := deed6' (Kd.C_below hC hb) k hk d hd
theorem evDs_drop {P : List S55} {j : Nat} (h : j < P.length) (d : S55) (hd : rd_T55 P (j : Int) = d) : evDs (P.drop j) = evD d ++ evDs (P.drop (j + 1)) ∧ d ∈ P := by
  have e : P[j] = d := by rw [← hd]; simp [rd_T55, List.getD_eq_getElem?_getD, List.getElem?_eq_getElem h]
  refine ⟨?_, e ▸ List.getElem_mem h⟩
  rw [List.drop_eq_getElem_cons h, e]
  unfold evDs
  rw [List.flatMap_cons]
set_option maxHeartbeats 4000000 in
set_option maxRecDepth 100000 in
theorem puts_walk (w : World) (kind : Int) (n : Int) (A3 : Option Addr) (c3 : Nat) (l : List S55) (l3 : l.length ≤ c3) (g3 : Kd.C k55 w A3 l.length l) :
    Calls Try.prog 9 #[.int .i64 kind, .int .i64 n, .slice A3 l.length c3] w fun e w' => e = .returned (.bool true) ∧ Below w.heap.size w w' := by
  have hu := Try.underlying45
  have hu3 := Try.underlying23
  have hu4 := Try.underlying55
  have hml : l.length ≤ 9223372036854775807 := Kd.C_max g3
  by_cases hbig : n > 1500 ∨ l.length > 60
  · have hb2 : n > 1500 ∨ ((l.length : Int) > 60 ∧ ¬ n > 1500) := by omega
    clear hbig g3
    rcases hb2 with h | ⟨h, h'⟩
    · go_enter Try.func9, Try.ntmps9
      go_wp2_with (fail)
      refine (sane_calls _).mono ?_
      rintro e w2 ⟨rfl, hB⟩
      go_wp2_with (fail)
      go_ret
      exact ⟨rfl, hB⟩
    · go_enter Try.func9, Try.ntmps9
      go_wp2_with (fail)
      refine (sane_calls _).mono ?_
      rintro e w2 ⟨rfl, hB⟩
      go_wp2_with (fail)
      go_ret
      exact ⟨rfl, hB⟩
  have n1 : ¬ n > 1500 := by omega
  have n2 : ¬ (l.length : Int) > 60 := by omega
  have n4 : l.length ≤ 60 := by omega
  have HCx := Aside0.mk g3
  clear hbig g3
  go_enter Try.func9, Try.ntmps9
  go_wp2_with (fail)
  refine (new_calls kind n w).mono ?_
  rintro e W2 ⟨A, c, rfl, hRM, hb2⟩
  rcases newM (kind := kind) (n := n) (by omega) with ⟨hk, hn0, hnm⟩ | hnm
  · have hmok : okModel kind (List.replicate n.toNat 0) := by have := new_ok kind n (by rw [hnm]); rw [hnm] at this; exact this
    rw [hnm] at hRM ⊢
    have hrn : ∀ W : World, Calls Try.prog 23 #[.int .i64 kind, .int .i64 n] W fun e w' => ∃ A c, e = .returned (.tuple #[.agg #[.int .i64 kind, .slice A (List.replicate n.toNat (0 : Int)).length c], .int .i64 0]) ∧ Kd.R (Kd.int .i64) 3 w' W.heap.size (fun _ => True) (.slice A (List.replicate n.toNat (0 : Int)).length c) (List.replicate n.toNat 0) ∧ Below W.heap.size W w' := fun W => by have := ref_new_calls kind n W; rw [hnm] at this; exact this
    generalize List.replicate n.toNat (0 : Int) = st at hmok hRM hrn ⊢
    have HRN := Aside0.mk hrn
    have HMO := Aside0.mk hmok
    obtain ⟨hcA, hcB, hCM⟩ := Kd.R_reads' hRM
    obtain ⟨b7, hb7⟩ : ∃ x, W2.heap.size = x := ⟨_, rfl⟩
    obtain ⟨W3, hW3⟩ : ∃ x, W2.alloc (.cells #[.int .i64 kind, .slice A st.length c] 45) = x := ⟨_, rfl⟩
    have HB3 := Aside0.mk (show Below w.heap.size w W3 from hW3 ▸ below_alloc hb2 _)
    have HCM := Aside0.mk (show Kd.C (Kd.int .i64) W3 A st.length st from hW3 ▸ Kd.C_below hCM (below_alloc (Below.refl _ _) _))
    have HZ3 := Aside0.mk (show W3.heap[b7]? = some (.cells #[.int .i64 kind, .slice A st.length c] 45 (0, 0)) from hW3 ▸ hb7 ▸ heap_new W2 _)
    clear hrn hmok hb2 hRM hCM hnm hcA
    go_wp2_with (fail)
    clear hW3 hb7
    refine (HRN.out W3).mono ?_
    rintro e W4 ⟨A5, c5, rfl, hR5, hb5⟩
    obtain ⟨-, hcB5, hCM5⟩ := Kd.R_reads' hR5
    obtain ⟨b9, hb9⟩ : ∃ x, W4.heap.size = x := ⟨_, rfl⟩
    obtain ⟨W5, hW5⟩ : ∃ x, W4.alloc (.cells #[.int .i64 kind, .slice A5 st.length c5] 45) = x := ⟨_, rfl⟩
    have HB35 := Aside0.mk (show Below W3.heap.size W3 W5 from hW5 ▸ below_alloc hb5 _)
    have HB5 := Aside0.mk (below_then HB3.out HB3.out.size HB35.out)
    have HCM5 := Aside0.mk (show Kd.C (Kd.int .i64) W5 A5 st.length st from hW5 ▸ Kd.C_below hCM5 (below_alloc (Below.refl _ _) _))
    have HCM := Aside0.mk (Kd.C_below HCM.out HB35.out)
    have HZ9 := Aside0.mk (show W5.heap[b9]? = some (.cells #[.int .i64 kind, .slice A5 st.length c5] 45 (0, 0)) from hW5 ▸ hb9 ▸ heap_new W4 _)
    have HZ7 := Aside0.mk (blk_below HZ3.out HB35.out)
    have k0 : W5.cell? ⟨b7, 0, none⟩ = some (.int .i64 kind) := (blk_cell HZ7.out 0).trans rfl
    have k1 : W5.cell? ⟨b7, 1, none⟩ = some (.slice A st.length c) := (blk_cell HZ7.out 1).trans rfl
    clear hR5 hb5 hCM5 HRN HB3 HB35 HZ3
    go_wp2_with (fail)
    clear hW5 hb9
    refine (new_enc A c kind st W5 HCM.out hcB HMO.out).mono ?_
    rintro e W6 ⟨g, rfl, hE6, hB6⟩
    have HE6 := Aside0.mk hE6
    have HB6 := Aside0.mk hB6
    have HZ9 := Aside0.mk (blk_below HZ9.out hB6)
    clear hE6 hB6 k0 k1
    have k0 : W6.cell? ⟨b9, 0, none⟩ = some (.int .i64 kind) := (blk_cell HZ9.out 0).trans rfl
    have k1 : W6.cell? ⟨b9, 1, none⟩ = some (.slice A5 st.length c5) := (blk_cell HZ9.out 1).trans rfl
    go_wp2_with (fail)
    refine (ref_new_enc A5 c5 kind st W6 (Kd.C_below HCM5.out HB6.out) hcB5 HMO.out).mono ?_
    rintro e W7 ⟨h, rfl, hE7, hB7⟩
    have HT := Aside0.mk (show PI W5 g h (newES kind st) (newES kind st) (.slice none 0 0) [] W7 from ⟨⟨Since W5.heap.size W6, Since W6.heap.size W7, fun _ => False, HE6.out.below hB7, hE7, Kd.R_nil _ _ _ _ _, fun k hk => ⟨hk.1, Nat.lt_of_lt_of_le hk.2 hB7.size⟩, fun k hk => ⟨Nat.le_trans HB6.out.size hk.1, hk.2⟩, fun k hk => hk.elim, fun k hk hk2 => by have := hk.2; have := hk2.1; omega, fun k hk hk3 => hk3, fun k hk hk3 => hk3⟩, below_then HB6.out HB6.out.size hB7, newES_ok HMO.out, newES_ok HMO.out⟩)
    clear hE7 hB7 k0 k1 HZ9 HE6 HB6 HCM5 hcB5 hk hn0 n1
    obtain ⟨NN, hNN⟩ : ∃ x, st.length = x := ⟨_, rfl⟩
    have HNN := Aside0.mk hNN
    clear hNN
    go_wp2_with (fail)
    go_loopw [14, 15] (fun v i wr => ∃ (k : Nat) (s : ES) (P : List S55), k ≤ l.length ∧ i = .int .i64 k ∧ Aside0 (∀ x ∈ P, okD (NN : Int) x) ∧ Aside0 (putsE (newES kind st) (evDs P) = (s, 0)) ∧ Aside0 (s.st.length = NN) ∧ Aside0 (s.out.length ≤ 240 * k) ∧ P.length ≤ k ∧ Aside0 (PI W5 g h s s v P wr)) (fun _ i _ => l.length - (intOf i).toNat)
    case atStart => exact ⟨0, newES kind st, [], Nat.zero_le _, rfl, ⟨fun x hx => absurd hx List.not_mem_nil⟩, ⟨rfl⟩, ⟨HNN.out⟩, ⟨Nat.zero_le _⟩, Nat.zero_le _, HT⟩
    clear HT
    case round =>
      obtain ⟨k, s, P, hkl, rfl, HOKP, hpu, hsl, hsn, hpl, HT⟩ := hrel
      by_cases hlt : k < l.length
      · obtain ⟨ad, hA, -⟩ := at_T55 HCx.out (k : Int) (by omega) (by omega)
        subst hA
        obtain ⟨d, hd⟩ : ∃ d, rd_T55 l (k : Int) = d := ⟨_, rfl⟩
        have x3 := (deed6 HCx.out (below_then HB5.out HB5.out.size HT.out.b) k hlt d hd).2.2.2.1
        have HSN := Aside0.mk (show s.out.length ≤ 1099511620000 by have := hsn.out; omega)
        obtain ⟨s', er, hrd⟩ : ∃ s' er, (if d.f3 = true then putI d.f0 d.f1 d.f2 s else putN d.f0 d.f4.f0 d.f4.f1 s) = (s', er) := ⟨_, _, rfl⟩
        have HRD := Aside0.mk hrd
        by_cases hid : d.f3 = true
        · rw [if_pos hid] at hrd
          have hs' := hrd
          rw [hid] at x3
          have HID := Aside0.mk hid
          clear hrd hid
          go_wp2_with (fail)
          have HT0 := Aside0.mk (HT.out.below (below_drew (Below.refl _ _)))
          clear HT x3
          refine start_ (n := 18) (S := fun w' => w'.cell? (ad.add (k * 6)) = some (.int .i64 d.f0) ∧ w'.cell? ⟨(ad.add (k * 6)).block, (ad.add (k * 6)).off + 1, none⟩ = some (.int .i64 d.f1) ∧ w'.cell? ⟨(ad.add (k * 6)).block, (ad.add (k * 6)).off + 2, none⟩ = some (.int .i64 d.f2)) (ds := []) #[false, false, false, false, false, false, false, false, false, false, false, false, false, false, false, false, false, false] (by kernel_rfl) rfl rfl ⟨(deed6 HCx.out (below_then HB5.out HB5.out.size HT0.out.b) k hlt d hd).1, (deed6 HCx.out (below_then HB5.out HB5.out.size HT0.out.b) k hlt d hd).2.1, (deed6 HCx.out (below_then HB5.out HB5.out.size HT0.out.b) k hlt d hd).2.2.1⟩ (fun hHeld => ?_)
          refine pure_ (i := 0) (N := some 73) (v := ?_) (a' := ?_) #[true, false, false, false, false, false, false, false, false, false, false, false, false, false, false, false, false, false] rfl rfl (by kernel_rfl) (fun _ _ _ h => h) (Or.inl ⟨by rfl, ?_⟩) ?_ ?_
          rotate_left
          · intro w'
            go_simp
            with_reducible rfl
          rotate_left
          · simp only [Act.put, List.setIfInBounds_toArray, List.set_cons_zero, List.set_cons_succ, i64_w, i32_w]
            rfl
          refine pure_ (i := 1) (N := some 74) (v := ?_) (a' := ?_) #[true, true, false, false, false, false, false, false, false, false, false, false, false, false, false, false, false, false] rfl rfl (by kernel_rfl) (fun _ _ _ h => h) (Or.inl ⟨by rfl, ?_⟩) ?_ ?_
          rotate_left
          · intro w'
            go_simp
            with_reducible rfl
          rotate_left
          · simp only [Act.put, List.setIfInBounds_toArray, List.set_cons_zero, List.set_cons_succ, i64_w, i32_w]
            rfl
          refine pure_ (i := 2) (N := some 75) (v := ?_) (a' := ?_) #[true, true, true, false, false, false, false, false, false, false, false, false, false, false, false, false, false, false] rfl rfl (by kernel_rfl) (fun _ _ _ h => h) (Or.inl ⟨by rfl, ?_⟩) ?_ ?_
          rotate_left
          · intro w'
            go_simp
            with_reducible rfl
          rotate_left
          · simp only [Act.put, List.setIfInBounds_toArray, List.set_cons_zero, List.set_cons_succ, i64_w, i32_w]
            rfl
          refine pure_ (i := 3) (N := some 76) (v := ?_) (a' := ?_) #[true, true, true, true, false, false, false, false, false, false, false, false, false, false, false, false, false, false] rfl rfl (by kernel_rfl) (fun _ _ _ h => h) (Or.inl ⟨by rfl, ?_⟩) ?_ ?_
          rotate_left
          · intro w'
            go_simp
            with_reducible rfl
          rotate_left
          · simp only [Act.put, List.setIfInBounds_toArray, List.set_cons_zero, List.set_cons_succ, i64_w, i32_w]
            rfl
          refine pure_ (i := 4) (N := some 77) (v := ?_) (a' := ?_) #[true, true, true, true, true, false, false, false, false, false, false, false, false, false, false, false, false, false] rfl rfl (by kernel_rfl) (fun _ _ _ h => h) (Or.inl ⟨by rfl, ?_⟩) ?_ ?_
          rotate_left
          · intro w'
            go_simp
            with_reducible rfl
          rotate_left
          · simp only [Act.put, List.setIfInBounds_toArray, List.set_cons_zero, List.set_cons_succ, i64_w, i32_w]
            rfl
          refine pure_ (i := 6) (N := some 79) (v := ?_) (a' := ?_) #[true, true, true, true, true, false, true, false, false, false, false, false, false, false, false, false, false, false] rfl rfl (by kernel_rfl) (fun _ _ _ h => h) (Or.inl ⟨by rfl, ?_⟩) ?_ ?_
          rotate_left
          · intro w'
            go_simp
            with_reducible rfl
          rotate_left
          · simp only [Act.put, List.setIfInBounds_toArray, List.set_cons_zero, List.set_cons_succ, i64_w, i32_w]
            rfl
          refine pure_ (i := 7) (N := some 80) (v := ?_) (a' := ?_) #[true, true, true, true, true, false, true, true, false, false, false, false, false, false, false, false, false, false] rfl rfl (by kernel_rfl) (fun _ _ _ h => h) (Or.inl ⟨by rfl, ?_⟩) ?_ ?_
          rotate_left
          · intro w'
            go_simp
            with_reducible rfl
          rotate_left
          · simp only [Act.put, List.setIfInBounds_toArray, List.set_cons_zero, List.set_cons_succ, i64_w, i32_w]
            rfl
          refine pure_ (i := 8) (N := some 81) (v := ?_) (a' := ?_) #[true, true, true, true, true, false, true, true, true, false, false, false, false, false, false, false, false, false] rfl rfl (by kernel_rfl) (fun _ _ _ h => h) (Or.inl ⟨by rfl, ?_⟩) ?_ ?_
          rotate_left
          · intro w'
            go_simp
            with_reducible rfl
          rotate_left
          · simp only [Act.put, List.setIfInBounds_toArray, List.set_cons_zero, List.set_cons_succ, i64_w, i32_w]
            rfl
          refine pure_ (i := 9) (N := some 82) (v := ?_) (a' := ?_) #[true, true, true, true, true, false, true, true, true, true, false, false, false, false, false, false, false, false] rfl rfl (by kernel_rfl) (fun _ _ _ h => h) (Or.inl ⟨by rfl, ?_⟩) ?_ ?_
          rotate_left
          · intro w'
            go_simp
            with_reducible rfl
          rotate_left
          · simp only [Act.put, List.setIfInBounds_toArray, List.set_cons_zero, List.set_cons_succ, i64_w, i32_w]
            rfl
          refine pure_ (i := 11) (N := some 84) (v := ?_) (a' := ?_) #[true, true, true, true, true, false, true, true, true, true, false, true, false, false, false, false, false, false] rfl rfl (by kernel_rfl) (fun _ _ _ h => h) (Or.inl ⟨by rfl, ?_⟩) ?_ ?_
          rotate_left
          · intro w'
            go_simp
            with_reducible rfl
          rotate_left
          · simp only [Act.put, List.setIfInBounds_toArray, List.set_cons_zero, List.set_cons_succ, i64_w, i32_w]
            rfl
          refine pure_ (i := 12) (N := some 85) (v := ?_) (a' := ?_) #[true, true, true, true, true, false, true, true, true, true, false, true, true, false, false, false, false, false] rfl rfl (by kernel_rfl) (fun _ _ _ h => h) (Or.inl ⟨by rfl, ?_⟩) ?_ ?_
          rotate_left
          · intro w'
            go_simp
            with_reducible rfl
          rotate_left
          · simp only [Act.put, List.setIfInBounds_toArray, List.set_cons_zero, List.set_cons_succ, i64_w, i32_w]
            rfl
          refine pure_ (i := 13) (N := some 86) (v := ?_) (a' := ?_) #[true, true, true, true, true, false, true, true, true, true, false, true, true, true, false, false, false, false] rfl rfl (by kernel_rfl) (fun _ _ _ h => h) (Or.inl ⟨by rfl, ?_⟩) ?_ ?_
          rotate_left
          · intro w'
            go_simp
            with_reducible rfl
          rotate_left
          · simp only [Act.put, List.setIfInBounds_toArray, List.set_cons_zero, List.set_cons_succ, i64_w, i32_w]
            rfl
          refine pure_ (i := 14) (N := some 87) (v := ?_) (a' := ?_) #[true, true, true, true, true, false, true, true, true, true, false, true, true, true, true, false, false, false] rfl rfl (by kernel_rfl) (fun _ _ _ h => h) (Or.inl ⟨by rfl, ?_⟩) ?_ ?_
          rotate_left
          · intro w'
            go_simp
            with_reducible rfl
          rotate_left
          · simp only [Act.put, List.setIfInBounds_toArray, List.set_cons_zero, List.set_cons_succ, i64_w, i32_w]
            rfl
          refine take_ (i := 5) (N := some 78) (v := ?_) (a' := ?_) #[true, true, true, true, true, true, true, true, true, true, false, true, true, true, true, false, false, false] rfl rfl (by kernel_rfl) (fun _ _ _ h => h) (Or.inl ⟨by rfl, ?_⟩) hHeld ?_ ?_
          rotate_left
          · rintro w' ⟨s0, s1, s2⟩
            go_simp
            with_reducible rfl
          rotate_left
          · simp only [Act.put, List.setIfInBounds_toArray, List.set_cons_zero, List.set_cons_succ, i64_w, i32_w]
            rfl
          refine take_ (i := 10) (N := some 83) (v := ?_) (a' := ?_) #[true, true, true, true, true, true, true, true, true, true, true, true, true, true, true, false, false, false] rfl rfl (by kernel_rfl) (fun _ _ _ h => h) (Or.inl ⟨by rfl, ?_⟩) hHeld ?_ ?_
          rotate_left
          · rintro w' ⟨s0, s1, s2⟩
            go_simp
            with_reducible rfl
          rotate_left
          · simp only [Act.put, List.setIfInBounds_toArray, List.set_cons_zero, List.set_cons_succ, i64_w, i32_w]
            rfl
          refine take_ (i := 15) (N := some 88) (v := ?_) (a' := ?_) #[true, true, true, true, true, true, true, true, true, true, true, true, true, true, true, true, false, false] rfl rfl (by kernel_rfl) (fun _ _ _ h => h) (Or.inl ⟨by rfl, ?_⟩) hHeld ?_ ?_
          rotate_left
          · rintro w' ⟨s0, s1, s2⟩
            go_simp
            with_reducible rfl
          rotate_left
          · simp only [Act.put, List.setIfInBounds_toArray, List.set_cons_zero, List.set_cons_succ, i64_w, i32_w]
            rfl
          refine one_ (i := 16) (N := some 89) #[true, true, true, true, true, true, true, true, true, true, true, true, true, true, true, true, true, false] rfl rfl (by kernel_rfl) (by decide) (fun K hK => ?_)
          refine goes_ Try.func32 (by kernel_rfl) rfl #[.pointer (some ⟨g, 0, none⟩), .int .i64 d.f0, .int .i64 d.f1, .int .i64 d.f2] (by rfl) rfl rfl (by simp only [List.map_toArray, List.map_cons, List.map_nil]; rfl) ?_
          with_reducible refine ((HT0.out.putid d.f0 d.f1 d.f2 HSN.out s' er hs')).mono ?_
          rintro e V3 ⟨rfl, hT⟩
          refine ⟨_, rfl, ?_⟩
          have HT3 := Aside0.mk hT
          clear hT
          refine hK.out _ _ ⟨(deed6 HCx.out (below_then HB5.out HB5.out.size HT3.out.b) k hlt d hd).1, (deed6 HCx.out (below_then HB5.out HB5.out.size HT3.out.b) k hlt d hd).2.1, (deed6 HCx.out (below_then HB5.out HB5.out.size HT3.out.b) k hlt d hd).2.2.1⟩ (fun hHeld => ?_)
          clear hK K
          refine norm_ (a' := ?_) ?_ ?_
          rotate_left
          · show Act.put _ (some 89) _ = _
            simp only [Act.put, List.setIfInBounds_toArray, List.set_cons_zero, List.set_cons_succ, i64_w, i32_w]
            rfl
          refine pure_ (i := 17) (N := some 8) (v := ?_) (a' := ?_) #[true, true, true, true, true, true, true, true, true, true, true, true, true, true, true, true, true, true] rfl rfl (by kernel_rfl) (fun _ _ _ h => h) (Or.inl ⟨by rfl, ?_⟩) ?_ ?_
          rotate_left
          · intro w'
            go_simp
            with_reducible rfl
          rotate_left
          · simp only [Act.put, List.setIfInBounds_toArray, List.set_cons_zero, List.set_cons_succ, i64_w, i32_w]
            rfl
          refine done_ (by kernel_rfl) ?_
          clear HT0
          go_wp2_with (fail)
          have HT0 := Aside0.mk (HT3.out.below (below_drew (Below.refl _ _)))
          clear HT3
          refine start_ (n := 18) (S := fun w' => w'.cell? (ad.add (k * 6)) = some (.int .i64 d.f0) ∧ w'.cell? ⟨(ad.add (k * 6)).block, (ad.add (k * 6)).off + 1, none⟩ = some (.int .i64 d.f1) ∧ w'.cell? ⟨(ad.add (k * 6)).block, (ad.add (k * 6)).off + 2, none⟩ = some (.int .i64 d.f2)) (ds := []) #[false, false, false, false, false, false, false, false, false, false, false, false, false, false, false, false, false, false] (by kernel_rfl) rfl rfl ⟨(deed6 HCx.out (below_then HB5.out HB5.out.size HT0.out.b) k hlt d hd).1, (deed6 HCx.out (below_then HB5.out HB5.out.size HT0.out.b) k hlt d hd).2.1, (deed6 HCx.out (below_then HB5.out HB5.out.size HT0.out.b) k hlt d hd).2.2.1⟩ (fun hHeld => ?_)
          refine pure_ (i := 0) (N := some 90) (v := ?_) (a' := ?_) #[true, false, false, false, false, false, false, false, false, false, false, false, false, false, false, false, false, false] rfl rfl (by kernel_rfl) (fun _ _ _ h => h) (Or.inl ⟨by rfl, ?_⟩) ?_ ?_
          rotate_left
          · intro w'
            go_simp
            with_reducible rfl
          rotate_left
          · simp only [Act.put, List.setIfInBounds_toArray, List.set_cons_zero, List.set_cons_succ, i64_w, i32_w]
            rfl
          refine pure_ (i := 1) (N := some 91) (v := ?_) (a' := ?_) #[true, true, false, false, false, false, false, false, false, false, false, false, false, false, false, false, false, false] rfl rfl (by kernel_rfl) (fun _ _ _ h => h) (Or.inl ⟨by rfl, ?_⟩) ?_ ?_
          rotate_left
          · intro w'
            go_simp
            with_reducible rfl
          rotate_left
          · simp only [Act.put, List.setIfInBounds_toArray, List.set_cons_zero, List.set_cons_succ, i64_w, i32_w]
            rfl
          refine pure_ (i := 2) (N := some 92) (v := ?_) (a' := ?_) #[true, true, true, false, false, false, false, false, false, false, false, false, false, false, false, false, false, false] rfl rfl (by kernel_rfl) (fun _ _ _ h => h) (Or.inl ⟨by rfl, ?_⟩) ?_ ?_
          rotate_left
          · intro w'
            go_simp
            with_reducible rfl
          rotate_left
          · simp only [Act.put, List.setIfInBounds_toArray, List.set_cons_zero, List.set_cons_succ, i64_w, i32_w]
            rfl
          refine pure_ (i := 3) (N := some 93) (v := ?_) (a' := ?_) #[true, true, true, true, false, false, false, false, false, false, false, false, false, false, false, false, false, false] rfl rfl (by kernel_rfl) (fun _ _ _ h => h) (Or.inl ⟨by rfl, ?_⟩) ?_ ?_
          rotate_left
          · intro w'
            go_simp
            with_reducible rfl
          rotate_left
          · simp only [Act.put, List.setIfInBounds_toArray, List.set_cons_zero, List.set_cons_succ, i64_w, i32_w]
            rfl
          refine pure_ (i := 4) (N := some 94) (v := ?_) (a' := ?_) #[true, true, true, true, true, false, false, false, false, false, false, false, false, false, false, false, false, false] rfl rfl (by kernel_rfl) (fun _ _ _ h => h) (Or.inl ⟨by rfl, ?_⟩) ?_ ?_
          rotate_left
          · intro w'
            go_simp
            with_reducible rfl
          rotate_left
          · simp only [Act.put, List.setIfInBounds_toArray, List.set_cons_zero, List.set_cons_succ, i64_w, i32_w]
            rfl
          refine pure_ (i := 6) (N := some 96) (v := ?_) (a' := ?_) #[true, true, true, true, true, false, true, false, false, false, false, false, false, false, false, false, false, false] rfl rfl (by kernel_rfl) (fun _ _ _ h => h) (Or.inl ⟨by rfl, ?_⟩) ?_ ?_
          rotate_left
          · intro w'
            go_simp
            with_reducible rfl
          rotate_left
          · simp only [Act.put, List.setIfInBounds_toArray, List.set_cons_zero, List.set_cons_succ, i64_w, i32_w]
            rfl
          refine pure_ (i := 7) (N := some 97) (v := ?_) (a' := ?_) #[true, true, true, true, true, false, true, true, false, false, false, false, false, false, false, false, false, false] rfl rfl (by kernel_rfl) (fun _ _ _ h => h) (Or.inl ⟨by rfl, ?_⟩) ?_ ?_
          rotate_left
          · intro w'
            go_simp
            with_reducible rfl
          rotate_left
          · simp only [Act.put, List.setIfInBounds_toArray, List.set_cons_zero, List.set_cons_succ, i64_w, i32_w]
            rfl
          refine pure_ (i := 8) (N := some 98) (v := ?_) (a' := ?_) #[true, true, true, true, true, false, true, true, true, false, false, false, false, false, false, false, false, false] rfl rfl (by kernel_rfl) (fun _ _ _ h => h) (Or.inl ⟨by rfl, ?_⟩) ?_ ?_
          rotate_left
          · intro w'
            go_simp
            with_reducible rfl
          rotate_left
          · simp only [Act.put, List.setIfInBounds_toArray, List.set_cons_zero, List.set_cons_succ, i64_w, i32_w]
            rfl
          refine pure_ (i := 9) (N := some 99) (v := ?_) (a' := ?_) #[true, true, true, true, true, false, true, true, true, true, false, false, false, false, false, false, false, false] rfl rfl (by kernel_rfl) (fun _ _ _ h => h) (Or.inl ⟨by rfl, ?_⟩) ?_ ?_
          rotate_left
          · intro w'
            go_simp
            with_reducible rfl
          rotate_left
          · simp only [Act.put, List.setIfInBounds_toArray, List.set_cons_zero, List.set_cons_succ, i64_w, i32_w]
            rfl
          refine pure_ (i := 11) (N := some 101) (v := ?_) (a' := ?_) #[true, true, true, true, true, false, true, true, true, true, false, true, false, false, false, false, false, false] rfl rfl (by kernel_rfl) (fun _ _ _ h => h) (Or.inl ⟨by rfl, ?_⟩) ?_ ?_
          rotate_left
          · intro w'
            go_simp
            with_reducible rfl
          rotate_left
          · simp only [Act.put, List.setIfInBounds_toArray, List.set_cons_zero, List.set_cons_succ, i64_w, i32_w]
            rfl
          refine pure_ (i := 12) (N := some 102) (v := ?_) (a' := ?_) #[true, true, true, true, true, false, true, true, true, true, false, true, true, false, false, false, false, false] rfl rfl (by kernel_rfl) (fun _ _ _ h => h) (Or.inl ⟨by rfl, ?_⟩) ?_ ?_
          rotate_left
          · intro w'
            go_simp
            with_reducible rfl
          rotate_left
          · simp only [Act.put, List.setIfInBounds_toArray, List.set_cons_zero, List.set_cons_succ, i64_w, i32_w]
            rfl
          refine pure_ (i := 13) (N := some 103) (v := ?_) (a' := ?_) #[true, true, true, true, true, false, true, true, true, true, false, true, true, true, false, false, false, false] rfl rfl (by kernel_rfl) (fun _ _ _ h => h) (Or.inl ⟨by rfl, ?_⟩) ?_ ?_
          rotate_left
          · intro w'
            go_simp
            with_reducible rfl
          rotate_left
          · simp only [Act.put, List.setIfInBounds_toArray, List.set_cons_zero, List.set_cons_succ, i64_w, i32_w]
            rfl
          refine pure_ (i := 14) (N := some 104) (v := ?_) (a' := ?_) #[true, true, true, true, true, false, true, true, true, true, false, true, true, true, true, false, false, false] rfl rfl (by kernel_rfl) (fun _ _ _ h => h) (Or.inl ⟨by rfl, ?_⟩) ?_ ?_
          rotate_left
          · intro w'
            go_simp
            with_reducible rfl
          rotate_left
          · simp only [Act.put, List.setIfInBounds_toArray, List.set_cons_zero, List.set_cons_succ, i64_w, i32_w]
            rfl
          refine take_ (i := 5) (N := some 95) (v := ?_) (a' := ?_) #[true, true, true, true, true, true, true, true, true, true, false, true, true, true, true, false, false, false] rfl rfl (by kernel_rfl) (fun _ _ _ h => h) (Or.inl ⟨by rfl, ?_⟩) hHeld ?_ ?_
          rotate_left
          · rintro w' ⟨s0, s1, s2⟩
            go_simp
            with_reducible rfl
          rotate_left
          · simp only [Act.put, List.setIfInBounds_toArray, List.set_cons_zero, List.set_cons_succ, i64_w, i32_w]
            rfl
          refine take_ (i := 10) (N := some 100) (v := ?_) (a' := ?_) #[true, true, true, true, true, true, true, true, true, true, true, true, true, true, true, false, false, false] rfl rfl (by kernel_rfl) (fun _ _ _ h => h) (Or.inl ⟨by rfl, ?_⟩) hHeld ?_ ?_
          rotate_left
          · rintro w' ⟨s0, s1, s2⟩
            go_simp
            with_reducible rfl
          rotate_left
          · simp only [Act.put, List.setIfInBounds_toArray, List.set_cons_zero, List.set_cons_succ, i64_w, i32_w]
            rfl
          refine take_ (i := 15) (N := some 105) (v := ?_) (a' := ?_) #[true, true, true, true, true, true, true, true, true, true, true, true, true, true, true, true, false, false] rfl rfl (by kernel_rfl) (fun _ _ _ h => h) (Or.inl ⟨by rfl, ?_⟩) hHeld ?_ ?_
          rotate_left
          · rintro w' ⟨s0, s1, s2⟩
            go_simp
            with_reducible rfl
          rotate_left
          · simp only [Act.put, List.setIfInBounds_toArray, List.set_cons_zero, List.set_cons_succ, i64_w, i32_w]
            rfl
          refine one_ (i := 16) (N := some 106) #[true, true, true, true, true, true, true, true, true, true, true, true, true, true, true, true, true, false] rfl rfl (by kernel_rfl) (by decide) (fun K hK => ?_)
          refine goes_ Try.func37 (by kernel_rfl) rfl #[.pointer (some ⟨h, 0, none⟩), .int .i64 d.f0, .int .i64 d.f1, .int .i64 d.f2] (by rfl) rfl rfl (by simp only [List.map_toArray, List.map_cons, List.map_nil]; rfl) ?_
          with_reducible refine ((HT0.out.rputid d.f0 d.f1 d.f2 HSN.out s' er hs')).mono ?_
          rintro e V4 ⟨rfl, hT⟩
          refine ⟨_, rfl, ?_⟩
          have HT4 := Aside0.mk hT
          clear hT
          refine hK.out _ _ ⟨(deed6 HCx.out (below_then HB5.out HB5.out.size HT4.out.b) k hlt d hd).1, (deed6 HCx.out (below_then HB5.out HB5.out.size HT4.out.b) k hlt d hd).2.1, (deed6 HCx.out (below_then HB5.out HB5.out.size HT4.out.b) k hlt d hd).2.2.1⟩ (fun hHeld => ?_)
          clear hK K
          refine norm_ (a' := ?_) ?_ ?_
          rotate_left
          · show Act.put _ (some 106) _ = _
            simp only [Act.put, List.setIfInBounds_toArray, List.set_cons_zero, List.set_cons_succ, i64_w, i32_w]
            rfl
          refine pure_ (i := 17) (N := some 13) (v := ?_) (a' := ?_) #[true, true, true, true, true, true, true, true, true, true, true, true, true, true, true, true, true, true] rfl rfl (by kernel_rfl) (fun _ _ _ h => h) (Or.inl ⟨by rfl, ?_⟩) ?_ ?_
          rotate_left
          · intro w'
            go_simp
            with_reducible rfl
          rotate_left
          · simp only [Act.put, List.setIfInBounds_toArray, List.set_cons_zero, List.set_cons_succ, i64_w, i32_w]
            rfl
          refine done_ (by kernel_rfl) ?_
          clear hs' HID
          rcases put_ok hsl.out HRD.out with ⟨hokd, her, hpd, hsl', hsn'⟩ | ⟨her, hse⟩
          · subst her
            obtain ⟨S1, S2, S3, i1, i2, i3, i4, i5, i6, i7, i8, i9⟩ := HT4.out.ex
            have H4 := HT4.out
            have DC := deed6 HCx.out (below_then HB5.out HB5.out.size HT4.out.b) k hlt d hd
            obtain ⟨y0, y1, y2, y3, y4, y5⟩ := DC
            have I1 := Aside0.mk i1
            have I2 := Aside0.mk i2
            have I3 := Aside0.mk i3
            have I4 := Aside0.mk i4
            have I5 := Aside0.mk i5
            have I6 := Aside0.mk i6
            have I7 := Aside0.mk i7
            have I8 := Aside0.mk i8
            have I9 := Aside0.mk i9
            have HOD := Aside0.mk hokd
            have HPD := Aside0.mk hpd
            have HSL2 := Aside0.mk hsl'
            have HSN2 := Aside0.mk hsn'
            have IB := Aside0.mk H4.b
            have IS1 := Aside0.mk H4.sok
            have IS2 := Aside0.mk H4.tok
            have I3b := Aside0.mk (Kd.R_mono i3 (fun k hk => (.inl hk : S3 k ∨ V4.heap.size ≤ k)))
            have HPL := Aside0.mk hpl
            clear i1 i2 i3 i4 i5 i6 i7 i8 i9 H4 hokd hpd hsl' hsn' HT4 HT0 HSN hpl HRD
            go_wp2_with ((with_reducible refine gate_builtin (b := .append) (xs := #[.tmp 136, .tmp 141]) rfl ?_); at_builtin; refine Kd.R_append k55 (w0 := W5) W5.heap.size rfl (.tmp 136) (.tmp 141) 40 55 (.agg #[(.int .i64 0), (.int .i64 0), (.int .i64 0), (.bool false), (.bool false), (.int .i64 0)]) 48 rfl Try.underlying40 info55 rfl (by decide) (by decide) u14 P d [.int .i64 d.f0, .int .i64 d.f1, .int .i64 d.f2, .bool d.f3, .bool d.f4.f0, .int .i64 d.f4.f1] (fun k => S3 k ∨ V4.heap.size ≤ k) (fun _ => False) rfl ?aX (k55_mkM _ _ _ d) (fun _ hk => hk.elim) (fun _ h => .inr h) I3b.out IB.out IB.out.size ?aL ?_; (case aX => first | (go_simp; done) | rfl); (case aL => have := HPL.out; omega); intro v2 w3 ho hb2 hgr hat; have HT5 := Aside0.mk (PI.app I1.out I2.out I3.out I4.out I5.out I6.out I7.out I8.out I9.out IS1.out IS2.out ho hb2 hgr); clear ho hb2 hgr hat)
            exact ⟨⟨k + 1, s', P ++ [d], by omega, by go_num, ⟨fun x hx => by rcases List.mem_append.1 hx with h | h; exact HOKP.out x h; rw [List.mem_singleton.1 h]; exact HOD.out⟩, ⟨by rw [evDs_app, putsE_app _ _ _ (by rw [hpu.out]), hpu.out]; exact HPD.out⟩, ⟨HSL2.out⟩, ⟨by have := HSN2.out; have := hsn.out; omega⟩, by rw [List.length_append]; have := HPL.out; show _ + 1 ≤ _; omega, HT5⟩, by simp [intOf] <;> omega⟩
          · subst her hse
            clear HT0 HRD
            go_wp2_with (fail)
            exact ⟨⟨k + 1, s', P, by omega, by go_num, HOKP, hpu, hsl, ⟨by have := hsn.out; omega⟩, by omega, HT4⟩, by simp [intOf] <;> omega⟩
        · rw [if_neg hid] at hrd
          have hs' := hrd
          have hid2 : d.f3 = false := by simpa using hid
          rw [hid2] at x3
          clear hrd hid hid2
          go_wp2_with (fail)
          have HT0 := Aside0.mk (HT.out.below (below_drew (Below.refl _ _)))
          clear HT x3
          refine start_ (n := 13) (S := fun w' => w'.cell? (ad.add (k * 6)) = some (.int .i64 d.f0) ∧ w'.cell? ⟨(ad.add (k * 6)).block, (ad.add (k * 6)).off + 4, none⟩ = some (.bool d.f4.f0) ∧ w'.cell? ⟨(ad.add (k * 6)).block, (ad.add (k * 6)).off + 5, none⟩ = some (.int .i64 d.f4.f1)) (ds := []) #[false, false, false, false, false, false, false, false, false, false, false, false, false] (by kernel_rfl) rfl rfl ⟨(deed6 HCx.out (below_then HB5.out HB5.out.size HT0.out.b) k hlt d hd).1, (deed6 HCx.out (below_then HB5.out HB5.out.size HT0.out.b) k hlt d hd).2.2.2.2.1, (deed6 HCx.out (below_then HB5.out HB5.out.size HT0.out.b) k hlt d hd).2.2.2.2.2⟩ (fun hHeld => ?_)
          refine pure_ (i := 0) (N := some 107) (v := ?_) (a' := ?_) #[true, false, false, false, false, false, false, false, false, false, false, false, false] rfl rfl (by kernel_rfl) (fun _ _ _ h => h) (Or.inl ⟨by rfl, ?_⟩) ?_ ?_
          rotate_left
          · intro w'
            go_simp
            with_reducible rfl
          rotate_left
          · simp only [Act.put, List.setIfInBounds_toArray, List.set_cons_zero, List.set_cons_succ, i64_w, i32_w]
            rfl
          refine pure_ (i := 1) (N := some 108) (v := ?_) (a' := ?_) #[true, true, false, false, false, false, false, false, false, false, false, false, false] rfl rfl (by kernel_rfl) (fun _ _ _ h => h) (Or.inl ⟨by rfl, ?_⟩) ?_ ?_
          rotate_left
          · intro w'
            go_simp
            with_reducible rfl
          rotate_left
          · simp only [Act.put, List.setIfInBounds_toArray, List.set_cons_zero, List.set_cons_succ, i64_w, i32_w]
            rfl
          refine pure_ (i := 2) (N := some 109) (v := ?_) (a' := ?_) #[true, true, true, false, false, false, false, false, false, false, false, false, false] rfl rfl (by kernel_rfl) (fun _ _ _ h => h) (Or.inl ⟨by rfl, ?_⟩) ?_ ?_
          rotate_left
          · intro w'
            go_simp
            with_reducible rfl
          rotate_left
          · simp only [Act.put, List.setIfInBounds_toArray, List.set_cons_zero, List.set_cons_succ, i64_w, i32_w]
            rfl
          refine pure_ (i := 3) (N := some 110) (v := ?_) (a' := ?_) #[true, true, true, true, false, false, false, false, false, false, false, false, false] rfl rfl (by kernel_rfl) (fun _ _ _ h => h) (Or.inl ⟨by rfl, ?_⟩) ?_ ?_
          rotate_left
          · intro w'
            go_simp
            with_reducible rfl
          rotate_left
          · simp only [Act.put, List.setIfInBounds_toArray, List.set_cons_zero, List.set_cons_succ, i64_w, i32_w]
            rfl
          refine pure_ (i := 4) (N := some 111) (v := ?_) (a' := ?_) #[true, true, true, true, true, false, false, false, false, false, false, false, false] rfl rfl (by kernel_rfl) (fun _ _ _ h => h) (Or.inl ⟨by rfl, ?_⟩) ?_ ?_
          rotate_left
          · intro w'
            go_simp
            with_reducible rfl
          rotate_left
          · simp only [Act.put, List.setIfInBounds_toArray, List.set_cons_zero, List.set_cons_succ, i64_w, i32_w]
            rfl
          refine pure_ (i := 6) (N := some 113) (v := ?_) (a' := ?_) #[true, true, true, true, true, false, true, false, false, false, false, false, false] rfl rfl (by kernel_rfl) (fun _ _ _ h => h) (Or.inl ⟨by rfl, ?_⟩) ?_ ?_
          rotate_left
          · intro w'
            go_simp
            with_reducible rfl
          rotate_left
          · simp only [Act.put, List.setIfInBounds_toArray, List.set_cons_zero, List.set_cons_succ, i64_w, i32_w]
            rfl
          refine pure_ (i := 7) (N := some 114) (v := ?_) (a' := ?_) #[true, true, true, true, true, false, true, true, false, false, false, false, false] rfl rfl (by kernel_rfl) (fun _ _ _ h => h) (Or.inl ⟨by rfl, ?_⟩) ?_ ?_
          rotate_left
          · intro w'
            go_simp
            with_reducible rfl
          rotate_left
          · simp only [Act.put, List.setIfInBounds_toArray, List.set_cons_zero, List.set_cons_succ, i64_w, i32_w]
            rfl
          refine pure_ (i := 8) (N := some 115) (v := ?_) (a' := ?_) #[true, true, true, true, true, false, true, true, true, false, false, false, false] rfl rfl (by kernel_rfl) (fun _ _ _ h => h) (Or.inl ⟨by rfl, ?_⟩) ?_ ?_
          rotate_left
          · intro w'
            go_simp
            with_reducible rfl
          rotate_left
          · simp only [Act.put, List.setIfInBounds_toArray, List.set_cons_zero, List.set_cons_succ, i64_w, i32_w]
            rfl
          refine pure_ (i := 9) (N := some 116) (v := ?_) (a' := ?_) #[true, true, true, true, true, false, true, true, true, true, false, false, false] rfl rfl (by kernel_rfl) (fun _ _ _ h => h) (Or.inl ⟨by rfl, ?_⟩) ?_ ?_
          rotate_left
          · intro w'
            go_simp
            with_reducible rfl
          rotate_left
          · simp only [Act.put, List.setIfInBounds_toArray, List.set_cons_zero, List.set_cons_succ, i64_w, i32_w]
            rfl
          refine take_ (i := 5) (N := some 112) (v := ?_) (a' := ?_) #[true, true, true, true, true, true, true, true, true, true, false, false, false] rfl rfl (by kernel_rfl) (fun _ _ _ h => h) (Or.inl ⟨by rfl, ?_⟩) hHeld ?_ ?_
          rotate_left
          · rintro w' ⟨s0, s1, s2⟩
            go_simp
            with_reducible rfl
          rotate_left
          · simp only [Act.put, List.setIfInBounds_toArray, List.set_cons_zero, List.set_cons_succ, i64_w, i32_w]
            rfl
          refine take_ (i := 10) (N := some 117) (v := ?_) (a' := ?_) #[true, true, true, true, true, true, true, true, true, true, true, false, false] rfl rfl (by kernel_rfl) (fun _ _ _ h => h) (Or.inl ⟨by rfl, ?_⟩) hHeld ?_ ?_
          rotate_left
          · rintro w' ⟨s0, s1, s2⟩
            go_simp
            with_reducible rfl
          rotate_left
          · simp only [Act.put, List.setIfInBounds_toArray, List.set_cons_zero, List.set_cons_succ, i64_w, i32_w]
            rfl
          refine one_ (i := 11) (N := some 118) #[true, true, true, true, true, true, true, true, true, true, true, true, false] rfl rfl (by kernel_rfl) (by decide) (fun K hK => ?_)
          refine goes_ Try.func31 (by kernel_rfl) rfl #[.pointer (some ⟨g, 0, none⟩), .int .i64 d.f0, .agg #[.bool d.f4.f0, .int .i64 d.f4.f1]] (by rfl) rfl rfl (by simp only [List.map_toArray, List.map_cons, List.map_nil]; rfl) ?_
          with_reducible refine ((HT0.out.put d.f0 d.f4.f0 d.f4.f1 HSN.out s' er hs')).mono ?_
          rintro e V3 ⟨rfl, hT⟩
          refine ⟨_, rfl, ?_⟩
          have HT3 := Aside0.mk hT
          clear hT
          refine hK.out _ _ ⟨(deed6 HCx.out (below_then HB5.out HB5.out.size HT3.out.b) k hlt d hd).1, (deed6 HCx.out (below_then HB5.out HB5.out.size HT3.out.b) k hlt d hd).2.2.2.2.1, (deed6 HCx.out (below_then HB5.out HB5.out.size HT3.out.b) k hlt d hd).2.2.2.2.2⟩ (fun hHeld => ?_)
          clear hK K
          refine norm_ (a' := ?_) ?_ ?_
          rotate_left
          · show Act.put _ (some 118) _ = _
            simp only [Act.put, List.setIfInBounds_toArray, List.set_cons_zero, List.set_cons_succ, i64_w, i32_w]
            rfl
          refine pure_ (i := 12) (N := some 8) (v := ?_) (a' := ?_) #[true, true, true, true, true, true, true, true, true, true, true, true, true] rfl rfl (by kernel_rfl) (fun _ _ _ h => h) (Or.inl ⟨by rfl, ?_⟩) ?_ ?_
          rotate_left
          · intro w'
            go_simp
            with_reducible rfl
          rotate_left
          · simp only [Act.put, List.setIfInBounds_toArray, List.set_cons_zero, List.set_cons_succ, i64_w, i32_w]
            rfl
          refine done_ (by kernel_rfl) ?_
          clear HT0
          go_wp2_with (fail)
          have HT0 := Aside0.mk (HT3.out.below (below_drew (Below.refl _ _)))
          clear HT3
          refine start_ (n := 13) (S := fun w' => w'.cell? (ad.add (k * 6)) = some (.int .i64 d.f0) ∧ w'.cell? ⟨(ad.add (k * 6)).block, (ad.add (k * 6)).off + 4, none⟩ = some (.bool d.f4.f0) ∧ w'.cell? ⟨(ad.add (k * 6)).block, (ad.add (k * 6)).off + 5, none⟩ = some (.int .i64 d.f4.f1)) (ds := []) #[false, false, false, false, false, false, false, false, false, false, false, false, false] (by kernel_rfl) rfl rfl ⟨(deed6 HCx.out (below_then HB5.out HB5.out.size HT0.out.b) k hlt d hd).1, (deed6 HCx.out (below_then HB5.out HB5.out.size HT0.out.b) k hlt d hd).2.2.2.2.1, (deed6 HCx.out (below_then HB5.out HB5.out.size HT0.out.b) k hlt d hd).2.2.2.2.2⟩ (fun hHeld => ?_)
          refine pure_ (i := 0) (N := some 119) (v := ?_) (a' := ?_) #[true, false, false, false, false, false, false, false, false, false, false, false, false] rfl rfl (by kernel_rfl) (fun _ _ _ h => h) (Or.inl ⟨by rfl, ?_⟩) ?_ ?_
          rotate_left
          · intro w'
            go_simp
            with_reducible rfl
          rotate_left
          · simp only [Act.put, List.setIfInBounds_toArray, List.set_cons_zero, List.set_cons_succ, i64_w, i32_w]
            rfl
          refine pure_ (i := 1) (N := some 120) (v := ?_) (a' := ?_) #[true, true, false, false, false, false, false, false, false, false, false, false, false] rfl rfl (by kernel_rfl) (fun _ _ _ h => h) (Or.inl ⟨by rfl, ?_⟩) ?_ ?_
          rotate_left
          · intro w'
            go_simp
            with_reducible rfl
          rotate_left
          · simp only [Act.put, List.setIfInBounds_toArray, List.set_cons_zero, List.set_cons_succ, i64_w, i32_w]
            rfl
          refine pure_ (i := 2) (N := some 121) (v := ?_) (a' := ?_) #[true, true, true, false, false, false, false, false, false, false, false, false, false] rfl rfl (by kernel_rfl) (fun _ _ _ h => h) (Or.inl ⟨by rfl, ?_⟩) ?_ ?_
          rotate_left
          · intro w'
            go_simp
            with_reducible rfl
          rotate_left
          · simp only [Act.put, List.setIfInBounds_toArray, List.set_cons_zero, List.set_cons_succ, i64_w, i32_w]
            rfl
          refine pure_ (i := 3) (N := some 122) (v := ?_) (a' := ?_) #[true, true, true, true, false, false, false, false, false, false, false, false, false] rfl rfl (by kernel_rfl) (fun _ _ _ h => h) (Or.inl ⟨by rfl, ?_⟩) ?_ ?_
          rotate_left
          · intro w'
            go_simp
            with_reducible rfl
          rotate_left
          · simp only [Act.put, List.setIfInBounds_toArray, List.set_cons_zero, List.set_cons_succ, i64_w, i32_w]
            rfl
          refine pure_ (i := 4) (N := some 123) (v := ?_) (a' := ?_) #[true, true, true, true, true, false, false, false, false, false, false, false, false] rfl rfl (by kernel_rfl) (fun _ _ _ h => h) (Or.inl ⟨by rfl, ?_⟩) ?_ ?_
          rotate_left
          · intro w'
            go_simp
            with_reducible rfl
          rotate_left
          · simp only [Act.put, List.setIfInBounds_toArray, List.set_cons_zero, List.set_cons_succ, i64_w, i32_w]
            rfl
          refine pure_ (i := 6) (N := some 125) (v := ?_) (a' := ?_) #[true, true, true, true, true, false, true, false, false, false, false, false, false] rfl rfl (by kernel_rfl) (fun _ _ _ h => h) (Or.inl ⟨by rfl, ?_⟩) ?_ ?_
          rotate_left
          · intro w'
            go_simp
            with_reducible rfl
          rotate_left
          · simp only [Act.put, List.setIfInBounds_toArray, List.set_cons_zero, List.set_cons_succ, i64_w, i32_w]
            rfl
          refine pure_ (i := 7) (N := some 126) (v := ?_) (a' := ?_) #[true, true, true, true, true, false, true, true, false, false, false, false, false] rfl rfl (by kernel_rfl) (fun _ _ _ h => h) (Or.inl ⟨by rfl, ?_⟩) ?_ ?_
          rotate_left
          · intro w'
            go_simp
            with_reducible rfl
          rotate_left
          · simp only [Act.put, List.setIfInBounds_toArray, List.set_cons_zero, List.set_cons_succ, i64_w, i32_w]
            rfl
          refine pure_ (i := 8) (N := some 127) (v := ?_) (a' := ?_) #[true, true, true, true, true, false, true, true, true, false, false, false, false] rfl rfl (by kernel_rfl) (fun _ _ _ h => h) (Or.inl ⟨by rfl, ?_⟩) ?_ ?_
          rotate_left
          · intro w'
            go_simp
            with_reducible rfl
          rotate_left
          · simp only [Act.put, List.setIfInBounds_toArray, List.set_cons_zero, List.set_cons_succ, i64_w, i32_w]
            rfl
          refine pure_ (i := 9) (N := some 128) (v := ?_) (a' := ?_) #[true, true, true, true, true, false, true, true, true, true, false, false, false] rfl rfl (by kernel_rfl) (fun _ _ _ h => h) (Or.inl ⟨by rfl, ?_⟩) ?_ ?_
          rotate_left
          · intro w'
            go_simp
            with_reducible rfl
          rotate_left
          · simp only [Act.put, List.setIfInBounds_toArray, List.set_cons_zero, List.set_cons_succ, i64_w, i32_w]
            rfl
          refine take_ (i := 5) (N := some 124) (v := ?_) (a' := ?_) #[true, true, true, true, true, true, true, true, true, true, false, false, false] rfl rfl (by kernel_rfl) (fun _ _ _ h => h) (Or.inl ⟨by rfl, ?_⟩) hHeld ?_ ?_
          rotate_left
          · rintro w' ⟨s0, s1, s2⟩
            go_simp
            with_reducible rfl
          rotate_left
          · simp only [Act.put, List.setIfInBounds_toArray, List.set_cons_zero, List.set_cons_succ, i64_w, i32_w]
            rfl
          refine take_ (i := 10) (N := some 129) (v := ?_) (a' := ?_) #[true, true, true, true, true, true, true, true, true, true, true, false, false] rfl rfl (by kernel_rfl) (fun _ _ _ h => h) (Or.inl ⟨by rfl, ?_⟩) hHeld ?_ ?_
          rotate_left
          · rintro w' ⟨s0, s1, s2⟩
            go_simp
            with_reducible rfl
          rotate_left
          · simp only [Act.put, List.setIfInBounds_toArray, List.set_cons_zero, List.set_cons_succ, i64_w, i32_w]
            rfl
          refine one_ (i := 11) (N := some 130) #[true, true, true, true, true, true, true, true, true, true, true, true, false] rfl rfl (by kernel_rfl) (by decide) (fun K hK => ?_)
          refine goes_ Try.func38 (by kernel_rfl) rfl #[.pointer (some ⟨h, 0, none⟩), .int .i64 d.f0, .agg #[.bool d.f4.f0, .int .i64 d.f4.f1]] (by rfl) rfl rfl (by simp only [List.map_toArray, List.map_cons, List.map_nil]; rfl) ?_
          with_reducible refine ((HT0.out.rput d.f0 d.f4.f0 d.f4.f1 HSN.out s' er hs')).mono ?_
          rintro e V4 ⟨rfl, hT⟩
          refine ⟨_, rfl, ?_⟩
          have HT4 := Aside0.mk hT
          clear hT
          refine hK.out _ _ ⟨(deed6 HCx.out (below_then HB5.out HB5.out.size HT4.out.b) k hlt d hd).1, (deed6 HCx.out (below_then HB5.out HB5.out.size HT4.out.b) k hlt d hd).2.2.2.2.1, (deed6 HCx.out (below_then HB5.out HB5.out.size HT4.out.b) k hlt d hd).2.2.2.2.2⟩ (fun hHeld => ?_)
          clear hK K
          refine norm_ (a' := ?_) ?_ ?_
          rotate_left
          · show Act.put _ (some 130) _ = _
            simp only [Act.put, List.setIfInBounds_toArray, List.set_cons_zero, List.set_cons_succ, i64_w, i32_w]
            rfl
          refine pure_ (i := 12) (N := some 13) (v := ?_) (a' := ?_) #[true, true, true, true, true, true, true, true, true, true, true, true, true] rfl rfl (by kernel_rfl) (fun _ _ _ h => h) (Or.inl ⟨by rfl, ?_⟩) ?_ ?_
          rotate_left
          · intro w'
            go_simp
            with_reducible rfl
          rotate_left
          · simp only [Act.put, List.setIfInBounds_toArray, List.set_cons_zero, List.set_cons_succ, i64_w, i32_w]
            rfl
          refine done_ (by kernel_rfl) ?_
          clear hs'
          rcases put_ok hsl.out HRD.out with ⟨hokd, her, hpd, hsl', hsn'⟩ | ⟨her, hse⟩
          · subst her
            obtain ⟨S1, S2, S3, i1, i2, i3, i4, i5, i6, i7, i8, i9⟩ := HT4.out.ex
            have H4 := HT4.out
            have DC := deed6 HCx.out (below_then HB5.out HB5.out.size HT4.out.b) k hlt d hd
            obtain ⟨y0, y1, y2, y3, y4, y5⟩ := DC
            have I1 := Aside0.mk i1
            have I2 := Aside0.mk i2
            have I3 := Aside0.mk i3
            have I4 := Aside0.mk i4
            have I5 := Aside0.mk i5
            have I6 := Aside0.mk i6
            have I7 := Aside0.mk i7
            have I8 := Aside0.mk i8
            have I9 := Aside0.mk i9
            have HOD := Aside0.mk hokd
            have HPD := Aside0.mk hpd
            have HSL2 := Aside0.mk hsl'
            have HSN2 := Aside0.mk hsn'
            have IB := Aside0.mk H4.b
            have IS1 := Aside0.mk H4.sok
            have IS2 := Aside0.mk H4.tok
            have I3b := Aside0.mk (Kd.R_mono i3 (fun k hk => (.inl hk : S3 k ∨ V4.heap.size ≤ k)))
            have HPL := Aside0.mk hpl
            clear i1 i2 i3 i4 i5 i6 i7 i8 i9 H4 hokd hpd hsl' hsn' HT4 HT0 HSN hpl HRD
            go_wp2_with ((with_reducible refine gate_builtin (b := .append) (xs := #[.tmp 136, .tmp 141]) rfl ?_); at_builtin; refine Kd.R_append k55 (w0 := W5) W5.heap.size rfl (.tmp 136) (.tmp 141) 40 55 (.agg #[(.int .i64 0), (.int .i64 0), (.int .i64 0), (.bool false), (.bool false), (.int .i64 0)]) 48 rfl Try.underlying40 info55 rfl (by decide) (by decide) u14 P d [.int .i64 d.f0, .int .i64 d.f1, .int .i64 d.f2, .bool d.f3, .bool d.f4.f0, .int .i64 d.f4.f1] (fun k => S3 k ∨ V4.heap.size ≤ k) (fun _ => False) rfl ?aX (k55_mkM _ _ _ d) (fun _ hk => hk.elim) (fun _ h => .inr h) I3b.out IB.out IB.out.size ?aL ?_; (case aX => first | (go_simp; done) | rfl); (case aL => have := HPL.out; omega); intro v2 w3 ho hb2 hgr hat; have HT5 := Aside0.mk (PI.app I1.out I2.out I3.out I4.out I5.out I6.out I7.out I8.out I9.out IS1.out IS2.out ho hb2 hgr); clear ho hb2 hgr hat)
            exact ⟨⟨k + 1, s', P ++ [d], by omega, by go_num, ⟨fun x hx => by rcases List.mem_append.1 hx with h | h; exact HOKP.out x h; rw [List.mem_singleton.1 h]; exact HOD.out⟩, ⟨by rw [evDs_app, putsE_app _ _ _ (by rw [hpu.out]), hpu.out]; exact HPD.out⟩, ⟨HSL2.out⟩, ⟨by have := HSN2.out; have := hsn.out; omega⟩, by rw [List.length_append]; have := HPL.out; show _ + 1 ≤ _; omega, HT5⟩, by simp [intOf] <;> omega⟩
          · subst her hse
            clear HT0 HRD
            go_wp2_with (fail)
            exact ⟨⟨k + 1, s', P, by omega, by go_num, HOKP, hpu, hsl, ⟨by have := hsn.out; omega⟩, by omega, HT4⟩, by simp [intOf] <;> omega⟩
      · have HSN := Aside0.mk (show s.out.length ≤ 1099511620000 by have := hsn.out; omega)
        have HSL := Aside0.mk (show s.st.length ≤ 1000000 by have := HT.out.sok.m.2.1; omega)
        obtain ⟨code, hcode⟩ : ∃ x, x = s.end_ := ⟨_, rfl⟩
        have HCO := Aside0.mk hcode
        obtain ⟨AP, cP, hv⟩ : ∃ A c, u14 = .slice A P.length c := by obtain ⟨S1, S2, S3, i1, i2, i3, -⟩ := HT.out.ex; exact Kd.R_slice i3
        subst hv
        clear hcode
        go_wp2_with (fail)
        refine (HT.out.end_ HSN.out).mono ?_
        rintro e V0 ⟨Ac, cc, rfl, hRc, hbc⟩
        rw [← HCO.out] at hRc ⊢
        have HCR := Aside0.mk (Kd.R_reads' hRc)
        have HPV := Aside0.mk (HT.out.below hbc)
        clear hRc hbc HT
        go_wp2_with (fail)
        have HP0 := Aside0.mk (HPV.out.below (below_drew (Below.refl _ _)))
        have HC0 := Aside0.mk (Kd.C_below HCR.out.2.2 (below_drew (Below.refl _ _)))
        have hcc := HCR.out.2.1
        clear HPV
        refine start_ (n := 14) (S := fun w' => (convert 34 9 (.slice Ac code.length cc)).run Try.prog w' = .ok (.string (strOfNums code)) w') (ds := []) #[false, false, false, false, false, false, false, false, false, false, false, false, false, false] (by kernel_rfl) rfl rfl ((Kd.C_string (P := Try.prog) (src := 34) (dst := 9) (c := cc) Try.underlying34 Try.underlying5 Try.underlying9 HC0.out)) (fun hHeld => ?_)
        refine pure_ (i := 0) (N := some 145) (v := ?_) (a' := ?_) #[true, false, false, false, false, false, false, false, false, false, false, false, false, false] rfl rfl (by kernel_rfl) (fun _ _ _ h => h) (Or.inl ⟨by rfl, ?_⟩) ?_ ?_
        rotate_left
        · intro w'
          go_simp
          with_reducible rfl
        rotate_left
        · simp only [Act.put, List.setIfInBounds_toArray, List.set_cons_zero, List.set_cons_succ, i64_w, i32_w]
          rfl
        refine pure_ (i := 2) (N := some 147) (v := ?_) (a' := ?_) #[true, false, true, false, false, false, false, false, false, false, false, false, false, false] rfl rfl (by kernel_rfl) (fun _ _ _ h => h) (Or.inl ⟨by rfl, ?_⟩) ?_ ?_
        rotate_left
        · intro w'
          go_simp
          with_reducible rfl
        rotate_left
        · simp only [Act.put, List.setIfInBounds_toArray, List.set_cons_zero, List.set_cons_succ, i64_w, i32_w]
          rfl
        refine take_ (i := 1) (N := some 146) (v := ?_) (a' := ?_) #[true, true, true, false, false, false, false, false, false, false, false, false, false, false] rfl rfl (by kernel_rfl) (fun _ _ _ h => h) (Or.inl ⟨by rfl, ?_⟩) hHeld ?_ ?_
        rotate_left
        · intro w' s0
          go_simp
          with_reducible rfl
        rotate_left
        · simp only [Act.put, List.setIfInBounds_toArray, List.set_cons_zero, List.set_cons_succ, i64_w, i32_w]
          rfl
        refine one_ (i := 3) (N := some 148) #[true, true, true, true, false, false, false, false, false, false, false, false, false, false] rfl rfl (by kernel_rfl) (by decide) (fun K hK => ?_)
        refine goes_ Try.func40 (by kernel_rfl) rfl #[.pointer (some ⟨h, 0, none⟩)] (by rfl) rfl rfl (by simp only [List.map_toArray, List.map_cons, List.map_nil]; rfl) ?_
        with_reducible refine (HP0.out.rend HSN.out).mono ?_
        rintro e V1 ⟨A1, c1, rfl, hR1, hb1⟩
        refine ⟨_, rfl, ?_⟩
        rw [← HCO.out] at hR1 ⊢
        have q2 := (Kd.C_string (P := Try.prog) (src := 34) (dst := 9) (c := c1) Try.underlying34 Try.underlying5 Try.underlying9 (Kd.R_reads' hR1).2.2)
        have HP1 := Aside0.mk (HP0.out.below hb1)
        have HC1 := Aside0.mk (Kd.C_below HC0.out hb1)
        clear hR1 hb1 HP0 HC0
        refine hK.out _ _ ((Kd.C_string (P := Try.prog) (src := 34) (dst := 9) (c := cc) Try.underlying34 Try.underlying5 Try.underlying9 HC1.out)) (fun hHeld => ?_)
        clear hK K
        refine norm_ (a' := ?_) ?_ ?_
        rotate_left
        · show Act.put _ (some 148) _ = _
          simp only [Act.put, List.setIfInBounds_toArray, List.set_cons_zero, List.set_cons_succ, i64_w, i32_w]
          rfl
        refine one_ (i := 4) (N := some 149) #[true, true, true, true, true, false, false, false, false, false, false, false, false, false] rfl rfl (by kernel_rfl) (by decide) (fun K hK => ?_)
        refine value_ (w1 := ?_) (v := ?_) (by rfl) rfl ?_ ?_
        rotate_left 2
        · go_simp
          constructor
          · rfl
          · rfl
        refine hK.out _ _ ((Kd.C_string (P := Try.prog) (src := 34) (dst := 9) (c := cc) Try.underlying34 Try.underlying5 Try.underlying9 HC1.out)) (fun hHeld => ?_)
        clear hK K
        refine norm_ (a' := ?_) ?_ ?_
        rotate_left
        · show Act.put _ (some 149) _ = _
          simp only [Act.put, List.setIfInBounds_toArray, List.set_cons_zero, List.set_cons_succ, i64_w, i32_w]
          rfl
        refine pure_ (i := 5) (N := some 150) (v := ?_) (a' := ?_) #[true, true, true, true, true, true, false, false, false, false, false, false, false, false] rfl rfl (by kernel_rfl) (fun _ _ _ h => h) (Or.inl ⟨by rfl, ?_⟩) ?_ ?_
        rotate_left
        · intro w'
          go_simp
          with_reducible rfl
        rotate_left
        · simp only [Act.put, List.setIfInBounds_toArray, List.set_cons_zero, List.set_cons_succ, i64_w, i32_w]
          rfl
        refine pure_ (i := 6) (N := some 151) (v := ?_) (a' := ?_) #[true, true, true, true, true, true, true, false, false, false, false, false, false, false] rfl rfl (by kernel_rfl) (fun _ _ _ h => h) (Or.inl ⟨by rfl, ?_⟩) ?_ ?_
        rotate_left
        · intro w'
          go_simp
          with_reducible rfl
        rotate_left
        · simp only [Act.put, List.setIfInBounds_toArray, List.set_cons_zero, List.set_cons_succ, i64_w, i32_w]
          rfl
        refine pure_ (i := 7) (N := some 152) (v := ?_) (a' := ?_) #[true, true, true, true, true, true, true, true, false, false, false, false, false, false] rfl rfl (by kernel_rfl) (fun _ _ _ h => h) (Or.inl ⟨by rfl, ?_⟩) ?_ ?_
        rotate_left
        · intro w'
          go_simp
          with_reducible rfl
        rotate_left
        · simp only [Act.put, List.setIfInBounds_toArray, List.set_cons_zero, List.set_cons_succ, i64_w, i32_w]
          rfl
        refine pure_ (i := 9) (N := some 154) (v := ?_) (a' := ?_) #[true, true, true, true, true, true, true, true, false, true, false, false, false, false] rfl rfl (by kernel_rfl) (fun _ _ _ h => h) (Or.inl ⟨by rfl, ?_⟩) ?_ ?_
        rotate_left
        · intro w'
          go_simp
          with_reducible rfl
        rotate_left
        · simp only [Act.put, List.setIfInBounds_toArray, List.set_cons_zero, List.set_cons_succ, i64_w, i32_w]
          rfl
        refine one_ (i := 8) (N := some 153) #[true, true, true, true, true, true, true, true, true, true, false, false, false, false] rfl rfl (by kernel_rfl) (by decide) (fun K hK => ?_)
        refine goes_ Try.func42 (by kernel_rfl) rfl #[.pointer (some ⟨g, 0, none⟩)] (by rfl) rfl rfl (by simp only [List.map_toArray, List.map_cons, List.map_nil]; rfl) ?_
        with_reducible refine (HP1.out.model).mono ?_
        rintro e V2 ⟨A2, c2, rfl, hR2, hb2⟩
        refine ⟨_, rfl, ?_⟩
        have HM2 := Aside0.mk (Kd.R_reads' hR2)
        have HP2 := Aside0.mk (HP1.out.below hb2)
        have HC2 := Aside0.mk (Kd.C_below HC1.out hb2)
        clear hR2 hb2 HP1 HC1
        refine hK.out _ _ ((Kd.C_string (P := Try.prog) (src := 34) (dst := 9) (c := cc) Try.underlying34 Try.underlying5 Try.underlying9 HC2.out)) (fun hHeld => ?_)
        clear hK K
        refine norm_ (a' := ?_) ?_ ?_
        rotate_left
        · show Act.put _ (some 153) _ = _
          simp only [Act.put, List.setIfInBounds_toArray, List.set_cons_zero, List.set_cons_succ, i64_w, i32_w]
          rfl
        refine one_ (i := 10) (N := some 155) #[true, true, true, true, true, true, true, true, true, true, true, false, false, false] rfl rfl (by kernel_rfl) (by decide) (fun K hK => ?_)
        refine goes_ Try.func43 (by kernel_rfl) rfl #[.pointer (some ⟨h, 0, none⟩)] (by rfl) rfl rfl (by simp only [List.map_toArray, List.map_cons, List.map_nil]; rfl) ?_
        with_reducible refine (HP2.out.rmodel).mono ?_
        rintro e V3 ⟨A3, c3, rfl, hR3, hb3⟩
        refine ⟨_, rfl, ?_⟩
        have HM3 := Aside0.mk (Kd.R_reads' hR3)
        have HM23 := Aside0.mk (Kd.C_below HM2.out.2.2 hb3)
        have HP3 := Aside0.mk (HP2.out.below hb3)
        have HC3 := Aside0.mk (Kd.C_below HC2.out hb3)
        clear hR3 hb3 HP2 HC2
        refine hK.out _ _ ((Kd.C_string (P := Try.prog) (src := 34) (dst := 9) (c := cc) Try.underlying34 Try.underlying5 Try.underlying9 HC3.out)) (fun hHeld => ?_)
        clear hK K
        refine norm_ (a' := ?_) ?_ ?_
        rotate_left
        · show Act.put _ (some 155) _ = _
          simp only [Act.put, List.setIfInBounds_toArray, List.set_cons_zero, List.set_cons_succ, i64_w, i32_w]
          rfl
        refine one_ (i := 11) (N := some 156) #[true, true, true, true, true, true, true, true, true, true, true, true, false, false] rfl rfl (by kernel_rfl) (by decide) (fun K hK => ?_)
        refine goes_ Try.func41 (by kernel_rfl) rfl #[.agg #[.int .i64 s.kind, .slice A2 s.st.length c2], .agg #[.int .i64 s.kind, .slice A3 s.st.length c3]] (by rfl) rfl rfl (by simp only [List.map_toArray, List.map_cons, List.map_nil]; rfl) ?_
        with_reducible refine (sm_calls s.kind s.st HSL.out A2 c2 A3 c3 V3 HM23.out HM2.out.2.1 HM3.out.2.2 HM3.out.2.1).mono ?_
        rintro e V4 ⟨rfl, hb4⟩
        refine ⟨_, rfl, ?_⟩
        have HP4 := Aside0.mk (HP3.out.below hb4)
        have HC4 := Aside0.mk (Kd.C_below HC3.out hb4)
        clear hb4 HP3 HC3
        refine hK.out _ _ ((Kd.C_string (P := Try.prog) (src := 34) (dst := 9) (c := cc) Try.underlying34 Try.underlying5 Try.underlying9 HC4.out)) (fun hHeld => ?_)
        clear hK K
        refine norm_ (a' := ?_) ?_ ?_
        rotate_left
        · show Act.put _ (some 156) _ = _
          simp only [Act.put, List.setIfInBounds_toArray, List.set_cons_zero, List.set_cons_succ, i64_w, i32_w]
          rfl
        refine pure_ (i := 12) (N := some 157) (v := ?_) (a' := ?_) #[true, true, true, true, true, true, true, true, true, true, true, true, true, false] rfl rfl (by kernel_rfl) (fun _ _ _ h => h) (Or.inl ⟨by rfl, ?_⟩) ?_ ?_
        rotate_left
        · intro w'
          go_simp
          with_reducible rfl
        rotate_left
        · simp only [Act.put, List.setIfInBounds_toArray, List.set_cons_zero, List.set_cons_succ, i64_w, i32_w]
          rfl
        refine pure_ (i := 13) (N := some 158) (v := ?_) (a' := ?_) #[true, true, true, true, true, true, true, true, true, true, true, true, true, true] rfl rfl (by kernel_rfl) (fun _ _ _ h => h) (Or.inl ⟨by rfl, ?_⟩) ?_ ?_
        rotate_left
        · intro w'
          go_simp
          with_reducible rfl
        rotate_left
        · simp only [Act.put, List.setIfInBounds_toArray, List.set_cons_zero, List.set_cons_succ, i64_w, i32_w]
          rfl
        refine done_ (by kernel_rfl) ?_
        have hcby := code_bytes (newES kind st) (evDs P) (newES_ok HMO.out) (fun x hx => absurd hx List.not_mem_nil)
        have HBY := Aside0.mk (show Bytes code by rw [HCO.out]; have := hcby.1; rw [hpu.out] at this; exact this)
        have hlc : code.length ≤ 1099511627776 := by rw [HCO.out, show s.end_ = s.out ++ endOf s.low s.high from rfl, List.length_append]; have := endOf_len s.low s.high; have := HSN.out; omega
        have HLC := Aside0.mk hlc
        have HZ4 := Aside0.mk (blk_below HZ7.out HP4.out.b)
        have k0 : V4.cell? ⟨b7, 0, none⟩ = some (.int .i64 kind) := (blk_cell HZ4.out 0).trans rfl
        have k1 : V4.cell? ⟨b7, 1, none⟩ = some (.slice A st.length c) := (blk_cell HZ4.out 1).trans rfl
        clear hcby hlc HCR HM2 HM3 HM23 q2
        go_wp2_with (fail)
        refine (new_dec A c kind st Ac cc code V4 (Kd.C_below HCM.out HP4.out.b) hcB HMO.out HC4.out hcc HBY.out HLC.out).mono ?_
        rintro e V8 ⟨gd, rfl, hE8, hB8⟩
        have HD8 := Aside0.mk (show IS DecAt V8 (Since V4.heap.size V8) gd (newDS kind st code) V8 from ⟨hE8, Mods.refl _ _, newDS_ok HMO.out HBY.out HLC.out⟩)
        obtain ⟨dE, hfol, hsync⟩ := back_fol (l := evDs P) HMO.out (by rw [hpu.out]) HBY.out (by rw [hpu.out]; exact HCO.out)
        rw [hpu.out] at hsync
        have HFOL := Aside0.mk hfol
        have HSY := Aside0.mk (show dE.kind = s.kind ∧ dE.st = s.st from ⟨hsync.k, hsync.st⟩)
        have HLA := Aside0.mk (HP4.out.later hB8 rfl)
        have HPR := Aside0.mk (show ∀ W, Mods V8 W (Since V4.heap.size V8) → Kd.C k55 W AP P.length P from fun W hM => (HLA.out W hM).2)
        have HSD := Aside0.mk (show ∀ k, Since V4.heap.size V8 k → k < V8.heap.size from fun k hk => hk.2)
        have hb4 := below_then HB5.out HB5.out.size HP4.out.b
        have HB8 := Aside0.mk (below_then hb4 hb4.size hB8)
        have HSV := Aside0.mk (show ∀ k, Since V4.heap.size V8 k → w.heap.size ≤ k from fun k hk => Nat.le_trans hb4.size hk.1)
        have hmP : P.length ≤ 9223372036854775807 := by omega
        clear hE8 hB8 hfol hsync k0 k1 HZ4 hb4 HP4 HC4 HBY HLC
        go_wp2_with (fail)
        go_loopw [18] (fun i wr => ∃ (j : Nat) (d1 : DS), j ≤ P.length ∧ i = .int .i64 j ∧ Aside0 (Fol d1 (evDs (P.drop j)) dE) ∧ Aside0 (d1.st.length = NN) ∧ Aside0 (IS DecAt V8 (Since V4.heap.size V8) gd d1 wr)) (fun i _ => P.length - (intOf i).toNat)
        case atStart => exact ⟨0, _, Nat.zero_le _, rfl, HFOL, ⟨HNN.out⟩, HD8⟩
        clear HD8 HFOL
        case round =>
          obtain ⟨j, d1, hjl, rfl, HF, HL, HT⟩ := hrel
          by_cases hlt : j < P.length
          · obtain ⟨ad, hA, -⟩ := at_T55 (HPR.out _ HT.out.m) (j : Int) (by omega) (by omega)
            subst hA
            obtain ⟨d, hd⟩ : ∃ d, rd_T55 P (j : Int) = d := ⟨_, rfl⟩
            obtain ⟨ed, hmem⟩ := evDs_drop hlt d hd
            have hf := HF.out
            rw [ed] at hf
            obtain ⟨c1, hf1, hf2⟩ := Fol.app.1 hf
            have hokd := HOKP.out d hmem
            have HF2 := Aside0.mk hf2
            have HL2 := Aside0.mk (show c1.st.length = NN from (fol_len_st hf1).trans HL.out)
            have x3 := (deed6' (HPR.out _ HT.out.m) j hlt d hd).2.2.2.1
            unfold okD at hokd
            unfold evD at hf1
            clear hf hf2 ed hmem
            by_cases hid : d.f3 = true
            · rw [if_pos hid] at hokd hf1
              have hgot := idR_fol hokd HL.out hf1
              rw [hid] at x3
              have HGOT := Aside0.mk hgot
              clear hid hokd hf1 hgot
              go_wp2_with (fail)
              have HT0 := Aside0.mk (HT.out.below (below_drew (Below.refl _ _)))
              clear HT x3
              refine start_ (n := 17) (S := fun w' => w'.cell? (ad.add (j * 6)) = some (.int .i64 d.f0) ∧ w'.cell? ⟨(ad.add (j * 6)).block, (ad.add (j * 6)).off + 1, none⟩ = some (.int .i64 d.f1)) (ds := []) #[false, false, false, false, false, false, false, false, false, false, false, false, false, false, false, false, false] (by kernel_rfl) rfl rfl ⟨(deed6' (HPR.out _ HT0.out.m) j hlt d hd).1, (deed6' (HPR.out _ HT0.out.m) j hlt d hd).2.1⟩ (fun hHeld => ?_)
              refine pure_ (i := 0) (N := some 179) (v := ?_) (a' := ?_) #[true, false, false, false, false, false, false, false, false, false, false, false, false, false, false, false, false] rfl rfl (by kernel_rfl) (fun _ _ _ h => h) (Or.inl ⟨by rfl, ?_⟩) ?_ ?_
              rotate_left
              · intro w'
                go_simp
                with_reducible rfl
              rotate_left
              · simp only [Act.put, List.setIfInBounds_toArray, List.set_cons_zero, List.set_cons_succ, i64_w, i32_w]
                rfl
              refine pure_ (i := 1) (N := some 180) (v := ?_) (a' := ?_) #[true, true, false, false, false, false, false, false, false, false, false, false, false, false, false, false, false] rfl rfl (by kernel_rfl) (fun _ _ _ h => h) (Or.inl ⟨by rfl, ?_⟩) ?_ ?_
              rotate_left
              · intro w'
                go_simp
                with_reducible rfl
              rotate_left
              · simp only [Act.put, List.setIfInBounds_toArray, List.set_cons_zero, List.set_cons_succ, i64_w, i32_w]
                rfl
              refine pure_ (i := 2) (N := some 181) (v := ?_) (a' := ?_) #[true, true, true, false, false, false, false, false, false, false, false, false, false, false, false, false, false] rfl rfl (by kernel_rfl) (fun _ _ _ h => h) (Or.inl ⟨by rfl, ?_⟩) ?_ ?_
              rotate_left
              · intro w'
                go_simp
                with_reducible rfl
              rotate_left
              · simp only [Act.put, List.setIfInBounds_toArray, List.set_cons_zero, List.set_cons_succ, i64_w, i32_w]
                rfl
              refine pure_ (i := 3) (N := some 182) (v := ?_) (a' := ?_) #[true, true, true, true, false, false, false, false, false, false, false, false, false, false, false, false, false] rfl rfl (by kernel_rfl) (fun _ _ _ h => h) (Or.inl ⟨by rfl, ?_⟩) ?_ ?_
              rotate_left
              · intro w'
                go_simp
                with_reducible rfl
              rotate_left
              · simp only [Act.put, List.setIfInBounds_toArray, List.set_cons_zero, List.set_cons_succ, i64_w, i32_w]
                rfl
              refine pure_ (i := 4) (N := some 183) (v := ?_) (a' := ?_) #[true, true, true, true, true, false, false, false, false, false, false, false, false, false, false, false, false] rfl rfl (by kernel_rfl) (fun _ _ _ h => h) (Or.inl ⟨by rfl, ?_⟩) ?_ ?_
              rotate_left
              · intro w'
                go_simp
                with_reducible rfl
              rotate_left
              · simp only [Act.put, List.setIfInBounds_toArray, List.set_cons_zero, List.set_cons_succ, i64_w, i32_w]
                rfl
              refine pure_ (i := 6) (N := some 185) (v := ?_) (a' := ?_) #[true, true, true, true, true, false, true, false, false, false, false, false, false, false, false, false, false] rfl rfl (by kernel_rfl) (fun _ _ _ h => h) (Or.inl ⟨by rfl, ?_⟩) ?_ ?_
              rotate_left
              · intro w'
                go_simp
                with_reducible rfl
              rotate_left
              · simp only [Act.put, List.setIfInBounds_toArray, List.set_cons_zero, List.set_cons_succ, i64_w, i32_w]
                rfl
              refine pure_ (i := 7) (N := some 186) (v := ?_) (a' := ?_) #[true, true, true, true, true, false, true, true, false, false, false, false, false, false, false, false, false] rfl rfl (by kernel_rfl) (fun _ _ _ h => h) (Or.inl ⟨by rfl, ?_⟩) ?_ ?_
              rotate_left
              · intro w'
                go_simp
                with_reducible rfl
              rotate_left
              · simp only [Act.put, List.setIfInBounds_toArray, List.set_cons_zero, List.set_cons_succ, i64_w, i32_w]
                rfl
              refine pure_ (i := 8) (N := some 187) (v := ?_) (a' := ?_) #[true, true, true, true, true, false, true, true, true, false, false, false, false, false, false, false, false] rfl rfl (by kernel_rfl) (fun _ _ _ h => h) (Or.inl ⟨by rfl, ?_⟩) ?_ ?_
              rotate_left
              · intro w'
                go_simp
                with_reducible rfl
              rotate_left
              · simp only [Act.put, List.setIfInBounds_toArray, List.set_cons_zero, List.set_cons_succ, i64_w, i32_w]
                rfl
              refine pure_ (i := 9) (N := some 188) (v := ?_) (a' := ?_) #[true, true, true, true, true, false, true, true, true, true, false, false, false, false, false, false, false] rfl rfl (by kernel_rfl) (fun _ _ _ h => h) (Or.inl ⟨by rfl, ?_⟩) ?_ ?_
              rotate_left
              · intro w'
                go_simp
                with_reducible rfl
              rotate_left
              · simp only [Act.put, List.setIfInBounds_toArray, List.set_cons_zero, List.set_cons_succ, i64_w, i32_w]
                rfl
              refine take_ (i := 5) (N := some 184) (v := ?_) (a' := ?_) #[true, true, true, true, true, true, true, true, true, true, false, false, false, false, false, false, false] rfl rfl (by kernel_rfl) (fun _ _ _ h => h) (Or.inl ⟨by rfl, ?_⟩) hHeld ?_ ?_
              rotate_left
              · rintro w' ⟨s0, s1⟩
                go_simp
                with_reducible rfl
              rotate_left
              · simp only [Act.put, List.setIfInBounds_toArray, List.set_cons_zero, List.set_cons_succ, i64_w, i32_w]
                rfl
              refine take_ (i := 10) (N := some 189) (v := ?_) (a' := ?_) #[true, true, true, true, true, true, true, true, true, true, true, false, false, false, false, false, false] rfl rfl (by kernel_rfl) (fun _ _ _ h => h) (Or.inl ⟨by rfl, ?_⟩) hHeld ?_ ?_
              rotate_left
              · rintro w' ⟨s0, s1⟩
                go_simp
                with_reducible rfl
              rotate_left
              · simp only [Act.put, List.setIfInBounds_toArray, List.set_cons_zero, List.set_cons_succ, i64_w, i32_w]
                rfl
              refine one_ (i := 11) (N := some 190) #[true, true, true, true, true, true, true, true, true, true, true, true, false, false, false, false, false] rfl rfl (by kernel_rfl) (by decide) (fun K hK => ?_)
              refine goes_ Try.func25 (by kernel_rfl) rfl #[.pointer (some ⟨gd, 0, none⟩), .int .i64 d.f0, .int .i64 d.f1] (by rfl) rfl rfl (by simp only [List.map_toArray, List.map_cons, List.map_nil]; rfl) ?_
              with_reducible refine ((HT0.out.getid HSD.out d.f0 d.f1 c1 d.f2 0 HGOT.out)).mono ?_
              rintro e V3 ⟨rfl, hT⟩
              refine ⟨_, rfl, ?_⟩
              have HT3 := Aside0.mk hT
              clear hT
              refine hK.out _ _ ⟨(deed6' (HPR.out _ HT3.out.m) j hlt d hd).1, (deed6' (HPR.out _ HT3.out.m) j hlt d hd).2.1⟩ (fun hHeld => ?_)
              clear hK K
              refine norm_ (a' := ?_) ?_ ?_
              rotate_left
              · show Act.put _ (some 190) _ = _
                simp only [Act.put, List.setIfInBounds_toArray, List.set_cons_zero, List.set_cons_succ, i64_w, i32_w]
                rfl
              refine pure_ (i := 12) (N := some 178) (v := ?_) (a' := ?_) #[true, true, true, true, true, true, true, true, true, true, true, true, true, false, false, false, false] rfl rfl (by kernel_rfl) (fun _ _ _ h => h) (Or.inl ⟨by rfl, ?_⟩) ?_ ?_
              rotate_left
              · intro w'
                go_simp
                with_reducible rfl
              rotate_left
              · simp only [Act.put, List.setIfInBounds_toArray, List.set_cons_zero, List.set_cons_succ, i64_w, i32_w]
                rfl
              refine pure_ (i := 13) (N := some 191) (v := ?_) (a' := ?_) #[true, true, true, true, true, true, true, true, true, true, true, true, true, true, false, false, false] rfl rfl (by kernel_rfl) (fun _ _ _ h => h) (Or.inl ⟨by rfl, ?_⟩) ?_ ?_
              rotate_left
              · intro w'
                go_simp
                with_reducible rfl
              rotate_left
              · simp only [Act.put, List.setIfInBounds_toArray, List.set_cons_zero, List.set_cons_succ, i64_w, i32_w]
                rfl
              refine pure_ (i := 14) (N := some 192) (v := ?_) (a' := ?_) #[true, true, true, true, true, true, true, true, true, true, true, true, true, true, true, false, false] rfl rfl (by kernel_rfl) (fun _ _ _ h => h) (Or.inl ⟨by rfl, ?_⟩) ?_ ?_
              rotate_left
              · intro w'
                go_simp
                with_reducible rfl
              rotate_left
              · simp only [Act.put, List.setIfInBounds_toArray, List.set_cons_zero, List.set_cons_succ, i64_w, i32_w]
                rfl
              refine pure_ (i := 15) (N := some 19) (v := ?_) (a' := ?_) #[true, true, true, true, true, true, true, true, true, true, true, true, true, true, true, true, false] rfl rfl (by kernel_rfl) (fun _ _ _ h => h) (Or.inl ⟨by rfl, ?_⟩) ?_ ?_
              rotate_left
              · intro w'
                go_simp
                with_reducible rfl
              rotate_left
              · simp only [Act.put, List.setIfInBounds_toArray, List.set_cons_zero, List.set_cons_succ, i64_w, i32_w]
                rfl
              refine pure_ (i := 16) (N := some 20) (v := ?_) (a' := ?_) #[true, true, true, true, true, true, true, true, true, true, true, true, true, true, true, true, true] rfl rfl (by kernel_rfl) (fun _ _ _ h => h) (Or.inl ⟨by rfl, ?_⟩) ?_ ?_
              rotate_left
              · intro w'
                go_simp
                with_reducible rfl
              rotate_left
              · simp only [Act.put, List.setIfInBounds_toArray, List.set_cons_zero, List.set_cons_succ, i64_w, i32_w]
                rfl
              refine done_ (by kernel_rfl) ?_
              clear HT0
              have y2 := (deed6' (HPR.out _ HT3.out.m) j hlt d hd).2.2.1
              go_wp2_with (fail)
              exact ⟨⟨j + 1, c1, by omega, by go_num, HF2, HL2, HT3⟩, by simp [intOf] <;> omega⟩
            · rw [if_neg hid] at hokd hf1
              have hgot := numR_fol hokd HL.out hf1
              have hid2 : d.f3 = false := by simpa using hid
              rw [hid2] at x3
              have x0 := (deed6' (HPR.out _ HT.out.m) j hlt d hd).1
              have HGOT := Aside0.mk hgot
              clear hid hid2 hokd hf1 hgot
              go_wp2_with (fail)
              refine (HT.out.num HSD.out d.f0 c1 d.f4.f0 d.f4.f1 0 HGOT.out).mono ?_
              rintro e V3 ⟨rfl, hT⟩
              obtain ⟨b21, hb21⟩ : ∃ x, V3.heap.size = x := ⟨_, rfl⟩
              obtain ⟨V5, hV5⟩ : ∃ x, V3.alloc (.cells #[.bool d.f4.f0, .int .i64 d.f4.f1] 23) = x := ⟨_, rfl⟩
              have HT5 := Aside0.mk (show IS DecAt V8 (Since V4.heap.size V8) gd c1 V5 from hV5 ▸ hT.below (below_alloc (Below.refl _ _) _))
              have HZ5 := Aside0.mk (show V5.heap[b21]? = some (.cells #[.bool d.f4.f0, .int .i64 d.f4.f1] 23 (0, 0)) from hV5 ▸ hb21 ▸ heap_new V3 _)
              have z0 : V5.cell? ⟨b21, 0, none⟩ = some (.bool d.f4.f0) := (blk_cell HZ5.out 0).trans rfl
              have z1 : V5.cell? ⟨b21, 1, none⟩ = some (.int .i64 d.f4.f1) := (blk_cell HZ5.out 1).trans rfl
              obtain ⟨-, -, -, -, y4, y5⟩ := deed6' (HPR.out _ HT5.out.m) j hlt d hd
              clear hT x0 x3 HT
              go_wp2_with (fail)
              clear hV5 hb21
              go_region
              have HT6 := Aside0.mk (HT5.out.below (below_drew (Below.refl _ _)))
              clear HT5
              go_wp2_with (fail)
              exact ⟨⟨j + 1, c1, by omega, by go_num, HF2, HL2, HT6⟩, by simp [intOf] <;> omega⟩
          · have hf := HF.out
            rw [List.drop_eq_nil_of_le (by omega)] at hf
            obtain rfl : d1 = dE := hf
            have HBw := Aside0.mk (below_mods HB8.out HT.out.m HSV.out HB8.out.size)
            go_wp2_with (fail)
            refine (dec_model_calls wr _ gd d1 HT.out.d HT.out.ok).mono ?_
            rw [HSY.out.1, HSY.out.2]
            rintro e V9 ⟨A9, c9, rfl, hR9, hb9⟩
            have HM9 := Aside0.mk (Kd.R_reads' hR9)
            have HB9 := Aside0.mk (below_then HBw.out HBw.out.size hb9)
            have HE9 := Aside0.mk (HLA.out V9 (HT.out.below hb9).m).1
            clear hR9 hb9 HBw
            go_wp2_with (fail)
            refine HE9.out.mono ?_
            rintro e V10 ⟨A10, c10, rfl, hR10, hb10⟩
            have HM10 := Aside0.mk (Kd.R_reads' hR10)
            have HM9b := Aside0.mk (Kd.C_below HM9.out.2.2 hb10)
            have HB10 := Aside0.mk (below_then HB9.out HB9.out.size hb10)
            clear hR10 hb10 HB9
            go_wp2_with (fail)
            refine (sm_calls s.kind s.st HSL.out A9 c9 A10 c10 V10 HM9b.out HM9.out.2.1 HM10.out.2.2 HM10.out.2.1).mono ?_
            rintro e V11 ⟨rfl, hb11⟩
            have HB11 := Aside0.mk (below_then HB10.out HB10.out.size hb11)
            clear hb11
            go_wp2_with (fail)
            refine (sane_calls _).mono ?_
            rintro e V12 ⟨rfl, hB⟩
            go_wp2_with (fail)
            go_ret
            exact ⟨rfl, below_then HB11.out HB11.out.size hB⟩
  · rw [hnm] at hRM ⊢
    have HB3 := Aside0.mk (below_alloc hb2 (.cells #[.int .i64 0, .slice A ([] : List Int).length c] 45))
    clear hRM hb2
    go_wp2_with (fail)
    refine (sane_calls _).mono ?_
    rintro e w3 ⟨rfl, hB⟩
    have HB4 := Aside0.mk (below_then HB3.out HB3.out.size hB)
    clear hB
    go_wp2_with (fail)
    go_ret
    exact ⟨rfl, HB4.out⟩
end Go.Proofs.Ytlnhahnnjbfjdaa.Npw
