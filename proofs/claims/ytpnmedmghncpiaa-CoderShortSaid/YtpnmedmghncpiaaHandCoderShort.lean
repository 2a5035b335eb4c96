/- How long a code is at most, and that its end is as short as can be: for every model and list of events. -/
import Derived.Test.YtpnmedmghncpiaaPCoderShortx0
import Derived.Test.YtpnmedmghncpiaaAid
import Derived.Test.YtpnmedmghncpiaaHandAid
import Derived.Test.YtpnmedmghncpiaaCod1
import Derived.Test.YtpnmedmghncpiaaCod2
import Derived.Test.YtpnmedmghncpiaaCod3
import Derived.Test.YtpnmedmghncpiaaMod
import Derived.Test.YtpnmedmghncpiaaNewRef
import Derived.Test.YtpnmedmghncpiaaEnc
import Derived.Test.YtpnmedmghncpiaaMods
import Derived.Test.YtpnmedmghncpiaaEncAt
import Derived.Test.YtpnmedmghncpiaaPut
import Derived.Test.YtpnmedmghncpiaaEnd
import Derived.Test.YtpnmedmghncpiaaEncode
import Derived.Test.YtpnmedmghncpiaaAwake
import Derived.Test.YtpnmedmghncpiaaSame
import Derived.Test.YtpnmedmghncpiaaOpn
import Derived.Test.YtpnmedmghncpiaaRefAt
import Derived.Test.YtpnmedmghncpiaaRefPut
import Derived.Test.YtpnmedmghncpiaaRefEnd
import Derived.Test.YtpnmedmghncpiaaDec
import Derived.Test.YtpnmedmghncpiaaGet
import Derived.Test.YtpnmedmghncpiaaDecNew
import Derived.Test.YtpnmedmghncpiaaDcd
import Derived.Test.YtpnmedmghncpiaaBack
import Derived.Test.YtpnmedmghncpiaaSplit
import Derived.Test.YtpnmedmghncpiaaShrt
import Derived.Test.YtpnmedmghncpiaaRows
import Derived.WalkKit
import Derived.ProofKit
import Derived.OpenShut
import Derived.ShutString
import Derived.ChangeOld
import Derived.Lib.SmallJoins
import Derived.Below
import Derived.SizedLaws
import Derived.Test.YtpnmedmghncpiaaWSized
namespace Go.Proofs.Ytpnmedmghncpiaa.HandCoderShort
open Go Go.RowKit Go.Proofs.Ytpnmedmghncpiaa.PCoderShort Go.Proofs.YtpnmedmghncpiaaW.PrintWords Go.Proofs.YtpnmedmghncpiaaW.PrintLast Go.Proofs.YtpnmedmghncpiaaW.PrintMore Go.Proofs.Ytpnmedmghncpiaa.Aid Go.Proofs.Ytpnmedmghncpiaa.HandAid Go.Proofs.Ytpnmedmghncpiaa.Cod1 Go.Proofs.Ytpnmedmghncpiaa.Cod2 Go.Proofs.Ytpnmedmghncpiaa.Cod3 Go.Proofs.Ytpnmedmghncpiaa.Mod Go.Proofs.Ytpnmedmghncpiaa.NewRef Go.Proofs.Ytpnmedmghncpiaa.Enc Go.Proofs.Ytpnmedmghncpiaa.Mods Go.Proofs.Ytpnmedmghncpiaa.EncAt Go.Proofs.Ytpnmedmghncpiaa.Put Go.Proofs.Ytpnmedmghncpiaa.End Go.Proofs.Ytpnmedmghncpiaa.Encode Go.Proofs.Ytpnmedmghncpiaa.Awake Go.Proofs.Ytpnmedmghncpiaa.Same Go.Proofs.Ytpnmedmghncpiaa.Opn Go.Proofs.Ytpnmedmghncpiaa.RefAt Go.Proofs.Ytpnmedmghncpiaa.RefPut Go.Proofs.Ytpnmedmghncpiaa.RefEnd Go.Proofs.Ytpnmedmghncpiaa.Dec Go.Proofs.Ytpnmedmghncpiaa.Get Go.Proofs.Ytpnmedmghncpiaa.DecNew Go.Proofs.Ytpnmedmghncpiaa.Dcd Go.Proofs.Ytpnmedmghncpiaa.Back Go.Proofs.Ytpnmedmghncpiaa.Split Go.Proofs.Ytpnmedmghncpiaa.Shrt
set_option linter.unusedVariables false
set_option linter.unusedSimpArgs false
open Go.Proofs.Ytpnmedmghncpiaa
/-- What stands in the loop. -/
structure SInv (Wb : World) (g : Nat) (s0 : ES) (l : List S47) (k : Nat) (s : ES) (W : World) : Prop where
  e : RefAt W (Since Wb.heap.size W) g s
  o : s.ok
  n : s.out.length ≤ 4 * k
  p : putsE s (l.drop k) = putsE s0 l
  b : Below Wb.heap.size Wb W
theorem SInv.below {Wb W W' : World} {g : Nat} {s0 s : ES} {l : List S47} {k : Nat} (h : SInv Wb g s0 l k s W) (hb : Below W.heap.size W W') : SInv Wb g s0 l k s W' :=
  ⟨(h.e.below hb).mono (fun k hk => ⟨hk.1, Nat.lt_of_lt_of_le hk.2 hb.size⟩), h.o, h.n, h.p, below_then h.b h.b.size hb⟩
theorem SInv.put {Wb W W' : World} {g : Nat} {s0 s : ES} {l : List S47} {k : Nat} (h : SInv Wb g s0 l k s W) {i bit : Int} (hE : RefAt W' (fun k => (Since Wb.heap.size W k ∨ W.heap.size ≤ k) ∧ k < W'.heap.size) g (s.putI i bit)) (hm : Mods W W' (Since Wb.heap.size W)) (hn : (s.putI i bit).out.length ≤ 4 * (k + 1)) (hp : putsE (s.putI i bit) (l.drop (k + 1)) = putsE s0 l) : SInv Wb g s0 l (k + 1) (s.putI i bit) W' :=
  ⟨hE.mono (fun k hk => ⟨by have := h.b.size; rcases hk.1 with h1 | h1; exact h1.1; omega, hk.2⟩), ES.putI_ok h.o _ _, hn, hp, below_mods h.b hm (fun k hk => hk.1) h.b.size⟩
set_option maxHeartbeats 1600000 in
set_option maxRecDepth 100000 in
theorem walk (w : World) (mk : Int) (h2 : (Lit.int .i64 mk).wf = true) (A : Option Addr) (c : Nat) (st : List Int) (hl : st.length ≤ c) (hC : Kd.C (Kd.int .i64) w A st.length st) (hW : st.length * 8 ≤ 140737488351232 ∧ ∀ x ∈ st, (Lit.int .i64 x).wf = true)
    (Ae : Option Addr) (ce : Nat) (l : List S47) (hle : l.length ≤ ce) (hCE : Kd.C k47 w Ae l.length l) (hWE : l.length * 16 ≤ 140737488351232 ∧ ∀ x ∈ l, (Lit.int .i64 x.f0).wf = true ∧ (Lit.int .i64 x.f1).wf = true) :
    Calls Try.prog 11 #[.agg #[.int .i64 mk, .slice A st.length c], .slice Ae l.length ce] w fun e w' => e = .returned (.bool true) ∧ Below w.heap.size w w' := by
  have hu := Try.underlying24
  have hu2 := Try.underlying47
  have hmax : l.length ≤ 9223372036854775807 := Kd.C_max hCE
  have hmax2 : st.length ≤ 9223372036854775807 := Kd.C_max hC
  have HB := Aside0.mk (below_alloc (Below.refl w.heap.size w) (.cells #[.int .i64 mk, .slice A st.length c] 24))
  by_cases hbig : (l.length : Int) > 20000
  · clear hC hCE hW hWE h2
    go_enter Try.func11, Try.ntmps11
    go_wp2_with (go_at_call 17; refine (awake_calls _).mono ?_; rintro e w9 ⟨rfl, hB9⟩; have HB9 := Aside0.mk (below_then HB.out HB.out.size hB9); clear hB9)
    go_ret
    exact ⟨rfl, HB9.out⟩
  · obtain ⟨rb, rk, rs, re, hr⟩ : ∃ rb rk rs re, encodeR mk st l = (rb, rk, rs, re) := ⟨_, _, _, _, rfl⟩
    have HE : ∀ (W : World) (_ : Kd.C (Kd.int .i64) W A st.length st), Kd.C k47 W Ae l.length l → Aside0 (Calls Try.prog 19 #[.agg #[.int .i64 mk, .slice A st.length c], .slice Ae l.length ce] W (EncodePost W (rb, rk, rs, re))) := fun W h h' => ⟨by have := encode_calls A c mk st Ae ce l W h hl h' hle; rw [hr] at this; exact this⟩
    have HRR := Aside0.mk hr
    have HLB := Aside0.mk (show rb.length ≤ 80004 by have h := encode_len mk st l; rw [hr] at h; exact Nat.le_trans h (by omega))
    obtain ⟨bo, hbo⟩ : ∃ bo : Bool, decide (okModel mk st) = bo := ⟨_, rfl⟩
    have hv := ref_valid_calls A c mk st
    rw [hbo] at hv
    have HV := Aside0.mk hv
    have HBO := Aside0.mk hbo
    obtain ⟨b2, hsb2⟩ : ∃ x, w.heap.size = x := ⟨_, rfl⟩
    obtain ⟨W0, hsW0⟩ : ∃ x, w.alloc (.cells #[.int .i64 mk, .slice A st.length c] 24) = x := ⟨_, rfl⟩
    have HZ2 := Aside0.mk (show W0.heap[b2]? = some (.cells #[.int .i64 mk, .slice A st.length c] 24 (0, 0)) from hsW0 ▸ hsb2 ▸ heap_new w _)
    have HC := Aside0.mk (show Kd.C (Kd.int .i64) W0 A st.length st from hsW0 ▸ Kd.C_below hC (below_alloc (Below.refl _ _) _))
    have HCE := Aside0.mk (show Kd.C k47 W0 Ae l.length l from hsW0 ▸ Kd.C_below hCE (below_alloc (Below.refl _ _) _))
    have HB := Aside0.mk (show Below w.heap.size w W0 from hsW0 ▸ HB.out)
    clear hC hCE hW hWE h2 hr hv hbo
    go_enter Try.func11, Try.ntmps11
    have kHZ2_0 : W0.cell? ⟨b2, 0, none⟩ = some (.int .i64 mk) := (blk_cell HZ2.out 0).trans rfl
    have kHZ2_1 : W0.cell? ⟨b2, 1, none⟩ = some (.slice A st.length c) := (blk_cell HZ2.out 1).trans rfl
    go_wp2_with (fail)
    refine (HV.out _ HC.out hl).mono ?_
    rintro e p1 ⟨rfl, hB⟩
    clear hsW0 hsb2 kHZ2_0 kHZ2_1
    have HZ2 := Aside0.mk (blk_below HZ2.out hB)
    have HC := Aside0.mk (Kd.C_below HC.out hB)
    have HCE := Aside0.mk (Kd.C_below HCE.out hB)
    have HB := Aside0.mk (below_then HB.out HB.out.size hB)
    clear hB
    cases bo with
    | false =>
      go_wp2_with (go_at_call 17; refine (awake_calls _).mono ?_; rintro e w9 ⟨rfl, hB9⟩; have HB9 := Aside0.mk (below_then HB.out HB.out.size hB9); clear hB9)
      go_ret
      exact ⟨rfl, HB9.out⟩
    | true =>
      have HM := Aside0.mk (of_decide_eq_true HBO.out)
      have kHZ2_0 : p1.cell? ⟨b2, 0, none⟩ = some (.int .i64 mk) := (blk_cell HZ2.out 0).trans rfl
      have kHZ2_1 : p1.cell? ⟨b2, 1, none⟩ = some (.slice A st.length c) := (blk_cell HZ2.out 1).trans rfl
      go_wp2_with (fail)
      refine ((HE _ HC.out HCE.out).out).mono ?_
      rintro e q1 ⟨A6, c6, A7, c7, rfl, hR6, hR7, hB⟩
      clear kHZ2_0 kHZ2_1
      have HZ2 := Aside0.mk (blk_below HZ2.out hB)
      have HC := Aside0.mk (Kd.C_below HC.out hB)
      have HCE := Aside0.mk (Kd.C_below HCE.out hB)
      have HB := Aside0.mk (below_then HB.out HB.out.size hB)
      clear hB
      have HCB := Aside0.mk (Kd.R_reads' hR6).2.2
      have HCR := Aside0.mk (Kd.R_reads' hR7).2.2
      have hc6 := (Kd.R_reads' hR6).2.1
      have hc7 := (Kd.R_reads' hR7).2.1
      clear hR6 hR7
      obtain ⟨b8, hsb8⟩ : ∃ x_, q1.heap.size = x_ := ⟨_, rfl⟩
      obtain ⟨q2, hsq2⟩ : ∃ x_, q1.alloc (.cells #[.int .i64 rk, .slice A7 rs.length c7] 24) = x_ := ⟨_, rfl⟩
      have hB : Below q1.heap.size q1 q2 := hsq2 ▸ below_alloc (Below.refl _ _) _
      have HN := Aside0.mk (show q2.heap[b8]? = some (.cells #[.int .i64 rk, .slice A7 rs.length c7] 24 (0, 0)) from hsq2 ▸ hsb8 ▸ heap_new q1 _)
      have HZ2 := Aside0.mk (blk_below HZ2.out hB)
      have HC := Aside0.mk (Kd.C_below HC.out hB)
      have HCE := Aside0.mk (Kd.C_below HCE.out hB)
      have HCB := Aside0.mk (Kd.C_below HCB.out hB)
      have HCR := Aside0.mk (Kd.C_below HCR.out hB)
      have HB := Aside0.mk (below_then HB.out HB.out.size hB)
      have HZ8 := HN
      clear HN hB
      by_cases her : re = 0
      · subst her
        have HLN : (rb.length : Int) ≤ 2 * (l.length : Int) + 4 := by
          obtain ⟨_, _, hb⟩ := encode_parts HRR.out
          have h1 := short_len mk st l HM.out
          have h2 := ES.end_len (putsE (newES mk st) l).1
          have h3 : rb.length = (putsE (newES mk st) l).1.end_.length := by rw [hb]; rfl
          omega
        have kHZ2_0 : q2.cell? ⟨b2, 0, none⟩ = some (.int .i64 mk) := (blk_cell HZ2.out 0).trans rfl
        have kHZ2_1 : q2.cell? ⟨b2, 1, none⟩ = some (.slice A st.length c) := (blk_cell HZ2.out 1).trans rfl
        go_wp2_with (fail)
        refine (ref_new_enc A c mk st _ HC.out hl HM.out).mono ?_
        rintro e t1 ⟨g, rfl, hE1, hB⟩
        have HI1 := Aside0.mk (show SInv q2 g (newES mk st) l 0 (newES mk st) t1 from ⟨hE1, newES_ok HM.out, Nat.zero_le _, rfl, hB⟩)
        clear hsb8 hsq2 kHZ2_0 kHZ2_1 hE1 hB
        go_wp2
        go_loopw [55] (fun i wr => ∃ (k : Nat) (s : ES), k ≤ l.length ∧ i = .int .i64 k ∧ Aside0 (SInv q2 g (newES mk st) l k s wr)) (fun i _ => l.length - (intOf i).toNat)
        case atStart => exact ⟨0, newES mk st, Nat.zero_le _, rfl, HI1⟩
        clear HI1
        case round =>
          obtain ⟨k, s, hk, rfl, HI⟩ := hrel
          by_cases hlt : k < l.length
          · have hC := Kd.C_below HCE.out HI.out.b
            obtain ⟨ad, hA, hx0, hx1⟩ := at_T47 hC (k : Int) (by omega) (by omega)
            subst hA
            have hstep := putsE_step hlt s
            rw [HI.out.p] at hstep
            obtain ⟨x, hx⟩ : ∃ x, rd_T47 l (k : Int) = x := ⟨_, rfl⟩
            rw [hx] at hx0 hx1 hstep
            simp only [Int.toNat_natCast] at hx0 hx1
            have hgood : s.err x.f0 x.f1 = 0 := by
              by_cases h : s.err x.f0 x.f1 = 0
              · exact h
              · rw [if_neg h] at hstep
                have h2 := (encode_parts HRR.out).2.1
                rw [hstep] at h2
                exact h2
            rw [if_pos hgood] at hstep
            have HST := Aside0.mk hstep
            have hlen : s.out.length ≤ 1099511627776 := by have := HI.out.n; omega
            have HI2 := Aside0.mk (HI.out.below (below_alloc (Below.refl _ _) (.cells #[.int .i64 x.f0, .int .i64 x.f1] 47)))
            clear hC hx hstep
            have HP := Aside0.mk (ref_put_calls (wr.alloc (.cells #[.int .i64 x.f0, .int .i64 x.f1] 47)) (Since q2.heap.size (wr.alloc (.cells #[.int .i64 x.f0, .int .i64 x.f1] 47))) g s x.f0 x.f1 HI2.out.e HI2.out.o hlen)
            rw [hgood] at HP
            clear hgood
            go_wp2_with (go_at_call 25; refine HP.out.mono ?_; rintro e w6 ⟨rfl, hE6, hM6⟩; have HI6 := Aside0.mk (HI2.out.put hE6 hM6 (by have := HI2.out.n; have := (ES.putI_len s x.f0 x.f1).1; omega) HST.out.symm); clear hE6 hM6)
            go_roundw
            case rel => exact ⟨k + 1, _, by omega, by go_num, HI6⟩
            case measure => simp [intOf]; omega
          · have hkl : k = l.length := by omega
            have hfin : (putsE (newES mk st) l).1 = s := by
              have := HI.out.p
              rw [hkl, List.drop_length] at this
              rw [← this]
              rfl
            have hrb : rb = s.out ++ endOf s.low s.high := by
              have h := (encode_parts HRR.out).2.2
              rw [hfin] at h
              exact h
            have hsh : ∃ r k3 st3 n e, endOf s.low s.high = [] ∨ (Bytes rb.dropLast ∧ decodeR mk st rb.dropLast (l.map (·.f0)) = (r, k3, st3, n, e) ∧ (e = 6 ∨ (e = 0 ∧ r ≠ l.map (·.f1)))) := by
              by_cases hne : endOf s.low s.high = []
              · exact ⟨[], 0, [], 0, 0, .inl hne⟩
              · have hby : Bytes rb.dropLast := fun y hy => by
                  have h := encode_bytes mk st l
                  rw [HRR.out] at h
                  exact h y (List.dropLast_subset _ hy)
                obtain ⟨r, k3, st3, n, e, h1, h2⟩ := short_end mk st l rb rk rs HRR.out hby (by rw [hfin]; exact hne)
                exact ⟨r, k3, st3, n, e, .inr ⟨hby, h1, h2⟩⟩
            obtain ⟨gl, gk, gs, gn, ge, hsh⟩ := hsh
            have HSH := Aside0.mk hsh
            have hok := HI.out.o
            have HOK := Aside0.mk hok
            have HIE := fun W => Aside0.mk (iend_calls s.low s.high W HOK.out.l HOK.out.lh HOK.out.h)
            have hbl : rb.length = s.out.length + (endOf s.low s.high).length := by rw [hrb, List.length_append]
            obtain ⟨A0, c0, vo0, hEr⟩ := HI.out.e
            obtain ⟨Ao, co, hvo⟩ := Kd.R_slice hEr.o
            subst hvo
            have g2 : wr.cell? ⟨g, 2, none⟩ = some (.int .u64 s.low) := (blk_cell hEr.b 2).trans rfl
            have g3 : wr.cell? ⟨g, 3, none⟩ = some (.int .u64 s.high) := (blk_cell hEr.b 3).trans rfl
            have HG := Aside0.mk hEr.b
            obtain ⟨en, hen⟩ : ∃ en, endOf s.low s.high = en := ⟨_, rfl⟩
            rw [hen] at hbl hrb HIE HSH
            have HBr := HI.out.b
            have HZ2 := Aside0.mk (blk_below HZ2.out HBr)
            have HZ8 := Aside0.mk (blk_below HZ8.out HBr)
            have HC := Aside0.mk (Kd.C_below HC.out HBr)
            have HCE := Aside0.mk (Kd.C_below HCE.out HBr)
            have HCB := Aside0.mk (Kd.C_below HCB.out HBr)
            have HCR := Aside0.mk (Kd.C_below HCR.out HBr)
            have HB := Aside0.mk (below_then HB.out HB.out.size HBr)
            have hui := Try.underlying83
            clear hfin hsh hEr hok HI hen HBr hkl
            cases en with
            | nil =>
              have hbl2 : rb.length = s.out.length := by simpa using hbl
              have HLL := Aside0.mk hbl2
              clear hbl hbl2 hrb HSH
              go_wp2_with (fail)
              refine ((HIE _).out).mono ?_
              rintro e y1 ⟨Ae1, ce1, rfl, hR1, hB1⟩
              have HG1 := Aside0.mk (blk_below HG.out hB1)
              have g4 : y1.cell? ⟨g, 4, none⟩ = some (.slice Ao s.out.length co) := (blk_cell HG1.out 4).trans rfl
              have HB := Aside0.mk (below_then HB.out HB.out.size hB1)
              have e1 : (rb.length == s.out.length) = true := by simpa using HLL.out
              have e2 : ((rb.length : Int) == (s.out.length : Int)) = true := by simp [HLL.out]
              clear hR1 hB1 g2 g3
              simp only [List.length_nil]
              go_wp2_with (go_at_call 17; refine (awake_calls _).mono ?_; rintro e w9 ⟨rfl, hB9⟩; have HB9 := Aside0.mk (below_then HB.out HB.out.size hB9); clear hB9)
              go_ret
              exact ⟨rfl, HB9.out⟩
            | cons en0 ent =>
              obtain ⟨ln, hln⟩ : ∃ n : Nat, (en0 :: ent).length = n := ⟨_, rfl⟩
              have hln0 : 0 < ln := by rw [← hln]; simp
              have hbl2 : rb.length = s.out.length + ln := by rw [hbl, hln]
              have hb1 : 1 ≤ rb.length := by omega
              have hbn : (rb.length : Int) ≤ 80004 := by have := HLB.out; omega
              have HRB := Aside0.mk hrb
              have HEND := fun W => Aside0.mk (show Calls Try.prog 45 #[.agg #[.int .u64 s.low, .int .u64 s.high]] W fun e w' => ∃ Ae ce, e = .returned (.slice Ae ln ce) ∧ Below W.heap.size W w' from ((HIE W).out).mono (fun e w' h => by obtain ⟨Ae, ce, h1, _, h3⟩ := h; exact ⟨Ae, ce, hln ▸ h1, h3⟩))
              obtain ⟨hby, hdec, hge⟩ := HSH.out.resolve_left (by simp)
              have e1 : ((ln : Int) == 0) = false := by simpa using (by omega : ¬ ln = 0)
              have e2 : ((rb.length : Int) == 0) = false := by simpa using (by omega : ¬ rb.length = 0)
              have HBY := Aside0.mk hby
              have HDC := Aside0.mk hdec
              have HGE := Aside0.mk hge
              have HEV := Aside0.mk (show ∀ x ∈ l, x.f1 = 0 ∨ x.f1 = 1 from ev_good HRR.out)
              clear hbl hbl2 hrb HSH HIE hby hdec hge hln HG
              go_wp2_with (fail)
              refine ((HEND _).out).mono ?_
              rintro e y1 ⟨Ae1, ce1, rfl, hB1⟩
              have HZ2 := Aside0.mk (blk_below HZ2.out hB1)
              have HZ8 := Aside0.mk (blk_below HZ8.out hB1)
              have HC := Aside0.mk (Kd.C_below HC.out hB1)
              have HCE := Aside0.mk (Kd.C_below HCE.out hB1)
              have HCB := Aside0.mk (Kd.C_below HCB.out hB1)
              have HCR := Aside0.mk (Kd.C_below HCR.out hB1)
              have HB := Aside0.mk (below_then HB.out HB.out.size hB1)
              clear hB1 g2 g3 HEND
              go_wp2_with (fail)
              refine (split_calls Ae ce l _ HCE.out hle (by omega) HEV.out).mono ?_
              rintro e r1 ⟨A10, c10, A11, c11, rfl, hR10, hR11, hB1⟩
              have HZ2 := Aside0.mk (blk_below HZ2.out hB1)
              have HZ8 := Aside0.mk (blk_below HZ8.out hB1)
              have HC := Aside0.mk (Kd.C_below HC.out hB1)
              have HCE := Aside0.mk (Kd.C_below HCE.out hB1)
              have HCB := Aside0.mk (Kd.C_below HCB.out hB1)
              have HCR := Aside0.mk (Kd.C_below HCR.out hB1)
              have HB := Aside0.mk (below_then HB.out HB.out.size hB1)
              have HCX := Aside0.mk (Kd.R_reads' hR10).2.2
              have HCT := Aside0.mk (Kd.R_reads' hR11).2.2
              have hc10 := (Kd.R_reads' hR10).2.1
              have hc11 := (Kd.R_reads' hR11).2.1
              clear hR10 hR11 hB1
              rw [List.length_map] at hc10 hc11
              have HCD := Aside0.mk (Kd.C_take (m := rb.length - 1) HCB.out (by omega))
              have HDD : ∀ W : World, Below r1.drew.heap.size r1.drew W → Aside0 (Calls Try.prog 42 #[.agg #[.int .i64 mk, .slice A st.length c], .slice A6 (rb.length - 1) c6, .slice A10 l.length c10] W fun e w' => ∃ A15 c15 A16 c16, e = .returned (.tuple #[.slice A15 gl.length c15, .agg #[.int .i64 gk, .slice A16 gs.length c16], .int .i64 gn, .int .i64 ge]) ∧ Kd.R (Kd.int .u8) 5 w' 0 (fun _ => True) (.slice A15 gl.length c15) gl ∧ Below W.heap.size W w') := fun W hW => ⟨by
                have h0 : Below r1.heap.size r1 W := below_undrew1 hW
                have hC6 := Kd.C_below HCD.out h0
                rw [← List.dropLast_eq_take] at hC6
                have h := decode_calls A c mk st A6 c6 rb.dropLast A10 c10 (l.map (·.f0)) W (Kd.C_below HC.out h0) hl hC6 (by rw [List.length_dropLast]; omega) (Kd.C_below HCX.out h0) (by rw [List.length_map]; exact hc10) HBY.out (by rw [List.length_dropLast]; omega)
                rw [HDC.out, List.length_dropLast, List.length_map] at h
                exact h.mono (fun e w' hp => by obtain ⟨A15, c15, A16, c16, he, hR, _, hb⟩ := hp; exact ⟨A15, c15, A16, c16, he, Kd.R_lower hR (Nat.zero_le _), hb⟩)⟩
              obtain ⟨i8, hi8, hz8⟩ := Option.map_eq_some_iff.1 infoU8
              have hcut := fun W : World => cut_to (P := Try.prog) 34 5 .i64 Try.underlying34 hi8 A6 rb.length c6 ((rb.length : Int) - 1) (by omega) (by omega) hc6 W
              have hcn : ((rb.length : Int) - 1).toNat = rb.length - 1 := by omega
              rw [hcn] at hcut
              have hwr : IntKind.i64.wrap ((rb.length : Int) - 1) = (rb.length : Int) - 1 := IntWalk.i64_in _ (by omega)
              have p0 : r1.drew.cell? ⟨b2, 0, none⟩ = some (.int .i64 mk) := (blk_cell HZ2.out 0).trans rfl
              have p1 : r1.drew.cell? ⟨b2, 1, none⟩ = some (.slice A st.length c) := (blk_cell HZ2.out 1).trans rfl
              have HCT := Aside0.mk (show Kd.C (Kd.int .u8) r1.drew A11 (l.map (·.f1)).length (l.map (·.f1)) from HCT.out)
              have HB := Aside0.mk (show Below w.heap.size w r1.drew from below_drew HB.out)
              clear hz8 hi8 hcn HC HCE HCB HCR HCD HCX HZ2 HZ8
              go_wp2
              refine start_ (n := 18) (S := fun w' => w'.cell? ⟨b2, 0, none⟩ = some (.int .i64 mk) ∧ w'.cell? ⟨b2, 1, none⟩ = some (.slice A st.length c)) (ds := [15]) #[false, false, false, false, false, false, false, false, false, false, false, false, false, false, false, false, false, false] (by kernel_rfl) rfl rfl ⟨p0, p1⟩ (fun hHeld => ?_)
              generalize r1.drew = wd at p0 p1 HDD HCT HB hHeld ⊢
              refine pure_ (i := 1) (N := some 96) (v := ?_) (a' := ?_) #[false, true, false, false, false, false, false, false, false, false, false, false, false, false, false, false, false, false] rfl rfl (by kernel_rfl) (fun _ _ _ h => h) (Or.inl ⟨by rfl, ?_⟩) ?_ ?_
              rotate_left
              · intro w'
                go_simp
                with_reducible rfl
              rotate_left
              · simp only [Act.put, List.setIfInBounds_toArray, List.set_cons_zero, List.set_cons_succ, i64_w, i32_w]
                rfl
              refine pure_ (i := 2) (N := some 97) (v := ?_) (a' := ?_) #[false, true, true, false, false, false, false, false, false, false, false, false, false, false, false, false, false, false] rfl rfl (by kernel_rfl) (fun _ _ _ h => h) (Or.inl ⟨by rfl, ?_⟩) ?_ ?_
              rotate_left
              · intro w'
                go_simp
                with_reducible rfl
              rotate_left
              · simp only [Act.put, List.setIfInBounds_toArray, List.set_cons_zero, List.set_cons_succ, i64_w, i32_w]
                rfl
              refine pure_ (i := 3) (N := some 98) (v := ?_) (a' := ?_) #[false, true, true, true, false, false, false, false, false, false, false, false, false, false, false, false, false, false] rfl rfl (by kernel_rfl) (fun _ _ _ h => h) (Or.inl ⟨by rfl, ?_⟩) ?_ ?_
              rotate_left
              · intro w'
                go_simp
                with_reducible rfl
              rotate_left
              · simp only [Act.put, List.setIfInBounds_toArray, List.set_cons_zero, List.set_cons_succ, i64_w, i32_w]
                rfl
              refine pure_ (i := 4) (N := some 99) (v := ?_) (a' := ?_) #[false, true, true, true, true, false, false, false, false, false, false, false, false, false, false, false, false, false] rfl rfl (by kernel_rfl) (fun _ _ _ h => h) (Or.inl ⟨by rfl, ?_⟩) ?_ ?_
              rotate_left
              · intro w'
                go_simp
                with_reducible rfl
              rotate_left
              · simp only [Act.put, List.setIfInBounds_toArray, List.set_cons_zero, List.set_cons_succ, i64_w, i32_w]
                rfl
              refine pure_ (i := 5) (N := some 100) (v := ?_) (a' := ?_) #[false, true, true, true, true, true, false, false, false, false, false, false, false, false, false, false, false, false] rfl rfl (by kernel_rfl) (fun _ _ _ h => h) (Or.inl ⟨by rfl, ?_⟩) ?_ ?_
              rotate_left
              · intro w'
                go_simp
                with_reducible rfl
              rotate_left
              · simp only [Act.put, List.setIfInBounds_toArray, List.set_cons_zero, List.set_cons_succ, i64_w, i32_w]
                rfl
              refine pure_ (i := 6) (N := some 101) (v := ?_) (a' := ?_) #[false, true, true, true, true, true, true, false, false, false, false, false, false, false, false, false, false, false] rfl rfl (by kernel_rfl) (fun _ _ _ h => h) (Or.inl ⟨by rfl, ?_⟩) ?_ ?_
              rotate_left
              · intro w'
                go_simp
                with_reducible rfl
              rotate_left
              · simp only [Act.put, List.setIfInBounds_toArray, List.set_cons_zero, List.set_cons_succ, i64_w, i32_w]
                rfl
              refine take_ (i := 0) (N := some 95) (v := ?_) (a' := ?_) #[true, true, true, true, true, true, true, false, false, false, false, false, false, false, false, false, false, false] rfl rfl (by kernel_rfl) (fun _ _ _ h => h) (Or.inl ⟨by rfl, ?_⟩) hHeld ?_ ?_
              rotate_left
              · rintro w' ⟨s0, s1⟩
                go_simp
                with_reducible rfl
              rotate_left
              · simp only [Act.put, List.setIfInBounds_toArray, List.set_cons_zero, List.set_cons_succ, i64_w, i32_w]
                rfl
              refine join_ (σ := Nat × Option Addr × Nat × Option Addr × Nat) 4 #[true, true, true, true, true, true, true, true, true, true, true, true, true, true, false, false, false, false] (fun s => [(102, .tuple #[.slice s.2.1 gl.length s.2.2.1, .agg #[.int .i64 gk, .slice s.2.2.2.1 gs.length s.2.2.2.2], .int .i64 gn, .int .i64 ge]), (94, .tuple #[.slice s.2.1 gl.length s.2.2.1, .agg #[.int .i64 gk, .slice s.2.2.2.1 gs.length s.2.2.2.2], .int .i64 gn, .int .i64 ge]), (103, .slice s.2.1 gl.length s.2.2.1), (104, .agg #[.int .i64 gk, .slice s.2.2.2.1 gs.length s.2.2.2.2]), (105, .int .i64 gn), (106, .int .i64 ge), (15, .pointer (some ⟨s.1, 0, none⟩))]) (fun s w' => w'.heap[s.1]? = some (.cells #[.int .i64 0, .slice none 0 0] 24 (0, 0)) ∧ wd.heap.size ≤ s.1 ∧ Kd.R (Kd.int .u8) 5 w' 0 (fun _ => True) (.slice s.2.1 gl.length s.2.2.1) gl ∧ Below wd.heap.size wd w') ?_ ?_
              rotate_left
              · intro hCont
                refine two_ (i := 7) (j := 13) (Ni := some 102) (Nj := some 15) #[true, true, true, true, true, true, true, true, false, false, false, false, false, false, false, false, false, false] #[true, true, true, true, true, true, true, false, false, false, false, false, false, true, false, false, false, false] rfl rfl rfl rfl (by kernel_rfl) (by decide) (by decide) (fun K hK => ?_) (fun K hK => ?_)
                · skip
                  refine goes_ Try.func42 (by kernel_rfl) rfl #[.agg #[.int .i64 mk, .slice A st.length c], .slice A6 (rb.length - 1) c6, .slice A10 l.length c10] (by rfl) rfl rfl (by simp only [List.map_toArray, List.map_cons, List.map_nil]; rfl) ?_
                  with_reducible refine ((HDD _ (Below.refl _ _)).out).mono ?_
                  rintro e wk ⟨A15, c15, A16, c16, rfl, hC15, hk⟩
                  refine ⟨_, rfl, ?_⟩
                  have t0 := pw_cell_below hk p0
                  have t1 := pw_cell_below hk p1
                  refine hK.out _ _ ⟨t0, t1⟩ (fun hHeld => ?_)
                  clear hK K
                  refine norm_ (a' := ?_) ?_ ?_
                  rotate_left
                  · show Act.put _ (some 102) _ = _
                    simp only [Act.put, List.setIfInBounds_toArray, List.set_cons_zero, List.set_cons_succ, i64_w, i32_w]
                    rfl
                  refine pure_ (i := 8) (N := some 94) (v := ?_) (a' := ?_) #[true, true, true, true, true, true, true, true, true, false, false, false, false, false, false, false, false, false] rfl rfl (by kernel_rfl) (fun _ _ _ h => h) (Or.inl ⟨by rfl, ?_⟩) ?_ ?_
                  rotate_left
                  · intro w'
                    go_simp
                    with_reducible rfl
                  rotate_left
                  · simp only [Act.put, List.setIfInBounds_toArray, List.set_cons_zero, List.set_cons_succ, i64_w, i32_w]
                    rfl
                  refine pure_ (i := 9) (N := some 103) (v := ?_) (a' := ?_) #[true, true, true, true, true, true, true, true, true, true, false, false, false, false, false, false, false, false] rfl rfl (by kernel_rfl) (fun _ _ _ h => h) (Or.inl ⟨by rfl, ?_⟩) ?_ ?_
                  rotate_left
                  · intro w'
                    go_simp
                    with_reducible rfl
                  rotate_left
                  · simp only [Act.put, List.setIfInBounds_toArray, List.set_cons_zero, List.set_cons_succ, i64_w, i32_w]
                    rfl
                  refine pure_ (i := 10) (N := some 104) (v := ?_) (a' := ?_) #[true, true, true, true, true, true, true, true, true, true, true, false, false, false, false, false, false, false] rfl rfl (by kernel_rfl) (fun _ _ _ h => h) (Or.inl ⟨by rfl, ?_⟩) ?_ ?_
                  rotate_left
                  · intro w'
                    go_simp
                    with_reducible rfl
                  rotate_left
                  · simp only [Act.put, List.setIfInBounds_toArray, List.set_cons_zero, List.set_cons_succ, i64_w, i32_w]
                    rfl
                  refine pure_ (i := 11) (N := some 105) (v := ?_) (a' := ?_) #[true, true, true, true, true, true, true, true, true, true, true, true, false, false, false, false, false, false] rfl rfl (by kernel_rfl) (fun _ _ _ h => h) (Or.inl ⟨by rfl, ?_⟩) ?_ ?_
                  rotate_left
                  · intro w'
                    go_simp
                    with_reducible rfl
                  rotate_left
                  · simp only [Act.put, List.setIfInBounds_toArray, List.set_cons_zero, List.set_cons_succ, i64_w, i32_w]
                    rfl
                  refine pure_ (i := 12) (N := some 106) (v := ?_) (a' := ?_) #[true, true, true, true, true, true, true, true, true, true, true, true, true, false, false, false, false, false] rfl rfl (by kernel_rfl) (fun _ _ _ h => h) (Or.inl ⟨by rfl, ?_⟩) ?_ ?_
                  rotate_left
                  · intro w'
                    go_simp
                    with_reducible rfl
                  rotate_left
                  · simp only [Act.put, List.setIfInBounds_toArray, List.set_cons_zero, List.set_cons_succ, i64_w, i32_w]
                    rfl
                  refine one_ (i := 13) (N := some 15) #[true, true, true, true, true, true, true, true, true, true, true, true, true, true, false, false, false, false] rfl rfl (by kernel_rfl) (by decide) (fun K hK => ?_)
                  refine value_ (w1 := ?_) (v := ?_) (by rfl) rfl ?_ ?_
                  rotate_left 2
                  · go_simp
                    constructor
                    · rfl
                    · rfl
                  refine hK.out _ _ ⟨pw_cell_below (below_alloc (Below.refl _ _) _) t0, pw_cell_below (below_alloc (Below.refl _ _) _) t1⟩ (fun hHeld => ?_)
                  clear hK K
                  refine norm_ (a' := ?_) ?_ ?_
                  rotate_left
                  · show Act.put _ (some 15) _ = _
                    simp only [Act.put, List.setIfInBounds_toArray, List.set_cons_zero, List.set_cons_succ, i64_w, i32_w]
                    rfl
                  exact norm_ (by simp only [putAll, Act.put, List.setIfInBounds_toArray, List.set_cons_zero, List.set_cons_succ]) (hCont (wk.heap.size, A15, c15, A16, c16) _ ⟨blk_new _ _, hk.size, Kd.R_below hC15 (below_alloc (Below.refl _ _) _), below_alloc hk _⟩)
                · skip
                  refine value_ (w1 := ?_) (v := ?_) (by rfl) rfl ?_ ?_
                  rotate_left 2
                  · go_simp
                    constructor
                    · rfl
                    · rfl
                  refine hK.out _ _ ⟨pw_cell_below (below_alloc (Below.refl _ _) _) p0, pw_cell_below (below_alloc (Below.refl _ _) _) p1⟩ (fun hHeld => ?_)
                  clear hK K
                  refine norm_ (a' := ?_) ?_ ?_
                  rotate_left
                  · show Act.put _ (some 15) _ = _
                    simp only [Act.put, List.setIfInBounds_toArray, List.set_cons_zero, List.set_cons_succ, i64_w, i32_w]
                    rfl
                  refine one_ (i := 7) (N := some 102) #[true, true, true, true, true, true, true, true, false, false, false, false, false, true, false, false, false, false] rfl rfl (by kernel_rfl) (by decide) (fun K hK => ?_)
                  refine goes_ Try.func42 (by kernel_rfl) rfl #[.agg #[.int .i64 mk, .slice A st.length c], .slice A6 (rb.length - 1) c6, .slice A10 l.length c10] (by rfl) rfl rfl (by simp only [List.map_toArray, List.map_cons, List.map_nil]; rfl) ?_
                  with_reducible refine ((HDD _ (below_alloc (Below.refl _ _) _)).out).mono ?_
                  rintro e wk ⟨A15, c15, A16, c16, rfl, hC15, hk⟩
                  refine ⟨_, rfl, ?_⟩
                  have t0 := pw_cell_below hk (pw_cell_below (below_alloc (Below.refl _ _) _) p0)
                  have t1 := pw_cell_below hk (pw_cell_below (below_alloc (Below.refl _ _) _) p1)
                  refine hK.out _ _ ⟨t0, t1⟩ (fun hHeld => ?_)
                  clear hK K
                  refine norm_ (a' := ?_) ?_ ?_
                  rotate_left
                  · show Act.put _ (some 102) _ = _
                    simp only [Act.put, List.setIfInBounds_toArray, List.set_cons_zero, List.set_cons_succ, i64_w, i32_w]
                    rfl
                  refine pure_ (i := 8) (N := some 94) (v := ?_) (a' := ?_) #[true, true, true, true, true, true, true, true, true, false, false, false, false, true, false, false, false, false] rfl rfl (by kernel_rfl) (fun _ _ _ h => h) (Or.inl ⟨by rfl, ?_⟩) ?_ ?_
                  rotate_left
                  · intro w'
                    go_simp
                    with_reducible rfl
                  rotate_left
                  · simp only [Act.put, List.setIfInBounds_toArray, List.set_cons_zero, List.set_cons_succ, i64_w, i32_w]
                    rfl
                  refine pure_ (i := 9) (N := some 103) (v := ?_) (a' := ?_) #[true, true, true, true, true, true, true, true, true, true, false, false, false, true, false, false, false, false] rfl rfl (by kernel_rfl) (fun _ _ _ h => h) (Or.inl ⟨by rfl, ?_⟩) ?_ ?_
                  rotate_left
                  · intro w'
                    go_simp
                    with_reducible rfl
                  rotate_left
                  · simp only [Act.put, List.setIfInBounds_toArray, List.set_cons_zero, List.set_cons_succ, i64_w, i32_w]
                    rfl
                  refine pure_ (i := 10) (N := some 104) (v := ?_) (a' := ?_) #[true, true, true, true, true, true, true, true, true, true, true, false, false, true, false, false, false, false] rfl rfl (by kernel_rfl) (fun _ _ _ h => h) (Or.inl ⟨by rfl, ?_⟩) ?_ ?_
                  rotate_left
                  · intro w'
                    go_simp
                    with_reducible rfl
                  rotate_left
                  · simp only [Act.put, List.setIfInBounds_toArray, List.set_cons_zero, List.set_cons_succ, i64_w, i32_w]
                    rfl
                  refine pure_ (i := 11) (N := some 105) (v := ?_) (a' := ?_) #[true, true, true, true, true, true, true, true, true, true, true, true, false, true, false, false, false, false] rfl rfl (by kernel_rfl) (fun _ _ _ h => h) (Or.inl ⟨by rfl, ?_⟩) ?_ ?_
                  rotate_left
                  · intro w'
                    go_simp
                    with_reducible rfl
                  rotate_left
                  · simp only [Act.put, List.setIfInBounds_toArray, List.set_cons_zero, List.set_cons_succ, i64_w, i32_w]
                    rfl
                  refine pure_ (i := 12) (N := some 106) (v := ?_) (a' := ?_) #[true, true, true, true, true, true, true, true, true, true, true, true, true, true, false, false, false, false] rfl rfl (by kernel_rfl) (fun _ _ _ h => h) (Or.inl ⟨by rfl, ?_⟩) ?_ ?_
                  rotate_left
                  · intro w'
                    go_simp
                    with_reducible rfl
                  rotate_left
                  · simp only [Act.put, List.setIfInBounds_toArray, List.set_cons_zero, List.set_cons_succ, i64_w, i32_w]
                    rfl
                  exact norm_ (by simp only [putAll, Act.put, List.setIfInBounds_toArray, List.set_cons_zero, List.set_cons_succ]) (hCont (wd.heap.size, A15, c15, A16, c16) _ ⟨blk_below (blk_new _ _) hk, Nat.le_refl _, hC15, below_then (below_alloc (Below.refl _ _) _) (by simp) hk⟩)
              rintro ⟨q, A15, c15, A16, c16⟩ w5 ⟨hq, hqs, hq15, hqb⟩
              have t0 := pw_cell_below hqb p0
              have t1 := pw_cell_below hqb p1
              have hHeld : w5.cell? ⟨b2, 0, none⟩ = some (.int .i64 mk) ∧ w5.cell? ⟨b2, 1, none⟩ = some (.slice A st.length c) := ⟨t0, t1⟩
              have z0 : w5.cell? ⟨q, 0, none⟩ = some (.int .i64 0) := (blk_cell hq 0).trans rfl
              have z1 : w5.cell? ⟨q, 1, none⟩ = some (.slice none 0 0) := (blk_cell hq 1).trans rfl
              have zf0 := blk_frozen hq 0
              have zf1 := blk_frozen hq 1
              have HQ := Aside0.mk hq
              have HQS := Aside0.mk hqs
              have HQB := Aside0.mk hqb
              have HC15 := Aside0.mk hq15
              clear hq hqs hqb hq15
              refine norm_ (a' := ?_) ?_ ?_
              rotate_left
              · simp only [putAll, Act.put, List.setIfInBounds_toArray, List.set_cons_zero, List.set_cons_succ]
                rfl
              refine pure_ (i := 14) (N := some 14) (v := ?_) (a' := ?_) #[true, true, true, true, true, true, true, true, true, true, true, true, true, true, true, false, false, false] rfl rfl (by kernel_rfl) (fun _ _ _ h => h) (Or.inl ⟨by rfl, ?_⟩) ?_ ?_
              rotate_left
              · intro w'
                go_simp
                with_reducible rfl
              rotate_left
              · simp only [Act.put, List.setIfInBounds_toArray, List.set_cons_zero, List.set_cons_succ, i64_w, i32_w]
                rfl
              refine last_ (i := 15) (N := none) #[true, true, true, true, true, true, true, true, true, true, true, true, true, true, true, true, false, false] rfl rfl (by kernel_rfl) (by decide) (fun K hK => ?_)
              refine skip_ (w1 := ?_) (by rfl) rfl ?_ ?_
              rotate_left
              · go_simp
                rfl
              refine hK.out _ _ ?_
              clear hK K
              refine pure_ (i := 16) (N := some 16) (v := ?_) (a' := ?_) #[true, true, true, true, true, true, true, true, true, true, true, true, true, true, true, true, true, false] rfl rfl (by kernel_rfl) (fun _ _ _ h => h) (Or.inl ⟨by rfl, ?_⟩) ?_ ?_
              rotate_left
              · intro w'
                go_simp
                with_reducible rfl
              rotate_left
              · simp only [Act.put, List.setIfInBounds_toArray, List.set_cons_zero, List.set_cons_succ, i64_w, i32_w]
                rfl
              refine pure_ (i := 17) (N := some 17) (v := ?_) (a' := ?_) #[true, true, true, true, true, true, true, true, true, true, true, true, true, true, true, true, true, true] rfl rfl (by kernel_rfl) (fun _ _ _ h => h) (Or.inl ⟨by rfl, ?_⟩) ?_ ?_
              rotate_left
              · intro w'
                go_simp
                with_reducible rfl
              rotate_left
              · simp only [Act.put, List.setIfInBounds_toArray, List.set_cons_zero, List.set_cons_succ, i64_w, i32_w]
                rfl
              refine done_ (by kernel_rfl) ?_

              obtain ⟨w6, hw6⟩ : ∃ w6, w6 = (w5.setCell ⟨q, 0, none⟩ (.int .i64 gk)).setCell ⟨q, 1, none⟩ (.slice A16 gs.length c16) := ⟨_, rfl⟩
              rw [← hw6]
              have hB6 : Below wd.heap.size wd w6 := hw6 ▸ (HQB.out.setCell (p := ⟨q, 0, none⟩) HQS.out _).setCell (p := ⟨q, 1, none⟩) HQS.out _
              have hz2 : (w5.setCell ⟨q, 0, none⟩ (.int .i64 gk)).heap[q]? = some (.cells #[.int .i64 gk, .slice none 0 0] 24 (0, 0)) := blk_put (cs := #[.int .i64 0, .slice none 0 0]) HQ.out 0 _ rfl
              have hR6 : Kd.R (Kd.int .u8) 5 w6 0 (fun _ => True) (.slice A15 gl.length c15) gl := hw6 ▸ Kd.R_set (Kd.R_set HC15.out HQ.out (by decide) _ _) hz2 (by decide) _ _
              have HCG := Aside0.mk (Kd.R_reads' hR6).2.2
              have hcg := (Kd.R_reads' hR6).2.1
              have HCT := Aside0.mk (Kd.C_below HCT.out hB6)
              have HB := Aside0.mk (below_then HB.out HB.out.size hB6)
              clear hw6 hB6 hz2 hR6 HQ HQS HQB HC15 z0 z1 zf0 zf1 t0 t1 p0 p1 HDD hcut hwr
              by_cases h6 : ge = 6
              · subst h6
                go_wp2_with (go_at_call 17; refine (awake_calls _).mono ?_; rintro e w9 ⟨rfl, hB9⟩; have HB9 := Aside0.mk (below_then HB.out HB.out.size hB9); clear hB9)
                go_ret
                exact ⟨rfl, HB9.out⟩
              · have h0 : ge = 0 := by
                  rcases HGE.out with h | h
                  · exact absurd h h6
                  · exact h.1
                have hne : gl ≠ l.map (·.f1) := by
                  rcases HGE.out with h | h
                  · exact absurd h h6
                  · exact h.2
                subst h0
                have hsb := bytes_calls A15 c15 A11 c11 gl (l.map (·.f1)) w6 HCG.out hcg HCT.out (by rw [List.length_map]; exact hc11)
                rw [decide_eq_false hne, List.length_map] at hsb
                have HSB := Aside0.mk hsb
                clear hsb hne h6
                go_wp2_with (first
                  | (go_at_call 21; refine HSB.out.mono ?_; rintro e w8 ⟨rfl, hB8⟩; have HB := Aside0.mk (below_then HB.out HB.out.size hB8.below); clear hB8)
                  | (go_at_call 17; refine (awake_calls _).mono ?_; rintro e w9 ⟨rfl, hB9⟩; have HB9 := Aside0.mk (below_then HB.out HB.out.size hB9); clear hB9))
                go_ret
                exact ⟨rfl, HB9.out⟩
      · have h2 : re = 2 := by
          have h := encode_err2 (l := l) HM.out (by omega)
          rw [HRR.out] at h
          exact h.resolve_left her
        subst h2
        clear her
        go_wp2_with (go_at_call 17; refine (awake_calls _).mono ?_; rintro e w9 ⟨rfl, hB9⟩; have HB9 := Aside0.mk (below_then HB.out HB.out.size hB9); clear hB9)
        go_ret
        exact ⟨rfl, HB9.out⟩
open Go.ChangeShapes Go.WideShapes Go.ChangeAt
open Go.ChangeMaps (open_string shut_string)
theorem own : ownKnob Try.prog.godebug = none := by kernel_rfl
theorem laidOut : laidOutB Try.prog = true := by kernel_rfl
def IsRow (k : IntKind) (w : World) (a : Option Addr) (len cap : Nat) (zs : List Int) : Prop :=
  (a = none ∧ len = 0 ∧ cap = 0 ∧ zs = []) ∨
  ∃ x, a = some x ∧ len ≤ cap ∧ cap ≤ maxLen ∧ zs.length = cap ∧ (∀ i, i < zs.length → w.cell? (x.add i) = some (.int k (zs.getD i 0))) ∧ ∀ n ∈ zs, (Lit.int k n).wf = true
set_option maxRecDepth 100000 in
theorem lifted (os : Os) (started : os.Started) (H : Type) (enc : TypeId × Value → H) :
    ReturnsInHanded {} Try.checked os 11 .any (Rows.coderShortSpec.pre6 enc Try.prog Try.f11 Rows.coderShortRow.domain false) (Rows.coderShortSpec.post enc Try.prog Try.f11 false true false false) := by
  refine returnsInHanded_of_change_sized (C := Try.checked) own started (by kernel_rfl) Try.func11
    (ChangeSpec.witness6 (enc := enc) (C := Try.checked) false ⟨#[], #[.agg #[.int .i64 0, .slice none 0 0], .slice none 0 0], []⟩ 8 (by kernel_rfl) (by kernel_rfl) (by kernel_rfl) (by kernel_rfl)) ?_
  intro W base args ds gs before hval0 hW hcnd hsz0 _
  have hsz : (DataW.weightsEach Try.prog (Try.f11.params.toList ++ Rows.coderShortSpec.plain.varTypes Try.prog) (ds ++ gs)).all (· ≤ reachBytes) = true := hsz0
  have hval : ∀ (j : Nat) t v, Try.f11.params[j]? = some t → args[j]? = some v → Value.okWide Try.prog W .any base t v := hval0
  have hW' := hW
  obtain ⟨p, q, hA0, hV, rfl, hfz, hnd⟩ := hW
  have hA : DataW.TrodAll enc Try.prog W 0 (fun _ => true) true Try.f11.params.toList args.toList ds p := hA0
  rw [Try.params11] at hA hval hsz
  obtain ⟨v0, vs0, d0, ds0, p0, q0, hargs, rfl, rfl, h0, r0⟩ := trodAll_cons hA
  obtain ⟨v1, vs1, d1, ds1, p1, q1, rfl, rfl, rfl, h1, r1⟩ := trodAll_cons r0
  obtain ⟨rfl, rfl, rfl⟩ := trodAll_nil r1
  obtain rfl : args = #[v0, v1] := by cases args; simp_all
  obtain ⟨rfl, rfl⟩ := trodVars_none hV
  have k0 := h0
  have lt0 : ∀ x ∈ p0, x.block < W.heap.size := by obtain ⟨m, hm⟩ := k0; exact DataW.trod_lt m _ _ _ hm
  obtain ⟨cs0, rfl, csz0⟩ := okWide_struct Try.underlying24 (hval 0 24 v0 rfl rfl)
  obtain ⟨⟨x0_0, x0_1⟩, ⟨_, _, hcs0, rfl, ⟨A0_1, c0_1, rfl, l0_1, g0_1⟩⟩, ⟨w0_0, w0_1⟩⟩ := Opn.open_arg (N := 8) (fun n => ((o_struct (d := (Kd.pair (Kd.int .i64) (Kd.slice 3 (Kd.int .i64)))) Try.underlying24 (by kernel_rfl) (f_cons rfl (o_int Try.underlying3 (by kernel_rfl)) (f_one rfl (o_slice (B := 8) Try.underlying22 (by kernel_rfl) (o_int Try.underlying3 (by kernel_rfl)) (by kernel_rfl))))) : Opn.OpensTo Try.prog (n + 8) 24 _ _)) h0 hsz (j := 0) (t := 24) rfl rfl
  obtain rfl : cs0 = #[.int .i64 x0_0, .slice A0_1 x0_1.length c0_1] := by rw [← Array.toList_inj]; exact hcs0
  have k1 := h1
  have lt1 : ∀ x ∈ p1, x.block < W.heap.size := by obtain ⟨m, hm⟩ := k1; exact DataW.trod_lt m _ _ _ hm
  obtain ⟨a1, len1, cap1, rfl⟩ := okWide_slice Try.underlying32 (hval 1 32 v1 rfl rfl)
  obtain ⟨x1, ⟨A1, c1, hcs1, l1, g1⟩, w1⟩ := Opn.open_arg (N := 8) (fun n => ((o_slice (B := 16) Try.underlying32 (by kernel_rfl) (show OpensTo _ _ _ k47 _ from o_iso (f := (fun x : S47 => (x.f0, x.f1))) (fun a => ⟨a.1, a.2⟩) (fun _ => rfl) (o_struct (d := (Kd.pair (Kd.int .i64) (Kd.int .i64))) Try.underlying47 (by kernel_rfl) (f_cons rfl (o_int Try.underlying3 (by kernel_rfl)) (f_one rfl (o_int Try.underlying3 (by kernel_rfl)))))) (by kernel_rfl)) : Opn.OpensTo Try.prog (n + 8) 32 _ _)) h1 hsz (j := 1) (t := 32) rfl rfl
  simp only [Value.cells, List.cons.injEq, Value.slice.injEq, and_true] at hcs1
  obtain ⟨rfl, rfl, rfl⟩ := hcs1
  clear hA0 hval0 hsz0 hsz
  refine (walk W x0_0 w0_0 A0_1 c0_1 x0_1 l0_1 g0_1 w0_1 _ _ x1 l1 g1 w1).mono fun e W' ⟨he, bel⟩ => ?_
  subst he
  exact ⟨_, rfl, _, _, _, [], _, [], hW', trodAll_mk1 (shut_bool Try.underlying4 _), (trodAll_cons_mk (Below.trod laidOut (by kernel_rfl) (of_decide_eq_true (by kernel_rfl)) k0 bel lt0) (trodAll_cons_mk (Below.trod laidOut (by kernel_rfl) (of_decide_eq_true (by kernel_rfl)) k1 bel lt1) trodAll_mk0)), rfl, bel.frame _, fun h => by cases h⟩
theorem over : Rows.coderShortRow.holds Try.pinned (OpenSpec.ofChange Rows.coderShortSpec) :=
  OpenClaim.holds_of_wide 11 Try.f11 rfl rfl rfl rfl rfl rfl rfl ⟨rfl, rfl, rfl, rfl, rfl⟩ rfl rfl rfl rfl rfl (by kernel_rfl) Try.func11 (by kernel_rfl)
    (of_decide_eq_true (by kernel_rfl)) (by unfold Func.isWrapper; first | (rw [if_pos (by decide +kernel)]; kernel_rfl) | (rw [if_neg (by decide +kernel)]; exact ⟨rfl, rfl⟩))
    (fun os started H enc _ => lifted os started H enc)
theorem proved : Rows.CoderShortSaid := over
#print axioms proved
end Go.Proofs.Ytpnmedmghncpiaa.HandCoderShort
namespace Go.Proofs.Ytpnmedmghncpiaa
/-- The row, under a short name, for the claim. -/
theorem coderShort_holds : Rows.CoderShortSaid := HandCoderShort.proved
end Go.Proofs.Ytpnmedmghncpiaa
