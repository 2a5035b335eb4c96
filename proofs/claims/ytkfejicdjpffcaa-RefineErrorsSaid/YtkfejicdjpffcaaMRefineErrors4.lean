import Derived.Test.YtkfejicdjpffcaaMRefineErrors2
import Derived.Test.YtkfejicdjpffcaaMRefineErrors3
import Derived.Test.YtkfejicdjpffcaaMRefineErrors1
import Derived.Test.YtkfejicdjpffcaaMRefineErrors0
set_option linter.unusedVariables false
set_option linter.unusedSimpArgs false
namespace Go.Proofs.Ytkfejicdjpffcaa.RDecNew
open Go Go.RowKit YtkfejicdjpffcaaW PrintWords PrintLast PrintMore Aid HandAid Cod1 Cod2 Cod3 Ytkfejicdjpffcaa.Mod Enc Mods EncAt Put End Snc Encode RefAt Dec Get DecNew RDec U
attribute [local go_sem low] max2_int
attribute [local go_sem] min2_int max_two min_two
theorem max_sub4 (n : Nat) : Builtin.max2 (.int .i64 0) (.int .i64 (4 - (n : Int))) = pure (.int .i64 ((4 - n : Nat) : Int)) := by
 rw [max2_int]
 congr 2
 split <;> omega
attribute [local go_sem high] max_sub4
theorem shV_small {code : List Int} (hb : Bytes code) (k : Nat) (hk : k < 4) : shV code k 0 0 < 16777216 := by
 have h0 := byteOf_range hb 0
 have h1 := byteOf_range hb 1
 have h2 := byteOf_range hb 2
 match k, hk with
 | 0, _ => simp only [shV]; omega
 | 1, _ => simp only [shV, Nat.zero_add, Nat.reduceAdd]; omega
 | 2, _ => simp only [shV, Nat.zero_add, Nat.reduceAdd]; omega
 | 3, _ => simp only [shV, Nat.zero_add, Nat.reduceAdd]; omega
/-- The reference's decoder in memory. -/
def RDecAt (W : World) (S : Nat → Prop) (g : Nat) (s : DS) : Prop := ∃ A c vc, RDecRow W S g s.kind A c s.st s.low s.high vc s.code s.a s.value ((s.a - s.code.length : Nat) : Int) s.ended
theorem RDecAt.kept {W W' : World} {S S' : Nat → Prop} {g : Nat} {s : DS} (h : RDecAt W S g s) (hk : Mods W W' S') (hne : ∀ k, S k → ¬ S' k) : RDecAt W' S g s := by
 obtain ⟨A, c, vo, h⟩ := h
 exact ⟨A, c, vo, h.kept hk hne⟩
theorem RDecAt.below {W W' : World} {S : Nat → Prop} {g : Nat} {s : DS} (h : RDecAt W S g s) (hb : Below W.heap.size W W') : RDecAt W' S g s := by
 obtain ⟨A, c, vo, h⟩ := h
 exact ⟨A, c, vo, h.below hb⟩
theorem RDecAt.mono {W : World} {S S' : Nat → Prop} {g : Nat} {s : DS} (h : RDecAt W S g s) (hs : ∀ k, S k → S' k) : RDecAt W S' g s := by
 obtain ⟨A, c, vo, h⟩ := h
 exact ⟨A, c, vo, h.mono hs⟩
theorem rget_end (w : World) (g : Nat) (i : Nat) (n : Nat) (A : Option Addr) (c : Nat) (hi : i < n) (h1 : w.cell? ⟨g, 1, none⟩ = some (.slice A n c)) (h3 : w.cell? ⟨g, 8, none⟩ = some (.bool true)) :
 Calls Try.prog 84 #[.pointer (some ⟨g, 0, none⟩), .int .i64 i] w fun e w' => e = .returned (.tuple #[.int .i64 0, .int .i64 6]) ∧ w = w' := by
 have hi1 : (0 : Int) ≤ (i : Int) := by omega
 have hi2 : (i : Int) < (n : Int) := by omega
 go_enter Try.func84, Try.ntmps84
 go_wp2
 go_ret2
 exact ⟨rfl, rfl⟩
theorem rget_bad (w : World) (g : Nat) (i : Int) (n : Nat) (A : Option Addr) (c : Nat) (hi : ¬ (0 ≤ i ∧ i < n)) (h1 : w.cell? ⟨g, 1, none⟩ = some (.slice A n c)) :
 Calls Try.prog 84 #[.pointer (some ⟨g, 0, none⟩), .int .i64 i] w fun e w' => e = .returned (.tuple #[.int .i64 0, .int .i64 2]) ∧ w = w' := by
 have hi' : i < 0 ∨ (i ≥ n ∧ ¬ i < 0) := by omega
 clear hi
 rcases hi' with h | ⟨h, h0⟩
 · go_enter Try.func84, Try.ntmps84
   go_wp2
   go_ret2
   exact ⟨rfl, rfl⟩
 · go_enter Try.func84, Try.ntmps84
   go_wp2
   go_ret2
   exact ⟨rfl, rfl⟩
theorem rget_calls (w : World) (S : Nat → Prop) (g : Nat) (s : DS) (i : Int) (hE : RDecAt w S g s) (hS : ∀ k, S k → k < w.heap.size) (hok : s.ok) :
 Calls Try.prog 84 #[.pointer (some ⟨g, 0, none⟩), .int .i64 i] w fun e w' => e = .returned (.tuple #[.int .i64 (s.getI i).2.1, .int .i64 (s.getI i).2.2]) ∧ RDecAt w' S g (s.getI i).1 ∧ Mods w w' S := by
 obtain ⟨A, c, vo, hR⟩ := hE
 unfold DS.getI
 by_cases hi : 0 ≤ i ∧ i < s.st.length
 · rw [if_pos hi]
   obtain ⟨j, rfl⟩ : ∃ j : Nat, i = (j : Int) := ⟨i.toNat, by omega⟩
   rw [Int.toNat_natCast]
   have hj : j < s.st.length := by omega
   by_cases he : s.ended = true
   · rw [if_pos he]
     have h40 := hR.c8
     rw [he] at h40
     refine (rget_end w g j s.st.length A c hj hR.c1 h40).mono ?_
     rintro e w' ⟨rfl, rfl⟩
     exact ⟨rfl, ⟨A, c, vo, hR⟩, Mods.refl _ _⟩
   · rw [if_neg he]
     have hef : s.ended = false := by simpa using he
     obtain ⟨b, rfl, _⟩ := hR.cell hj
     have hm := DS.mid_ hok hj
     have hc := DS.cut_ hok hj
     have hl := hok.l
     have hh := hok.h
     have hI : PutInv [] (cutL s.low (s.mid j) (s.bit j)) (cutH s.high (s.mid j) (s.bit j)) 4 (cutL s.low (s.mid j) (s.bit j)) (cutH s.high (s.mid j) (s.bit j)) [] := ⟨hc.1, hc.2.1, hc.2.2, by rw [show (256 : Int) ^ 4 = 4294967296 from rfl]; omega, rfl, rfl, Nat.le_refl _⟩
     have key : Calls Try.prog 84 #[.pointer (some ⟨g, 0, none⟩), .int .i64 j] w (RGetPost w S g s.kind b c s.st s.low s.high (s.mid j) vo s.code s.a s.value j (s.bit j)) := by
      rw [hef] at hR
      by_cases hv : s.value ≤ s.mid j
      · have hb : s.bit j = 1 := if_pos hv
        rw [hb] at hI ⊢
        exact rget_row1 w S g s.kind b c s.st s.low s.high (s.mid j) vo s.code s.a s.value j hR hS hj hok.m.2.1 (DS.at_ hok hj) hl hok.lh hh rfl (by omega) (by omega) hI hok.v0 hok.v1 hok.by_ hok.len hok.be hv
      · have hb : s.bit j = 0 := if_neg hv
        rw [hb] at hI ⊢
        exact rget_row0 w S g s.kind b c s.st s.low s.high (s.mid j) vo s.code s.a s.value j hR hS hj hok.m.2.1 (DS.at_ hok hj) hl hok.lh hh rfl (by omega) (by omega) hI hok.v0 hok.v1 hok.by_ hok.len hok.be hv
     refine key.mono ?_
     rintro e w' ⟨⟨l, h, n, hn, hq⟩, hk⟩
     have hn' : s.norm j = (n, l, h) := hn
     rw [hn']
     rcases hq with ⟨hb, rfl, hD⟩ | ⟨hb, rfl, hD⟩
     · rw [if_pos hb]
       exact ⟨rfl, ⟨_, c, vo, hD⟩, hk⟩
     · rw [if_neg hb]
       refine ⟨rfl, ⟨some ⟨b, 0, none⟩, c, vo, ?_⟩, hk⟩
       have e1 : s.next j = ⟨s.kind, s.st.set j (after s.kind (rd s.st j) (s.bit j)), l, h, s.code, s.a + n.length, shV s.code n.length s.value s.a, false⟩ := by
        unfold DS.next
        rw [hn']
       rw [e1]
       exact hD
 · rw [if_neg hi]
   refine (rget_bad w g i s.st.length A c hi hR.c1).mono ?_
   rintro e w' ⟨rfl, rfl⟩
   exact ⟨rfl, ⟨A, c, vo, hR⟩, Mods.refl _ _⟩
theorem dec9_new (kind : Int) (v vc : Value) (be : Int) : dec9 kind v 0 4294967295 vc 4 0 be false = #[.int .i64 kind, v, .int .u64 0, .int .u64 4294967295, vc, .int .i64 4, .int .u64 0, .int .i64 be, .bool false] := rfl
def RNewDecPost (w : World) (kind : Int) (st code : List Int) (e : Ending) (w' : World) : Prop := ∃ g, e = .returned (.tuple #[.pointer (some ⟨g, 0, none⟩), .int .i64 0]) ∧ RDecAt w' (Since w.heap.size w') g (newDS kind st code) ∧ Below w.heap.size w w'
set_option maxHeartbeats 4000000 in
set_option maxRecDepth 100000 in
theorem rnew_dec (A : Option Addr) (c : Nat) (kind : Int) (st : List Int) (Ac : Option Addr) (cc : Nat) (code : List Int) (w : World) (hC : Kd.C (Kd.int .i64) w A st.length st) (hc : st.length ≤ c) (hm : okModel kind st) (hCc : Kd.C (Kd.int .u8) w Ac code.length code) (hcc : code.length ≤ cc) (hby : Bytes code) (hlen : code.length ≤ 1099511627776) :
 Calls Try.prog 37 #[.agg #[.int .i64 kind, .slice A st.length c], .slice Ac code.length cc] w (RNewDecPost w kind st code) := by
 have HC := Za hC
 have HCc := Za hCc
 have hv := ref_valid_calls A c kind st
 rw [decide_eq_true hm] at hv
 have HV := Za hv
 have HM := Za hm
 have HBY := Za hby
 have hl := hm.2.1
 have hu := Try.underlying45
 clear hC hv hm hCc hby
 have hb0 := Za (b1' (Below.refl w.heap.size w) (.cells #[.int .i64 kind, .slice A st.length c] 45))
 have hq0 : Aside0 ((w.alloc (.cells #[.int .i64 kind, .slice A st.length c] 45)).heap[w.heap.size]? = some (.cells #[.int .i64 kind, .slice A st.length c] 45 (0, 0))) := ⟨heap_new _ _⟩
 go_enter Try.func37, Try.ntmps37
 go_wp2_with (first
  | (go_at_call 53; refine (HV.out _ (Kd.C_below HC.out hb0.out) hc).mono ?_; rintro e w1 ⟨rfl, hB⟩; have HB := Za (below_then hb0.out hb0.out.size hB); have hq1 : Aside0 (w1.heap[w.heap.size]? = some (.cells #[.int .i64 kind, .slice A st.length c] 45 (0, 0))) := ⟨(hB.block _ (blk_lt hq0.out)).trans hq0.out⟩; have k0 : w1.cell? ⟨w.heap.size, 0, none⟩ = some (.int .i64 kind) := (Zc hq1.out 0).trans rfl; have k1 : w1.cell? ⟨w.heap.size, 1, none⟩ = some (.slice A st.length c) := (Zc hq1.out 1).trans rfl; clear hB)
  | (go_at_call 54; refine (copy_calls A c kind st _ (Kd.C_below HC.out HB.out) hc (by omega)).mono ?_; rintro e w2 ⟨A2, c2, rfl, hR, hB⟩; have HB2 := Za (below_then HB.out HB.out.size hB); have HR := Za (Kd.R_lower hR HB.out.size); clear hR hB)
  | (go_at_call 55; refine (incunableref02_Whole.calls 0 4294967295 _ rfl).mono ?_; rintro e w3 ⟨rfl, hB⟩; have HB3 := Za (below_then HB2.out HB2.out.size hB); have HR3 := Za (Kd.R_alloc (Kd.R_below HR.out hB) (.cells #[] 5)); have HR1 : Aside0 (Kd.R (Kd.int .u8) 5 (w3.alloc (.cells #[] 5)) w.heap.size (fun _ => True) (.slice (some ⟨w3.heap.size, 0, none⟩) 0 0) []) := ⟨Kd.R_of_own (enc := Value.int .u8) (World.ownsRow_lit w3 #[] 0 HB3.out.size (by decide) rfl) (fun _ _ => trivial)⟩; have HB3' := Za (b1' HB3.out (.cells #[] 5)); have HCo := Za (Kd.C_below HCc.out HB3'.out); clear hB)
  | (at_builtin; refine Kd.R_append_rows (Kd.int .u8) (w0 := w) w.heap.size (by rfl) (.tmp 14) (.tmp 15) 29 5 (.int .u8 0) 1 rfl Try.underlying29 infoU8 rfl (by decide) (by omega) (.slice (some ⟨w3.heap.size, 0, none⟩) 0 0) [] code _ _ _ (fun _ => True) (fun _ => False) rfl rfl HR1.out HCo.out (fun _ _ h => h) (fun _ h => h.elim) (fun _ _ => trivial) HB3'.out HB3'.out.size (by simp only [List.length_nil]; omega) ?_; intro v4 w4 hR4 hB4 hg4 hat4; rw [List.nil_append] at hR4; obtain ⟨A3, c3, hv3⟩ := Kd.R_slice hR4; subst hv3; have HS4 := Za (Kd.R_over HR3.out HR1.out (by decide) hg4); have HR4 := Za hR4; have HB4 := Za hB4; clear hR4 hB4 hg4 hat4))
 clear HR1 HR HR3 HCo HB3' HV
 rw [← dec9_new]
 have HR0 := Za (heap_new w4 (.cells (dec9 kind (.slice A2 st.length c2) 0 4294967295 (.slice A3 code.length c3) 4 0 ((4 - code.length : Nat) : Int) false) 125))
 have HB5 := Za (b1' HB4.out (.cells (dec9 kind (.slice A2 st.length c2) 0 4294967295 (.slice A3 code.length c3) 4 0 ((4 - code.length : Nat) : Int) false) 125))
 have HRS := Za (Kd.R_alloc HS4.out (.cells (dec9 kind (.slice A2 st.length c2) 0 4294967295 (.slice A3 code.length c3) 4 0 ((4 - code.length : Nat) : Int) false) 125))
 have HRO := Za (Kd.R_alloc HR4.out (.cells (dec9 kind (.slice A2 st.length c2) 0 4294967295 (.slice A3 code.length c3) 4 0 ((4 - code.length : Nat) : Int) false) 125))
 generalize w4.alloc (.cells (dec9 kind (.slice A2 st.length c2) 0 4294967295 (.slice A3 code.length c3) 4 0 ((4 - code.length : Nat) : Int) false) 125) = w5 at HR0 HB5 HRS HRO ⊢
 have HQ3 := Za HB4.out.size
 obtain ⟨q, hq⟩ : ∃ q, w4.heap.size = q := ⟨_, rfl⟩
 rw [hq] at HR0 HQ3 ⊢
 obtain ⟨S, hS⟩ : ∃ S : Nat → Prop, S = Since w.heap.size w5 := ⟨_, rfl⟩
 have HE0 : Aside0 (RDecRow w5 S q kind A2 c2 st 0 4294967295 (.slice A3 code.length c3) code 4 0 ((4 - code.length : Nat) : Int) false) := ⟨by
  subst hS
  exact ⟨HR0.out, Kd.R_lower (Kd.R_mono (Kd.R_bound HRS.out) fun k hk => ⟨hk.2.1, hk.2.2.1⟩) (Nat.zero_le _), Kd.R_lower (Kd.R_mono (Kd.R_bound HRO.out) fun k hk => ⟨hk.2.1, hk.2.2.1⟩) (Nat.zero_le _), ⟨HQ3.out, blk_lt HR0.out⟩⟩⟩
 have HS := Za hS
 clear hS HR0 HRS HRO HS4 HR4 HB4 HB3 HB2 HB hq hq0 hq1 hb0 k0 k1
 go_loopw [7] (fun i wr => ∃ (k : Nat), k ≤ 4 ∧ i = .int .i64 k ∧ Aside0 (RDecRow wr S q kind A2 c2 st 0 4294967295 (.slice A3 code.length c3) code 4 (shV code k 0 0) ((4 - code.length : Nat) : Int) false) ∧ Aside0 (Mods w5 wr S)) (fun i _ => 5 - (intOf i).toNat)
 case atStart => exact ⟨0, by omega, rfl, HE0, ⟨Mods.refl _ _⟩⟩
 clear HE0
 case round =>
  obtain ⟨k, hk, rfl, HE, HK⟩ := hrel
  by_cases h4 : (k : Int) < 4
  · have hv0 := shV_range HBY.out k 0 0 (by omega) (by omega)
    have hv1 := shV_small HBY.out k (by omega)
    have hbr := byteOf_range HBY.out k
    go_wp2
    have HE := Za HE.out.drew
    have HK := Za HK.out.drew
    have p4 := HE.out.c4
    have p6 := HE.out.c6
    have f6 := HE.out.fz 6
    refine start_ (n := 16) (S := fun w' => w'.cell? ⟨q, 4, none⟩ = some (.slice A3 code.length c3) ∧ w'.cell? ⟨q, 6, none⟩ = some (.int .u64 (shV code k 0 0))) (ds := [15]) (B' 16 0) (by kernel_rfl) rfl rfl ⟨p4, p6⟩ (fun hHeld => ?_)
    refine u' 0 27 (B' 16 1) ?_ rfl rfl ?_ ?_ ?_ ?_; rotate_left; (intro w'; go_simp; with_reducible rfl); rotate_left; (simp only [Act.put, p1', p2', p3', w1', w2']; rfl)
    refine u' 1 28 (B' 16 3) ?_ rfl rfl ?_ ?_ ?_ ?_; rotate_left; (intro w'; go_simp; with_reducible rfl); rotate_left; (simp only [Act.put, p1', p2', p3', w1', w2']; rfl)
    refine u' 2 29 (B' 16 7) ?_ rfl rfl ?_ ?_ ?_ ?_; rotate_left; (intro w'; go_simp; with_reducible rfl); rotate_left; (simp only [Act.put, p1', p2', p3', w1', w2']; rfl)
    refine u' 3 30 (B' 16 15) ?_ rfl rfl ?_ ?_ ?_ ?_; rotate_left; (intro w'; go_simp; with_reducible rfl); rotate_left; (simp only [Act.put, p1', p2', p3', w1', w2']; rfl)
    refine u' 6 33 (B' 16 79) ?_ rfl rfl ?_ ?_ ?_ ?_; rotate_left; (intro w'; go_simp; with_reducible rfl); rotate_left; (simp only [Act.put, p1', p2', p3', w1', w2']; rfl)
    refine u' 7 34 (B' 16 207) ?_ rfl rfl ?_ ?_ ?_ ?_; rotate_left; (intro w'; go_simp; with_reducible rfl); rotate_left; (simp only [Act.put, p1', p2', p3', w1', w2']; rfl)
    refine u' 8 35 (B' 16 463) ?_ rfl rfl ?_ ?_ ?_ ?_; rotate_left; (intro w'; go_simp; with_reducible rfl); rotate_left; (simp only [Act.put, p1', p2', p3', w1', w2']; rfl)
    refine u' 10 37 (B' 16 1487) ?_ rfl rfl ?_ ?_ ?_ ?_; rotate_left; (intro w'; go_simp; with_reducible rfl); rotate_left; (simp only [Act.put, p1', p2', p3', w1', w2']; rfl)
    refine t' 4 31 (B' 16 1503) ?_ rfl rfl ?_ hHeld ?_ ?_ ?_; rotate_left; (rintro w' ⟨s0, s1⟩; go_simp; with_reducible rfl); rotate_left; (simp only [Act.put, p1', p2', p3', w1', w2']; rfl)
    refine u' 5 32 (B' 16 1535) ?_ rfl rfl ?_ ?_ ?_ ?_; rotate_left; (intro w'; go_simp; with_reducible rfl); rotate_left; (simp only [Act.put, p1', p2', p3', w1', w2']; rfl)
    refine t' 9 36 (B' 16 2047) ?_ rfl rfl ?_ hHeld ?_ ?_ ?_; rotate_left; (rintro w' ⟨s0, s1⟩; go_simp; with_reducible rfl); rotate_left; (simp only [Act.put, p1', p2', p3', w1', w2']; rfl)
    refine one_ (i := 11) (N := some 38) (B' 16 4095) rfl rfl (by kernel_rfl) (by decide) (fun K hK => ?_)
    refine goes_ Try.func83 (by kernel_rfl) rfl #[.slice A3 code.length c3, .int .i64 k] (by rfl) rfl rfl (by simp only [List.map_toArray, List.map_cons, List.map_nil]; rfl) ?_
    with_reducible refine (byte_calls A3 c3 code k _ (Kd.R_reads' HE.out.o).2.2 HBY.out).mono ?_
    rintro e w8 ⟨rfl, rfl⟩
    refine ⟨_, rfl, ?_⟩
    refine hK.out _ _ ⟨p4, p6⟩ (fun hHeld => ?_)
    clear hK K
    refine n' ?_ ?_ ?_; rotate_left; (show Act.put _ (some 38) _ = _; simp only [Act.put, p1', p2', p3', w1', w2']; rfl)
    refine u' 12 39 (B' 16 8191) ?_ rfl rfl ?_ ?_ ?_ ?_; rotate_left; (intro w'; go_simp; with_reducible rfl); rotate_left; (simp only [Act.put, p1', p2', p3', w1', w2']; rfl)
    refine u' 13 40 (B' 16 16383) ?_ rfl rfl ?_ ?_ ?_ ?_; rotate_left; (intro w'; go_simp; with_reducible rfl); rotate_left; (simp only [Act.put, p1', p2', p3', w1', w2']; rfl)
    refine u' 14 41 (B' 16 32767) ?_ rfl rfl ?_ ?_ ?_ ?_; rotate_left; (intro w'; go_simp; with_reducible rfl); rotate_left; (simp only [Act.put, p1', p2', p3', w1', w2']; rfl)
    refine last_ (i := 15) (N := none) (B' 16 65535) rfl rfl (by kernel_rfl) (by decide) (fun K hK => ?_)
    refine skip_ (w1 := ?_) (by rfl) rfl ?_ ?_
    rotate_left
    · go_simp
      rfl
    refine hK.out _ _ ?_
    clear hK K
    refine done_ (by kernel_rfl) ?_
    go_wp2
    go_roundw
    case measure => simp only [intOf]; omega
    case rel =>
     refine ⟨k + 1, by omega, rfl, ⟨?_⟩, ⟨HK.out.setCell (p := ⟨q, 6, none⟩) (.inl HE.out.g) _⟩⟩
     have e9 := shV_succ code k 0 0
     rw [Nat.zero_add, Int.emod_eq_of_lt hv0.1 hv1] at e9
     rw [e9]
     exact HE.out.put 6 _ rfl
  · have e4 : k = 4 := by omega
    subst e4
    go_wp2
    go_ret2
    have hb := below_mods HB5.out HK.out (fun k hk => by rw [HS.out] at hk; exact hk.1) HB5.out.size
    refine ⟨q, rfl, ⟨A2, c2, .slice A3 code.length c3, HE.out.mono fun k hk => ?_⟩, hb⟩
    rw [HS.out] at hk
    exact ⟨hk.1, Nat.lt_of_lt_of_le hk.2 HK.out.size⟩
end Go.Proofs.Ytkfejicdjpffcaa.RDecNew
namespace Go.Proofs.Ytkfejicdjpffcaa.Isk
open Go Go.RowKit YtkfejicdjpffcaaW PrintWords PrintLast PrintMore Aid HandAid Cod1 Cod2 Cod3 Ytkfejicdjpffcaa.Mod Enc Mods EncAt Put End Snc Dec Get DecNew RefAt RDec RDecNew
theorem bit_range (s : DS) (i : Int) : 0 ≤ (s.getI i).2.1 ∧ (s.getI i).2.1 ≤ 1 := by
 unfold DS.getI
 split
 · split
   · exact ⟨Int.le_refl _, by show (0 : Int) ≤ 1; decide⟩
   · split
     · exact ⟨Int.le_refl _, by show (0 : Int) ≤ 1; decide⟩
     · have := DS.bit_ s i.toNat
       show 0 ≤ s.bit i.toNat ∧ s.bit i.toNat ≤ 1
       omega
 · exact ⟨Int.le_refl _, by show (0 : Int) ≤ 1; decide⟩
theorem getI_len (s : DS) (i : Int) : (s.getI i).1.st.length = s.st.length := by
 unfold DS.getI
 split
 · split
   · rfl
   · split
     · rfl
     · show (s.st.set _ _).length = _
       exact List.length_set
 · rfl
theorem getI_neg (s : DS) : s.getI (-1) = (s, 0, 2) := by
 unfold DS.getI
 exact if_neg (by omega)
/-- What a decoder's row in memory is kept by. -/
class AtL (At : World → (Nat → Prop) → Nat → DS → Prop) : Prop where
 kept : ∀ {W W' : World} {S S' : Nat → Prop} {g : Nat} {s : DS}, At W S g s → Mods W W' S' → (∀ k, S k → ¬ S' k) → At W' S g s
 below : ∀ {W W' : World} {S : Nat → Prop} {g : Nat} {s : DS}, At W S g s → Below W.heap.size W W' → At W' S g s
 mono : ∀ {W : World} {S S' : Nat → Prop} {g : Nat} {s : DS}, At W S g s → (∀ k, S k → S' k) → At W S' g s
instance : AtL DecAt := ⟨fun h hk hne => DecAt.kept h hk hne, fun h hb => DecAt.below h hb, fun h hs => DecAt.mono h hs⟩
instance : AtL RDecAt := ⟨fun h hk hne => RDecAt.kept h hk hne, fun h hb => RDecAt.below h hb, fun h hs => RDecAt.mono h hs⟩
/-- A decoder at g, in a world that came of w. -/
structure IS (At : World → (Nat → Prop) → Nat → DS → Prop) (w : World) (S : Nat → Prop) (g : Nat) (s : DS) (W : World) : Prop where
 d : At W S g s
 m : Mods w W S
 ok : s.ok
theorem IS.get {w W : World} {S : Nat → Prop} {g : Nat} {s : DS} (H : IS DecAt w S g s W) (hS : ∀ k, S k → k < w.heap.size) (i : Int) :
 Calls Try.prog 35 #[.pointer (some ⟨g, 0, none⟩), .int .i64 i] W fun e W' => e = .returned (.tuple #[.int .i64 (s.getI i).2.1, .int .i64 (s.getI i).2.2]) ∧ IS DecAt w S g (s.getI i).1 W' := by
 refine (get_calls W S g s i H.d (fun k hk => Nat.lt_of_lt_of_le (hS k hk) H.m.size) H.ok).mono ?_
 rintro e W' ⟨he, hE, hM⟩
 exact ⟨he, ⟨hE, H.m.then_ hM (fun k hk => .inl hk), DS.getI_ok H.ok _⟩⟩
theorem IS.rget {w W : World} {S : Nat → Prop} {g : Nat} {s : DS} (H : IS RDecAt w S g s W) (hS : ∀ k, S k → k < w.heap.size) (i : Int) :
 Calls Try.prog 84 #[.pointer (some ⟨g, 0, none⟩), .int .i64 i] W fun e W' => e = .returned (.tuple #[.int .i64 (s.getI i).2.1, .int .i64 (s.getI i).2.2]) ∧ IS RDecAt w S g (s.getI i).1 W' := by
 refine (rget_calls W S g s i H.d (fun k hk => Nat.lt_of_lt_of_le (hS k hk) H.m.size) H.ok).mono ?_
 rintro e W' ⟨he, hE, hM⟩
 exact ⟨he, ⟨hE, H.m.then_ hM (fun k hk => .inl hk), DS.getI_ok H.ok _⟩⟩
theorem IS.below {At : World → (Nat → Prop) → Nat → DS → Prop} [AtL At] {w W W' : World} {S : Nat → Prop} {g : Nat} {s : DS} (H : IS At w S g s W) (hb : Below W.heap.size W W') : IS At w S g s W' := ⟨AtL.below H.d hb, H.m.below hb, H.ok⟩
/-- A new block is written. -/
theorem IS.set {At : World → (Nat → Prop) → Nat → DS → Prop} [AtL At] {w W : World} {S : Nat → Prop} {g : Nat} {s : DS} (H : IS At w S g s W) (hS : ∀ k, S k → k < w.heap.size) (p : Addr) (hp : w.heap.size ≤ p.block) (v : Value) : IS At w S g s (W.setCell p v) := by
 have h2 : Mods W (W.setCell p v) (fun k => k = p.block) := (Mods.refl W (fun k => k = p.block)).setCell (p := p) (.inl rfl) v
 exact ⟨AtL.kept H.d h2 (fun k hk hk2 => by have := hS k hk; omega), H.m.then_ h2 (fun k hk => .inr (by omega)), H.ok⟩
end Go.Proofs.Ytkfejicdjpffcaa.Isk
namespace Go.Proofs.Ytkfejicdjpffcaa.Pse
open Go Go.RowKit YtkfejicdjpffcaaW PrintWords PrintLast PrintMore U Aid HandAid Cod1 Cod2 Cod3 Ytkfejicdjpffcaa.Mod Enc Mods EncAt Put End Snc
/-- Events are put as far as they go well. -/
def putsE : ES → List S72 → ES × Int
 | s, [] => (s, 0)
 | s, x :: l => if s.err x.f0 x.f1 = 0 then putsE (s.putI x.f0 x.f1) l else (s, s.err x.f0 x.f1)
theorem putsE_ok : ∀ (l : List S72) (s : ES), s.ok → (putsE s l).1.ok
 | [], s, h => h
 | x :: l, s, h => by
   unfold putsE
   split
   · exact putsE_ok l _ (ES.putI_ok h _ _)
   · exact h
/-- An event that n contexts take. -/
def goodL (n : Nat) (x : S72) : Bool := decide (0 ≤ x.f0) && decide (x.f0 < n) && (decide (x.f1 = 0) || decide (x.f1 = 1))
end Go.Proofs.Ytkfejicdjpffcaa.Pse
namespace Go.Proofs.Ytkfejicdjpffcaa.Pwk
open Go Go.RowKit YtkfejicdjpffcaaW PrintWords PrintLast PrintMore U Aid HandAid Cod1 Cod2 Cod3 Ytkfejicdjpffcaa.Mod Enc Mods EncAt Put End Snc RefAt RefPut RefEnd Pse
/-- What an encoder's row in memory is kept by. -/
class EnL (At : World → (Nat → Prop) → Nat → ES → Prop) : Prop where
 kept : ∀ {W W' : World} {S S' : Nat → Prop} {g : Nat} {s : ES}, At W S g s → Mods W W' S' → (∀ k, S k → ¬ S' k) → At W' S g s
 below : ∀ {W W' : World} {S : Nat → Prop} {g : Nat} {s : ES}, At W S g s → Below W.heap.size W W' → At W' S g s
 mono : ∀ {W : World} {S S' : Nat → Prop} {g : Nat} {s : ES}, At W S g s → (∀ k, S k → S' k) → At W S' g s
instance : EnL EncAt := ⟨fun h hk hne => EncAt.kept h hk hne, fun h hb => EncAt.below h hb, fun h hs => EncAt.mono h hs⟩
instance : EnL RefAt := ⟨fun h hk hne => RefAt.kept h hk hne, fun h hb => RefAt.below h hb, fun h hs => RefAt.mono h hs⟩
/-- An encoder in a world that came of w by what it did. -/
structure PW (At : World → (Nat → Prop) → Nat → ES → Prop) (w : World) (S : Nat → Prop) (g : Nat) (s : ES) (W : World) : Prop where
 e : At W (fun k => (S k ∨ w.heap.size ≤ k) ∧ k < W.heap.size) g s
 m : Mods w W S
 ok : s.ok
section
variable {At : World → (Nat → Prop) → Nat → ES → Prop} [EnL At] {w W W' : World} {S : Nat → Prop} {g : Nat} {s s' : ES}
theorem PW.start (h : At w S g s) (hS : ∀ k, S k → k < w.heap.size) (hok : s.ok) : PW At w S g s w := ⟨EnL.mono h (fun k hk => ⟨.inl hk, hS k hk⟩), Mods.refl w S, hok⟩
theorem PW.below (H : PW At w S g s W) (hb : Below W.heap.size W W') : PW At w S g s W' := ⟨EnL.mono (EnL.below H.e hb) (fun k hk => ⟨hk.1, Nat.lt_of_lt_of_le hk.2 hb.size⟩), H.m.below hb, H.ok⟩
omit [EnL At] in
theorem PW.next [EnL At] (H : PW At w S g s W) (hE : At W' (fun k => (((S k ∨ w.heap.size ≤ k) ∧ k < W.heap.size) ∨ W.heap.size ≤ k) ∧ k < W'.heap.size) g s') (hM : Mods W W' (fun k => (S k ∨ w.heap.size ≤ k) ∧ k < W.heap.size)) (ok' : s'.ok) : PW At w S g s' W' :=
 ⟨EnL.mono hE (fun k hk => ⟨by rcases hk.1 with h | h; exact h.1; exact .inr (Nat.le_trans H.m.size h), hk.2⟩), H.m.then_ hM (fun k hk => hk.1), ok'⟩
end
theorem PW.put {w W : World} {S : Nat → Prop} {g : Nat} {s : ES} (H : PW EncAt w S g s W) (hlen : s.out.length ≤ 1099511627776) (i bit : Int) :
 Calls Try.prog 28 #[.pointer (some ⟨g, 0, none⟩), .int .i64 i, .int .i64 bit] W fun e W' => e = .returned (.int .i64 (s.err i bit)) ∧ PW EncAt w S g (s.putI i bit) W' := by
 refine (put_calls W _ g s i bit H.e H.ok hlen).mono ?_
 rintro e W' ⟨he, hE, hM⟩
 exact ⟨he, H.next hE hM (ES.putI_ok H.ok _ _)⟩
theorem PW.rput {w W : World} {S : Nat → Prop} {g : Nat} {s : ES} (H : PW RefAt w S g s W) (hlen : s.out.length ≤ 1099511627776) (i bit : Int) :
 Calls Try.prog 26 #[.pointer (some ⟨g, 0, none⟩), .int .i64 i, .int .i64 bit] W fun e W' => e = .returned (.int .i64 (s.err i bit)) ∧ PW RefAt w S g (s.putI i bit) W' := by
 refine (ref_put_calls W _ g s i bit H.e H.ok hlen).mono ?_
 rintro e W' ⟨he, hE, hM⟩
 exact ⟨he, H.next hE hM (ES.putI_ok H.ok _ _)⟩
end Go.Proofs.Ytkfejicdjpffcaa.Pwk
namespace Go.Proofs.Ytkfejicdjpffcaa.Bkp
open Go Go.RowKit YtkfejicdjpffcaaW PrintWords PrintLast PrintMore U Aid Pse DecNew HandAid Cod1 Cod2 Cod3 Ytkfejicdjpffcaa.Mod Enc Mods EncAt Put End Snc Dec Get U
theorem byteOf_getD (l : List Int) (i : Nat) : Dec.byteOf l i = l.getD i 0 := by
 unfold Dec.byteOf
 split
 · simp [rd]
 · rename_i h
   rw [List.getD_eq_getElem?_getD, List.getElem?_eq_none (by omega)]
   rfl
/-- Four bytes of a code, as a number. -/
def win (code : List Int) (n : Nat) : Int := Dec.byteOf code n * 16777216 + Dec.byteOf code (n + 1) * 65536 + Dec.byteOf code (n + 2) * 256 + Dec.byteOf code (n + 3)
theorem win_succ {code : List Int} (h : Bytes code) (n : Nat) : win code (n + 1) = win code n % 16777216 * 256 + Dec.byteOf code (n + 4) := by
 have h0 := byteOf_range h n
 have h1 := byteOf_range h (n + 1)
 have h2 := byteOf_range h (n + 2)
 have h3 := byteOf_range h (n + 3)
 have h4 := byteOf_range h (n + 4)
 unfold win
 rw [show n + 1 + 1 = n + 2 by omega, show n + 1 + 2 = n + 3 by omega, show n + 1 + 3 = n + 4 by omega]
 omega
theorem win_top {code : List Int} (h : Bytes code) (n : Nat) : win code n / 16777216 = Dec.byteOf code n ∧ 0 ≤ win code n := by
 have h0 := byteOf_range h n
 have h1 := byteOf_range h (n + 1)
 have h2 := byteOf_range h (n + 2)
 have h3 := byteOf_range h (n + 3)
 unfold win
 omega
theorem shV_win {code : List Int} (h : Bytes code) : ∀ (k n : Nat), shV code k (win code n) (n + 4) = win code (n + k)
 | 0, n => rfl
 | k + 1, n => by
   show shV code k (win code n % 16777216 * 256 + Dec.byteOf code (n + 4)) (n + 4 + 1) = _
   rw [← win_succ h, show n + 4 + 1 = n + 1 + 4 by omega, shV_win h k (n + 1), show n + 1 + k = n + (k + 1) by omega]
theorem win_zero {code : List Int} (h : Bytes code) : shV code 4 0 0 = win code 0 := by
 have h0 := byteOf_range h 0
 have h1 := byteOf_range h 1
 have h2 := byteOf_range h 2
 have h3 := byteOf_range h 3
 unfold win
 simp only [shV, Nat.zero_add, Nat.reduceAdd]
 omega
/-- The bytes m stand in the code from n on. -/
def AtL (code : List Int) : Nat → List Int → Prop
 | _, [] => True
 | n, x :: m => Dec.byteOf code n = x ∧ AtL code (n + 1) m
theorem atL_of (m t : List Int) : ∀ (P : List Int), AtL (P ++ m ++ t) P.length m := by
 induction m with
 | nil => intro P; trivial
 | cons x m ih =>
   intro P
   refine ⟨?_, ?_⟩
   · rw [byteOf_getD]
     simp
   · have h := ih (P ++ [x])
     simpa using h
/-- What stands in the interval behind the lost bytes stands in the interval ahead of them. -/
theorem norm_win {code : List Int} (hb : Bytes code) : ∀ (d : Nat) (l h : Int) (n : Nat), 0 ≤ l → l ≤ h → h ≤ 4294967295 → AtL code n (normE d l h).1 → (normE d l h).2.1 ≤ win code (n + (normE d l h).1.length) ∧ win code (n + (normE d l h).1.length) ≤ (normE d l h).2.2 → l ≤ win code n ∧ win code n ≤ h
 | 0, l, h, n, _, _, _, _, hw => hw
 | d + 1, l, h, n, h0, h1, h2, ha, hw => by
   unfold normE at ha hw
   by_cases c : l / 16777216 = h / 16777216
   · rw [if_pos c] at ha hw
     have h3 := norm_win hb d (l % 16777216 * 256) (h % 16777216 * 256 + 255) (n + 1) (by omega) (by omega) (by omega) ha.2 (by
      rw [show n + 1 + (normE d (l % 16777216 * 256) (h % 16777216 * 256 + 255)).1.length = n + ((normE d (l % 16777216 * 256) (h % 16777216 * 256 + 255)).1.length + 1) by omega]
      exact hw)
     have h4 := win_succ hb n
     have h5 := win_top hb n
     have h6 := byteOf_range hb (n + 4)
     have h7 : Dec.byteOf code n = l / 16777216 := ha.1
     omega
   · rw [if_neg c] at ha hw
     exact hw
/-- The end tells a number of the interval, with zeros behind it. -/
theorem end_win (P : List Int) (low high : Int) (z : Nat) (h0 : 0 ≤ low) (h1 : low ≤ high) (h2 : high ≤ 4294967295) : low ≤ win (P ++ endOf low high ++ List.replicate z 0) P.length ∧ win (P ++ endOf low high ++ List.replicate z 0) P.length ≤ high := by
 have key : ∀ i, i < 4 → Dec.byteOf (P ++ endOf low high ++ List.replicate z 0) (P.length + i) = (endOf low high).getD i 0 := by
  intro i _
  rw [byteOf_getD, List.append_assoc, List.getD_eq_getElem?_getD, List.getElem?_append_right (by omega), Nat.add_sub_cancel_left, List.getD_eq_getElem?_getD]
  by_cases c : i < (endOf low high).length
  · rw [List.getElem?_append_left c]
  · rw [List.getElem?_append_right (by omega), List.getElem?_eq_none (l := endOf low high) (by omega), List.getElem?_replicate]
    split <;> rfl
 have k0 := key 0 (by omega)
 have k1 := key 1 (by omega)
 have k2 := key 2 (by omega)
 have k3 := key 3 (by omega)
 rw [Nat.add_zero] at k0
 unfold win
 rw [k0, k1, k2, k3]
 unfold endOf endN hiBytes
 (repeat' split) <;> simp only [List.take, List.getD_cons_zero, List.getD_cons_succ, List.getD_nil] <;> omega
/-- Encoder and decoder stand at the same place. -/
structure Sync (code : List Int) (s : ES) (d : DS) : Prop where
 k : d.kind = s.kind
 st : d.st = s.st
 l : d.low = s.low
 h : d.high = s.high
 c : d.code = code
 a : d.a = s.out.length + 4
 v : d.value = win code s.out.length
 e : d.ended = false
theorem putI_good {s : ES} {i bit : Int} (h : s.err i bit = 0) : s.good i bit = true ∧ s.putI i bit = s.put i.toNat bit ∧ 0 ≤ i ∧ i < s.st.length ∧ (bit = 0 ∨ bit = 1) := by
 unfold ES.err at h
 by_cases c : s.good i bit = true
 · have c2 := c
   simp only [ES.good, Bool.and_eq_true, Bool.or_eq_true, decide_eq_true_eq] at c2
   exact ⟨c, if_pos c, c2.1.1, c2.1.2, c2.2⟩
 · rw [if_neg c] at h
   exact absurd h (by decide)
theorem putsE_pre : ∀ (l : List S72) (s : ES), ∃ m, (putsE s l).1.out = s.out ++ m
 | [], s => ⟨[], by simp [putsE]⟩
 | x :: l, s => by
   unfold putsE
   split
   · obtain ⟨m, hm⟩ := putsE_pre l (s.putI x.f0 x.f1)
     rename_i h
     have hg := putI_good h
     rw [hg.2.1] at hm ⊢
     exact ⟨(s.norm x.f0.toNat x.f1).1 ++ m, by rw [hm, ← List.append_assoc]; rfl⟩
   · exact ⟨[], by simp⟩
/-- The code's number stands in the interval of every state on the way. -/
theorem win_in {code : List Int} (hb : Bytes code) : ∀ (l : List S72) (s : ES), s.ok → (putsE s l).2 = 0 → (∃ t, code = (putsE s l).1.out ++ t) → ((putsE s l).1.low ≤ win code (putsE s l).1.out.length ∧ win code (putsE s l).1.out.length ≤ (putsE s l).1.high) → s.low ≤ win code s.out.length ∧ win code s.out.length ≤ s.high
 | [], s, _, _, _, hw => hw
 | x :: l, s, hok, he, hp, hw => by
   unfold putsE at he hp hw
   by_cases c : s.err x.f0 x.f1 = 0
   · rw [if_pos c] at he hp hw
     have hg := putI_good c
     have h1 := win_in hb l (s.putI x.f0 x.f1) (ES.putI_ok hok _ _) he hp hw
     obtain ⟨t, ht⟩ := hp
     obtain ⟨m, hm⟩ := putsE_pre l (s.putI x.f0 x.f1)
     rw [hg.2.1] at h1 hm ht
     have hi : x.f0.toNat < s.st.length := by omega
     have hc := ES.cut_ hok hi (bit := x.f1)
     have hmid := ES.mid_ hok hi
     have hat : AtL code s.out.length (s.norm x.f0.toNat x.f1).1 := by
      rw [ht, hm]
      have h2 := atL_of (s.norm x.f0.toNat x.f1).1 (m ++ t) s.out
      rw [← List.append_assoc] at h2
      exact h2
     have h3 := norm_win hb 4 _ _ s.out.length hc.1 hc.2.1 hc.2.2 hat (by
      have h4 : (s.put x.f0.toNat x.f1).out.length = s.out.length + (s.norm x.f0.toNat x.f1).1.length := List.length_append
      rw [h4] at h1
      exact h1)
     have hl := hok.l
     unfold cutL cutH at h3
     split at h3 <;> omega
   · rw [if_neg c] at he
     exact absurd he c
theorem back_step {code : List Int} (hb : Bytes code) {s : ES} {d : DS} (hs : Sync code s d) (hok : s.ok) {x : S72} (he : s.err x.f0 x.f1 = 0) (hp : ∃ t, code = (s.putI x.f0 x.f1).out ++ t) (hw : (s.putI x.f0 x.f1).low ≤ win code (s.putI x.f0 x.f1).out.length ∧ win code (s.putI x.f0 x.f1).out.length ≤ (s.putI x.f0 x.f1).high) : ∃ d', d.getI x.f0 = (d', x.f1, 0) ∧ Sync code (s.putI x.f0 x.f1) d' := by
 have hg := putI_good he
 rw [hg.2.1] at hw hp ⊢
 obtain ⟨j, hj⟩ : ∃ j : Nat, x.f0 = (j : Int) := ⟨x.f0.toNat, by omega⟩
 rw [hj, Int.toNat_natCast] at hw hp ⊢
 have hi : j < s.st.length := by omega
 have hc := ES.cut_ hok hi (bit := x.f1)
 have hmid := ES.mid_ hok hi
 obtain ⟨t, ht⟩ := hp
 have h4 : (s.put j x.f1).out.length = s.out.length + (s.norm j x.f1).1.length := List.length_append
 have hat : AtL code s.out.length (s.norm j x.f1).1 := by
  rw [ht]
  exact atL_of (s.norm j x.f1).1 t s.out
 have h3 := norm_win hb 4 _ _ s.out.length hc.1 hc.2.1 hc.2.2 hat (by
  rw [h4] at hw
  exact hw)
 have hm : d.mid j = s.mid j := by
  unfold DS.mid ES.mid
  rw [hs.l, hs.h, hs.k, hs.st]
 have hbit : d.bit j = x.f1 := by
  unfold DS.bit
  rw [hs.v, hm]
  unfold cutL cutH at h3
  rcases hg.2.2.2.2 with hx | hx
  · rw [hx] at h3 ⊢
    rw [if_neg (by decide), if_neg (by decide)] at h3
    rw [if_neg (by omega)]
  · rw [hx] at h3 ⊢
    rw [if_pos rfl, if_pos rfl] at h3
    rw [if_pos (by omega)]
 have hn : d.norm j = s.norm j x.f1 := by
  unfold DS.norm ES.norm
  rw [hs.l, hs.h, hm, hbit]
 have hlen : s.out.length + (s.norm j x.f1).1.length ≤ code.length := by
  rw [ht, List.length_append, h4]
  omega
 refine ⟨d.next j, ?_, ?_⟩
 · unfold DS.getI
   rw [if_pos (by rw [hs.st]; omega), hs.e, if_neg (by decide), Int.toNat_natCast, hn, if_neg (by rw [hs.a, hs.c]; omega), hbit]
 · have e1 : d.next j = ⟨d.kind, d.st.set j (after d.kind (rd d.st j) (d.bit j)), (d.norm j).2.1, (d.norm j).2.2, d.code, d.a + (d.norm j).1.length, shV d.code (d.norm j).1.length d.value d.a, false⟩ := rfl
   rw [e1, hn, hbit, hs.k, hs.st, hs.c, hs.a, hs.v, shV_win hb]
   exact ⟨rfl, rfl, rfl, rfl, rfl, by rw [h4]; show s.out.length + 4 + _ = _; omega, by rw [h4], rfl⟩
/-- A decoder tells these events, one behind the other. -/
def Fol : DS → List S72 → DS → Prop
 | d, [], d' => d = d'
 | d, x :: l, d' => ∃ e, d.getI x.f0 = (e, x.f1, 0) ∧ Fol e l d'
theorem fol_of {code : List Int} (hb : Bytes code) : ∀ (l : List S72) (s : ES) (d : DS), s.ok → Sync code s d → (putsE s l).2 = 0 → (∃ t, code = (putsE s l).1.out ++ t) → ((putsE s l).1.low ≤ win code (putsE s l).1.out.length ∧ win code (putsE s l).1.out.length ≤ (putsE s l).1.high) → ∃ d', Fol d l d' ∧ Sync code (putsE s l).1 d'
 | [], s, d, _, hs, _, _, _ => ⟨d, rfl, hs⟩
 | x :: l, s, d, hok, hs, he, hp, hw => by
   unfold putsE at he hp hw ⊢
   by_cases c : s.err x.f0 x.f1 = 0
   · rw [if_pos c] at he hp hw ⊢
     have hok2 := ES.putI_ok hok x.f0 x.f1
     have h1 := win_in hb l (s.putI x.f0 x.f1) hok2 he hp hw
     have hp2 : ∃ t, code = (s.putI x.f0 x.f1).out ++ t := by
      obtain ⟨t, ht⟩ := hp
      obtain ⟨m, hm⟩ := putsE_pre l (s.putI x.f0 x.f1)
      exact ⟨m ++ t, by rw [ht, hm, List.append_assoc]⟩
     obtain ⟨d1, hg, hs1⟩ := back_step hb hs hok c hp2 h1
     obtain ⟨d2, hr, hs2⟩ := fol_of hb l (s.putI x.f0 x.f1) d1 hok2 hs1 he hp hw
     exact ⟨d2, ⟨d1, hg, hr⟩, hs2⟩
   · rw [if_neg c] at he
     exact absurd he c
/-- What is encoded is told again. -/
theorem back_fol {kind : Int} {st : List Int} {l : List S72} (hm : okModel kind st) (he : (putsE (newES kind st) l).2 = 0) {code : List Int} (hb : Bytes code) (hc : code = (putsE (newES kind st) l).1.end_) : ∃ d', Fol (newDS kind st code) l d' ∧ Sync code (putsE (newES kind st) l).1 d' := by
 have hokN := putsE_ok l _ (newES_ok hm)
 have hw := end_win (putsE (newES kind st) l).1.out (putsE (newES kind st) l).1.low (putsE (newES kind st) l).1.high 0 hokN.l hokN.lh hokN.h
 rw [List.replicate_zero, List.append_nil] at hw
 have hc2 : code = (putsE (newES kind st) l).1.out ++ endOf (putsE (newES kind st) l).1.low (putsE (newES kind st) l).1.high := hc
 rw [← hc2] at hw
 exact fol_of hb l (newES kind st) (newDS kind st code) (newES_ok hm) ⟨rfl, rfl, rfl, rfl, rfl, rfl, win_zero hb, rfl⟩ he ⟨_, hc2⟩ hw
end Go.Proofs.Ytkfejicdjpffcaa.Bkp
namespace Go.Proofs.Ytkfejicdjpffcaa.Rpx
open Go Go.RowKit YtkfejicdjpffcaaW PrintWords PrintLast PrintMore U Aid
/-- A pixel, white outside. -/
def px (W H : Int) (P : List Int) (x y : Int) : Int := if 0 ≤ x ∧ 0 ≤ y ∧ x < W ∧ y < H then rd P (y * W + x) else 0
/-- A bitmap's sides and pixels. -/
structure Bm (W H : Int) (P : List Int) : Prop where
 w : 0 ≤ W ∧ W ≤ 200
 h : 0 ≤ H ∧ H ≤ 200
 n : (P.length : Int) = W * H
 p : ∀ v ∈ P, v = 0 ∨ v = 1
theorem Bm.at_ {W H : Int} {P : List Int} (b : Bm W H P) {x y : Int} (hx : 0 ≤ x) (hy : 0 ≤ y) (hw : x < W) (hh : y < H) : 0 ≤ y * W ∧ y * W ≤ 40000 ∧ 0 ≤ y * W + x ∧ y * W + x < P.length := by
 have h1 : 0 ≤ y * W := Int.mul_nonneg hy b.w.1
 have h2 : (y + 1) * W = y * W + W := by rw [Int.add_mul, Int.one_mul]
 have h3 : (y + 1) * W ≤ H * W := Int.mul_le_mul_of_nonneg_right (by omega) b.w.1
 have h5 : H * W ≤ 200 * W := Int.mul_le_mul_of_nonneg_right b.h.2 b.w.1
 have h4 := b.n
 rw [Int.mul_comm] at h4
 have := b.w.2
 omega
theorem px_01 {W H : Int} {P : List Int} (b : Bm W H P) (x y : Int) : px W H P x y = 0 ∨ px W H P x y = 1 := by
 unfold px
 split
 · rename_i h
   have := b.at_ h.1 h.2.1 h.2.2.1 h.2.2.2
   exact b.p _ (rd_mem this.2.2.1 this.2.2.2)
 · exact .inl rfl
theorem pix_eq {W H : Int} {P : List Int} (b : Bm W H P) (x y : Int) : incunableref06_Pix.f W H P x y = some (px W H P x y) := by
 unfold incunableref06_Pix.f px
 by_cases c1 : x < 0
 · rw [if_pos c1, if_neg (by omega)]
 rw [if_neg c1]
 by_cases c2 : y < 0
 · rw [if_pos c2, if_neg (by omega)]
 rw [if_neg c2]
 by_cases c3 : x ≥ W
 · rw [if_pos c3, if_neg (by omega)]
 rw [if_neg c3]
 by_cases c4 : y ≥ H
 · rw [if_pos c4, if_neg (by omega)]
 rw [if_neg c4]
 have h := b.at_ (x := x) (y := y) (by omega) (by omega) (by omega) (by omega)
 have := b.w
 rw [wrap_id (n := y * W) (by omega) (by omega), wrap_id (n := y * W + x) (by omega) (by omega), if_pos h.2.2.1, if_pos h.2.2.2, if_pos (by omega)]
theorem grid_eq {W H : Int} {P : List Int} (b : Bm W H P) (x y : Int) : refine_grid_at.f W H P x y = some (px W H P x y) := pix_eq b x y
/-- The nine pixels around one, from number i on. -/
def flatF (W H : Int) (P : List Int) (x y c : Int) : Nat → Nat → Int × Bool
 | 0, _ => (c, true)
 | d + 1, i => if px W H P (x + (i : Int) % 3 - 1) (y + (i : Int) / 3 - 1) = c then flatF W H P x y c d (i + 1) else (0, false)
def flatP (W H : Int) (P : List Int) (x y : Int) : Int × Bool := flatF W H P x y (px W H P x y) 9 0
theorem alike_loop {W H : Int} {P : List Int} (b : Bm W H P) (t dx dy : Int) (ty : Bool) (kd x y c : Int) (hx : -100000 ≤ x ∧ x ≤ 100000) (hy : -100000 ≤ y ∧ y ≤ 100000) (hdx : -100000 ≤ dx ∧ dx ≤ 100000) (hdy : -100000 ≤ dy ∧ dy ≤ 100000) :
 ∀ (d i : Nat), d + i = 9 → Ev (fun k => incunableref08_Alike.l0 k x y c (i : Int) t dx dy ty kd W H P) (flatF W H P (x - dx) (y - dy) c d i)
 | 0, i, h => by
   refine ev_succ ?_
   simp only [incunableref08_Alike.l0]
   exact ev_neg (by omega) (Ev.now _)
 | d + 1, i, h => by
   refine ev_succ ?_
   simp only [incunableref08_Alike.l0]
   have e1 : Int.tmod (i : Int) 3 = (i : Int) % 3 := Int.tmod_eq_emod_of_nonneg (by omega)
   have e2 : Int.tdiv (i : Int) 3 = (i : Int) / 3 := Int.tdiv_eq_ediv_of_nonneg (by omega)
   rw [e1, e2]
   refine ev_pos (by omega) ?_
   simp (disch := omega) only [wrap_id]
   refine ev_pure (pix_eq b _ _) ?_
   unfold flatF
   by_cases c1 : px W H P (x - dx + (i : Int) % 3 - 1) (y - dy + (i : Int) / 3 - 1) = c
   · rw [if_pos c1]
     refine ev_pos c1 ?_
     have := alike_loop b t dx dy ty kd x y c hx hy hdx hdy d (i + 1) (by omega)
     rw [show ((i + 1 : Nat) : Int) = (i : Int) + 1 by omega] at this
     exact this
   · rw [if_neg c1]
     exact ev_neg c1 (Ev.now _)
theorem alike_ev {W H : Int} {P : List Int} (b : Bm W H P) (t dx dy : Int) (ty : Bool) (kd x y : Int) (hx : -100000 ≤ x ∧ x ≤ 100000) (hy : -100000 ≤ y ∧ y ≤ 100000) (hdx : -100000 ≤ dx ∧ dx ≤ 100000) (hdy : -100000 ≤ dy ∧ dy ≤ 100000) :
 Ev (fun k => incunableref08_Alike.f k t dx dy ty kd W H P x y) (flatP W H P (x - dx) (y - dy)) := by
 unfold incunableref08_Alike.f flatP
 rw [wrap_id (n := x - dx) (by omega) (by omega), wrap_id (n := y - dy) (by omega) (by omega)]
 exact ev_pure (pix_eq b _ _) (alike_loop b t dx dy ty kd x y _ hx hy hdx hdy 9 0 rfl)
/-- A number of pixels at offsets, behind the number n. -/
def ctxN (W H : Int) (P : List Int) (x y : Int) : List S127 → Int → Int
 | [], n => n
 | d :: l, n => ctxN W H P x y l (2 * n + px W H P (x + d.f0) (y + d.f1))
def near (d : S127) : Prop := (-1 ≤ d.f0 ∧ d.f0 ≤ 1) ∧ -1 ≤ d.f1 ∧ d.f1 ≤ 1
def news (t : Int) : List S127 := if t = 1 then [⟨0, -1⟩, ⟨-1, 0⟩] else [⟨-1, -1⟩, ⟨0, -1⟩, ⟨1, -1⟩, ⟨-1, 0⟩]
def besides : List S127 := [⟨0, 0⟩, ⟨-1, 0⟩, ⟨1, 0⟩, ⟨0, -1⟩, ⟨0, 1⟩]
/-- The context of a pixel. -/
def ctxP (t dx dy W H : Int) (P : List Int) (RW RH : Int) (RP : List Int) (x y : Int) : Int := ctxN RW RH RP (x - dx) (y - dy) besides (ctxN W H P x y (news t) 0)
theorem drop127 {l : List S127} {i : Nat} (h : i < l.length) : l.drop i = rd_T127 l (i : Int) :: l.drop (i + 1) ∧ rd_T127 l (i : Int) ∈ l := by
 have e : rd_T127 l (i : Int) = l[i] := by simp [rd_T127, List.getD_eq_getElem?_getD, List.getElem?_eq_getElem h]
 rw [e]
 exact ⟨List.drop_eq_getElem_cons h, List.getElem_mem h⟩
theorem n_step {n v : Int} {d : Nat} (h0 : 0 ≤ n) (h : (n + 1) * 2 ^ (d + 1) ≤ 1048576) (hv : v = 0 ∨ v = 1) : 0 ≤ 2 * n + v ∧ (2 * n + v + 1) * 2 ^ d ≤ 1048576 ∧ n ≤ 1048576 := by
 have hp : (1 : Int) ≤ 2 ^ d := by have : (0 : Int) < 2 ^ d := Int.pow_pos (by decide); omega
 have e : (n + 1) * 2 ^ (d + 1) = (2 * n + 2) * 2 ^ d := by rw [Int.pow_succ, Int.mul_comm (2 ^ d) 2, ← Int.mul_assoc]; congr 1; omega
 rw [e] at h
 have h3 : (2 * n + 2) * 1 ≤ (2 * n + 2) * 2 ^ d := Int.mul_le_mul_of_nonneg_left hp (by omega)
 have h4 : (2 * n + v + 1) * 2 ^ d ≤ (2 * n + 2) * 2 ^ d := Int.mul_le_mul_of_nonneg_right (by omega) (by omega)
 omega
theorem ctx_l1 {RW RH : Int} {RP : List Int} (b : Bm RW RH RP) (t dx dy : Int) (ty : Bool) (kd x y : Int) (hx : -100000 ≤ x ∧ x ≤ 100000) (hy : -100000 ≤ y ∧ y ≤ 100000) (hdx : -100000 ≤ dx ∧ dx ≤ 100000) (hdy : -100000 ≤ dy ∧ dy ≤ 100000) (L : List S127) (hL : ∀ d ∈ L, near d) (h20 : L.length ≤ 20) :
 ∀ (d i : Nat) (n : Int), i + d = L.length → 0 ≤ n → (n + 1) * 2 ^ d ≤ 1048576 → Ev (fun k => incunableref08_Context.l1 k x y n L (L.length : Int) (i : Int) t dx dy ty kd RW RH RP) (ctxN RW RH RP (x - dx) (y - dy) (L.drop i) n)
 | 0, i, n, h, h0, hn => by
   refine ev_succ ?_
   simp only [incunableref08_Context.l1]
   rw [List.drop_of_length_le (by omega)]
   exact ev_neg (by omega) (Ev.now _)
 | d + 1, i, n, h, h0, hn => by
   obtain ⟨e1, e2⟩ := drop127 (l := L) (i := i) (by omega)
   have hd := hL _ e2
   unfold near at hd
   rw [e1]
   refine ev_succ ?_
   simp only [incunableref08_Context.l1]
   refine ev_pos (by omega) (ev_pos (by omega) (ev_pos (by omega) ?_))
   have hv := px_01 b (x - dx + (rd_T127 L (i : Int)).f0) (y - dy + (rd_T127 L (i : Int)).f1)
   have hs := n_step h0 hn hv
   simp (disch := omega) only [wrap_id]
   refine ev_pure (pix_eq b _ _) ?_
   simp (disch := omega) only [wrap_id]
   have := ctx_l1 b t dx dy ty kd x y hx hy hdx hdy L hL h20 d (i + 1) _ (by omega) hs.1 hs.2.1
   rw [show ((i + 1 : Nat) : Int) = (i : Int) + 1 by omega] at this
   exact this
theorem ctx_l0 {W H RW RH : Int} {P RP : List Int} (b : Bm W H P) (t dx dy : Int) (ty : Bool) (kd x y : Int) (hx : -100000 ≤ x ∧ x ≤ 100000) (hy : -100000 ≤ y ∧ y ≤ 100000) (L : List S127) (hL : ∀ d ∈ L, near d) (h20 : L.length ≤ 20) (r : Int) :
 ∀ (d i : Nat) (n : Int), i + d = L.length → 0 ≤ n → (n + 1) * 2 ^ d ≤ 1048576 → Ev (fun k => incunableref08_Context.l1 k x y (ctxN W H P x y (L.drop i) n) besides (besides.length : Int) 0 t dx dy ty kd RW RH RP) r → Ev (fun k => incunableref08_Context.l0 k x y L n (L.length : Int) (i : Int) t dx dy ty kd W H P RW RH RP) r
 | 0, i, n, h, h0, hn, hr => by
   refine ev_succ ?_
   simp only [incunableref08_Context.l0]
   rw [List.drop_of_length_le (by omega)] at hr
   exact ev_neg (by omega) hr
 | d + 1, i, n, h, h0, hn, hr => by
   obtain ⟨e1, e2⟩ := drop127 (l := L) (i := i) (by omega)
   have hd := hL _ e2
   unfold near at hd
   rw [e1] at hr
   refine ev_succ ?_
   simp only [incunableref08_Context.l0]
   refine ev_pos (by omega) (ev_pos (by omega) (ev_pos (by omega) ?_))
   have hv := px_01 b (x + (rd_T127 L (i : Int)).f0) (y + (rd_T127 L (i : Int)).f1)
   have hs := n_step h0 hn hv
   simp (disch := omega) only [wrap_id]
   refine ev_pure (pix_eq b _ _) ?_
   simp (disch := omega) only [wrap_id]
   have := ctx_l0 (RW := RW) (RH := RH) (RP := RP) b t dx dy ty kd x y hx hy L hL h20 r d (i + 1) _ (by omega) hs.1 hs.2.1 hr
   rw [show ((i + 1 : Nat) : Int) = (i : Int) + 1 by omega] at this
   exact this
theorem ctxN_range {W H : Int} {P : List Int} (b : Bm W H P) (x y : Int) : ∀ (l : List S127) (n : Int), 0 ≤ n → 0 ≤ ctxN W H P x y l n ∧ ctxN W H P x y l n + 1 ≤ (n + 1) * 2 ^ l.length
 | [], n, h => by
   simp only [ctxN, List.length_nil, Int.pow_zero]
   omega
 | d :: l, n, h => by
   have hv := px_01 b (x + d.f0) (y + d.f1)
   have ih := ctxN_range b x y l (2 * n + px W H P (x + d.f0) (y + d.f1)) (by omega)
   simp only [ctxN, List.length_cons]
   refine ⟨ih.1, Int.le_trans ih.2 ?_⟩
   have e : (n + 1) * 2 ^ (l.length + 1) = (2 * n + 2) * 2 ^ l.length := by rw [Int.pow_succ, Int.mul_comm (2 ^ l.length) 2, ← Int.mul_assoc]; congr 1; omega
   rw [e]
   have hp : (0 : Int) < 2 ^ l.length := Int.pow_pos (by decide)
   exact Int.mul_le_mul_of_nonneg_right (by omega) (by omega)
theorem near_news (t : Int) : ∀ d ∈ news t, near d := by
 unfold news near
 split <;> simp
theorem news_len (t : Int) : (news t).length = if t = 1 then 2 else 4 := by unfold news; split <;> rfl
/-- The reference's context. -/
theorem context_ev {W H RW RH : Int} {P RP : List Int} (b : Bm W H P) (br : Bm RW RH RP) (t dx dy : Int) (ty : Bool) (kd x y : Int) (hx : -100000 ≤ x ∧ x ≤ 100000) (hy : -100000 ≤ y ∧ y ≤ 100000) (hdx : -100000 ≤ dx ∧ dx ≤ 100000) (hdy : -100000 ≤ dy ∧ dy ≤ 100000) :
 Ev (fun k => incunableref08_Context.f k t dx dy ty kd W H P RW RH RP x y) (ctxP t dx dy W H P RW RH RP x y) := by
 have hl := news_len t
 have hr := ctxN_range b x y (news t) 0 (Int.le_refl _)
 have h5 : (0 + 1) * (2 : Int) ^ (news t).length ≤ 16 := by rw [hl]; split <;> decide
 have key : ∀ r, Ev (fun k => incunableref08_Context.l1 k x y (ctxN W H P x y (news t) 0) besides (besides.length : Int) 0 t dx dy ty kd RW RH RP) r → Ev (fun k => incunableref08_Context.l0 k x y (news t) 0 ((news t).length : Int) 0 t dx dy ty kd W H P RW RH RP) r := fun r hr2 => ctx_l0 b t dx dy ty kd x y hx hy (news t) (near_news t) (by rw [hl]; split <;> decide) r (news t).length 0 0 (by omega) (Int.le_refl _) (by omega) hr2
 have h1 := key _ (ctx_l1 br t dx dy ty kd x y hx hy hdx hdy besides (by unfold besides near; simp) (by decide) 5 0 _ rfl hr.1 (by have : (2 : Int) ^ 5 = 32 := rfl; omega))
 unfold incunableref08_Context.f
 by_cases c : t = 1
 · refine ev_pos c (ev_succ ?_)
   simp only [incunableref08_Context.j0]
   have e : news t = [⟨0, -1⟩, ⟨-1, 0⟩] := if_pos c
   rw [e] at h1
   unfold ctxP
   rw [e]
   exact h1
 · refine ev_neg c (ev_succ ?_)
   simp only [incunableref08_Context.j0]
   have e : news t = [⟨-1, -1⟩, ⟨0, -1⟩, ⟨1, -1⟩, ⟨-1, 0⟩] := if_neg c
   rw [e] at h1
   unfold ctxP
   rw [e]
   exact h1
/-- Whether each pixel of a row beside nine that are the same is like them, from pixel i on. -/
def rowP (dx dy W H : Int) (P : List Int) (RW RH : Int) (RP : List Int) (y : Int) : Nat → Nat → Bool
 | 0, _ => true
 | d + 1, i => if (flatP RW RH RP ((i : Int) - dx) (y - dy)).2 = true then (if px W H P i y = (flatP RW RH RP ((i : Int) - dx) (y - dy)).1 then rowP dx dy W H P RW RH RP y d (i + 1) else false) else rowP dx dy W H P RW RH RP y d (i + 1)
theorem row_loop {W H RW RH : Int} {P RP : List Int} (b : Bm W H P) (br : Bm RW RH RP) (t dx dy : Int) (ty : Bool) (kd y : Int) (hy : -100000 ≤ y ∧ y ≤ 100000) (hdx : -100000 ≤ dx ∧ dx ≤ 100000) (hdy : -100000 ≤ dy ∧ dy ≤ 100000) :
 ∀ (d i : Nat), ((i + d : Nat) : Int) = W → Ev (fun k => incunableref08_Row.l0 k y (i : Int) t dx dy ty kd W H P RW RH RP) (rowP dx dy W H P RW RH RP y d i)
 | 0, i, h => by
   refine ev_succ ?_
   simp only [incunableref08_Row.l0]
   exact ev_neg (by omega) (Ev.now _)
 | d + 1, i, h => by
   have hw := b.w
   refine ev_succ ?_
   simp only [incunableref08_Row.l0]
   refine ev_pos (by omega) (ev_bind (alike_ev br t dx dy ty kd i y (by omega) hy hdx hdy) ?_)
   have ih := row_loop b br t dx dy ty kd y hy hdx hdy d (i + 1) (by omega)
   rw [show ((i + 1 : Nat) : Int) = (i : Int) + 1 by omega] at ih
   rw [wrap_id (n := (i : Int) + 1) (by omega) (by omega)]
   unfold rowP
   by_cases c : (flatP RW RH RP ((i : Int) - dx) (y - dy)).2 = true
   · rw [if_pos c]
     refine ev_pos c (ev_pure (pix_eq b _ _) ?_)
     by_cases c2 : px W H P i y = (flatP RW RH RP ((i : Int) - dx) (y - dy)).1
     · rw [if_pos c2]
       exact ev_pos c2 ih
     · rw [if_neg c2]
       exact ev_neg c2 (Ev.now _)
   · rw [if_neg c]
     exact ev_neg c ih
theorem row_ev {W H RW RH : Int} {P RP : List Int} (b : Bm W H P) (br : Bm RW RH RP) (t dx dy : Int) (ty : Bool) (kd y : Int) (hy : -100000 ≤ y ∧ y ≤ 100000) (hdx : -100000 ≤ dx ∧ dx ≤ 100000) (hdy : -100000 ≤ dy ∧ dy ≤ 100000) :
 Ev (fun k => incunableref08_Row.f k t dx dy ty kd W H P RW RH RP y) (rowP dx dy W H P RW RH RP y W.toNat 0) := by
 unfold incunableref08_Row.f
 exact row_loop b br t dx dy ty kd y hy hdx hdy W.toNat 0 (by have := b.w; omega)
end Go.Proofs.Ytkfejicdjpffcaa.Rpx
namespace Go.Proofs.Ytkfejicdjpffcaa.Rva
open Go Go.RowKit YtkfejicdjpffcaaW PrintWords PrintLast PrintMore U Aid HandAid Cod1 Cod2 Cod3 Ytkfejicdjpffcaa.Mod Rpx
/-- Options that are such. -/
def okO (t dx dy kd : Int) : Bool := decide ((t = 0 ∨ t = 1) ∧ (kd = 0 ∨ kd = 1) ∧ -200 ≤ dx ∧ dx ≤ 200 ∧ -200 ≤ dy ∧ dy ≤ 200)
theorem okO_iff {t dx dy kd : Int} : okO t dx dy kd = true ↔ ((t = 0 ∨ t = 1) ∧ (kd = 0 ∨ kd = 1) ∧ -200 ≤ dx ∧ dx ≤ 200 ∧ -200 ≤ dy ∧ dy ≤ 200) := by unfold okO; exact decide_eq_true_iff
theorem valid_eq (t dx dy : Int) (ty : Bool) (kd : Int) (hx : -9223372036854775808 ≤ dx ∧ dx ≤ 9223372036854775807) (hy : -9223372036854775808 ≤ dy ∧ dy ≤ 9223372036854775807) : refine_Valid.f t dx dy ty kd = some (okO t dx dy kd) := by
 have key : (if mn dx dy ≥ (-200) then (some (decide ((mx (mx (mx dx (wrap64 (-dx))) dy) (wrap64 (-dy))) ≤ 200))) else some false) = some (decide (-200 ≤ dx ∧ dx ≤ 200 ∧ -200 ≤ dy ∧ dy ≤ 200)) := by
  by_cases c : mn dx dy ≥ (-200)
  · rw [if_pos c]
    have hc : -200 ≤ dx ∧ -200 ≤ dy := by unfold mn at c; split at c <;> omega
    rw [wrap_id (n := -dx) (by omega) (by omega), wrap_id (n := -dy) (by omega) (by omega)]
    congr 1
    rw [decide_eq_decide]
    unfold mx
    (repeat' split) <;> omega
  · rw [if_neg c]
    have hc : ¬ (-200 ≤ dx ∧ -200 ≤ dy) := by unfold mn at c; split at c <;> omega
    congr 1
    exact (decide_eq_false (by omega)).symm
 unfold refine_Valid.f okO
 by_cases h0 : t = 0
 · rw [if_pos h0]
   by_cases k0 : kd = 0
   · rw [if_pos k0, key]; congr 1; rw [decide_eq_decide]; omega
   · rw [if_neg k0]
     by_cases k1 : kd = 1
     · rw [if_pos k1, key]; congr 1; rw [decide_eq_decide]; omega
     · rw [if_neg k1]; congr 1; exact (decide_eq_false (by omega)).symm
 · rw [if_neg h0]
   by_cases h1 : t = 1
   · rw [if_pos h1]
     by_cases k0 : kd = 0
     · rw [if_pos k0, key]; congr 1; rw [decide_eq_decide]; omega
     · rw [if_neg k0]
       by_cases k1 : kd = 1
       · rw [if_pos k1, key]; congr 1; rw [decide_eq_decide]; omega
       · rw [if_neg k1]; congr 1; exact (decide_eq_false (by omega)).symm
   · rw [if_neg h1]; congr 1; exact (decide_eq_false (by omega)).symm
theorem rvalid_eq (t dx dy : Int) (ty : Bool) (kd : Int) : incunableref08_Valid.f t dx dy ty kd = some (okO t dx dy kd) := by
 unfold incunableref08_Valid.f okO
 (repeat' split) <;> (congr 1; first | (rw [decide_eq_decide]; omega) | (refine (decide_eq_false ?_).symm; omega))
/-- Sides that a bitmap may have. -/
def okS (w h : Int) : Bool := decide (0 ≤ w ∧ w ≤ 200 ∧ 0 ≤ h ∧ h ≤ 200 ∧ w * h ≤ 8192)
theorem okS_iff {w h : Int} : okS w h = true ↔ (0 ≤ w ∧ w ≤ 200 ∧ 0 ≤ h ∧ h ≤ 200 ∧ w * h ≤ 8192) := by unfold okS; exact decide_eq_true_iff
theorem area {w h : Int} (h0 : 0 ≤ w) (h1 : w ≤ 200) (h2 : 0 ≤ h) (h3 : h ≤ 200) : 0 ≤ w * h ∧ w * h ≤ 40000 := by
 have a1 : w * h ≤ 200 * h := Int.mul_le_mul_of_nonneg_right h1 h2
 have a2 : 0 ≤ w * h := Int.mul_nonneg h0 h2
 omega
theorem fits2_eq (w h : Int) : bitmap_fits.f w h = some (okS w h) := by
 unfold bitmap_fits.f okS
 by_cases c0 : w ≥ 0
 · by_cases c1 : h ≥ 0
   · by_cases c2 : w ≤ 200
     · by_cases c3 : h ≤ 200
       · have := area c0 c2 c1 c3
         rw [if_pos c0, if_pos c1, if_pos c2, if_pos c3, wrap_id (n := w * h) (by omega) (by omega)]
         congr 1; rw [decide_eq_decide]; omega
       · rw [if_pos c0, if_pos c1, if_pos c2, if_neg c3]; congr 1; exact (decide_eq_false (by omega)).symm
     · rw [if_pos c0, if_pos c1, if_neg c2]; congr 1; exact (decide_eq_false (by omega)).symm
   · rw [if_pos c0, if_neg c1]; congr 1; exact (decide_eq_false (by omega)).symm
 · rw [if_neg c0]; congr 1; exact (decide_eq_false (by omega)).symm
theorem issize_eq (w h : Int) : incunableref06_IsSize.f w h = some (okS w h) := by
 unfold incunableref06_IsSize.f okS
 by_cases c0 : w ≥ 0
 · by_cases c2 : w ≤ 200
   · by_cases c1 : h ≥ 0
     · by_cases c3 : h ≤ 200
       · have := area c0 c2 c1 c3
         rw [if_pos c0, if_pos c2, if_pos c1, if_pos c3, wrap_id (n := w * h) (by omega) (by omega)]
         congr 1; rw [decide_eq_decide]; omega
       · rw [if_pos c0, if_pos c2, if_pos c1, if_neg c3]; congr 1; exact (decide_eq_false (by omega)).symm
     · rw [if_pos c0, if_pos c2, if_neg c1]; congr 1; exact (decide_eq_false (by omega)).symm
   · rw [if_pos c0, if_neg c2]; congr 1; exact (decide_eq_false (by omega)).symm
 · rw [if_neg c0]; congr 1; exact (decide_eq_false (by omega)).symm
/-- Pixels that are such. -/
def okP (P : List Int) : Bool := P.all (fun v => decide (v ≤ 1))
/-- A bitmap that is one. -/
def okB (W H : Int) (P : List Int) : Bool := okS W H && decide ((P.length : Int) = W * H) && okP P
theorem okB_bm {W H : Int} {P : List Int} (hb : Bytes P) (h : okB W H P = true) : Bm W H P ∧ W * H ≤ 8192 := by
 unfold okB at h
 rw [Bool.and_eq_true, Bool.and_eq_true, okS_iff, decide_eq_true_iff] at h
 obtain ⟨⟨hs, hl⟩, hp⟩ := h
 refine ⟨⟨by omega, by omega, hl, fun v hv => ?_⟩, by omega⟩
 unfold okP at hp
 have h1 := List.all_eq_true.1 hp v hv
 have h2 := hb v hv
 have h3 := of_decide_eq_true h1
 omega
theorem okP_cons (v : Int) (l : List Int) : okP (v :: l) = (decide (v ≤ 1) && okP l) := rfl
theorem isrow_ev (P : List Int) (hn : P.length ≤ 9223372036854775807) : ∀ (d i : Nat), i + d = P.length → Ev (fun k => incunableref06_IsRow.l0 k P (P.length : Int) (i : Int)) (okP (P.drop i))
 | 0, i, h => by
   refine ev_succ ?_
   simp only [incunableref06_IsRow.l0]
   rw [List.drop_of_length_le (by omega)]
   exact ev_neg (by omega) (Ev.now _)
 | d + 1, i, h => by
   have e := drop_rd (l := P) (i := i) (by omega)
   rw [e, okP_cons]
   refine ev_succ ?_
   simp only [incunableref06_IsRow.l0]
   refine ev_pos (by omega) (ev_pos (by omega) (ev_pos (by omega) ?_))
   by_cases c : rd P (i : Int) > 1
   · rw [decide_eq_false (by omega), Bool.false_and]
     exact ev_pos c (Ev.now _)
   · rw [decide_eq_true (by omega), Bool.true_and]
     refine ev_neg c ?_
     have := isrow_ev P hn d (i + 1) (by omega)
     rw [show ((i + 1 : Nat) : Int) = (i : Int) + 1 by omega] at this
     rw [wrap_id (n := (i : Int) + 1) (by omega) (by omega)]
     exact this
theorem brow_ev (P : List Int) (hn : P.length ≤ 9223372036854775807) : ∀ (d i : Nat), i + d = P.length → Ev (fun k => bitmap_Valid.l0 k P (P.length : Int) (i : Int)) (okP (P.drop i))
 | 0, i, h => by
   refine ev_succ ?_
   simp only [bitmap_Valid.l0]
   rw [List.drop_of_length_le (by omega)]
   exact ev_neg (by omega) (Ev.now _)
 | d + 1, i, h => by
   have e := drop_rd (l := P) (i := i) (by omega)
   rw [e, okP_cons]
   refine ev_succ ?_
   simp only [bitmap_Valid.l0]
   refine ev_pos (by omega) (ev_pos (by omega) (ev_pos (by omega) ?_))
   by_cases c : rd P (i : Int) > 1
   · rw [decide_eq_false (by omega), Bool.false_and]
     exact ev_pos c (Ev.now _)
   · rw [decide_eq_true (by omega), Bool.true_and]
     refine ev_neg c ?_
     have := brow_ev P hn d (i + 1) (by omega)
     rw [show ((i + 1 : Nat) : Int) = (i : Int) + 1 by omega] at this
     rw [wrap_id (n := (i : Int) + 1) (by omega) (by omega)]
     exact this
theorem bvalid_ev (W H : Int) (P : List Int) (hn : P.length ≤ 9223372036854775807) : Ev (fun k => bitmap_Valid.f k W H P) (okB W H P) := by
 unfold bitmap_Valid.f okB
 rw [fits2_eq]
 refine ev_some ?_
 by_cases c : okS W H = true
 · rw [c, Bool.true_and]
   have hs := okS_iff.1 c
   have := area hs.1 hs.2.1 hs.2.2.1 hs.2.2.2.1
   rw [wrap_id (n := W * H) (by omega) (by omega)]
   refine ev_pos rfl (ev_succ ?_)
   simp only [bitmap_Valid.j0]
   by_cases c2 : (P.length : Int) = W * H
   · rw [decide_eq_true c2, Bool.true_and]
     refine ev_neg (by simp [c2]) ?_
     exact brow_ev P hn P.length 0 (by omega)
   · rw [decide_eq_false c2, Bool.false_and]
     exact ev_pos (by simp [c2]) (Ev.now _)
 · have c' : okS W H = false := by simpa using c
   rw [c', Bool.false_and, Bool.false_and]
   refine ev_neg (by decide) (ev_succ ?_)
   simp only [bitmap_Valid.j0]
   exact ev_pos (by trivial) (Ev.now _)
theorem isbitmap_ev (W H : Int) (P : List Int) (hn : P.length ≤ 9223372036854775807) : Ev (fun k => incunableref06_IsBitmap.f k W H P) (okB W H P) := by
 unfold incunableref06_IsBitmap.f okB
 rw [issize_eq]
 refine ev_some ?_
 by_cases c : okS W H = true
 · rw [c, Bool.true_and]
   have hs := okS_iff.1 c
   have := area hs.1 hs.2.1 hs.2.2.1 hs.2.2.2.1
   rw [wrap_id (n := W * H) (by omega) (by omega)]
   refine ev_pos rfl ?_
   by_cases c2 : (P.length : Int) = W * H
   · rw [decide_eq_true c2, Bool.true_and]
     refine ev_pos c2 (ev_bind (isrow_ev P hn P.length 0 (by omega)) (Ev.now _))
   · rw [decide_eq_false c2, Bool.false_and]
     exact ev_neg c2 (Ev.now _)
 · have c' : okS W H = false := by simpa using c
   rw [c', Bool.false_and, Bool.false_and]
   exact ev_neg (by decide) (Ev.now _)
theorem new_loop (n : Nat) (hn : n ≤ 40000) (W H : Int) : ∀ (d i : Nat), i + d = n → Ev (fun k => bitmap_New.l0 k 0 0 (n : Int) (i : Int) W H (List.replicate n 0)) (W, H, List.replicate n 0, 0)
 | 0, i, h => by
   refine ev_succ ?_
   simp only [bitmap_New.l0]
   exact ev_neg (by omega) (Ev.now _)
 | d + 1, i, h => by
   refine ev_succ ?_
   simp only [bitmap_New.l0, List.length_replicate]
   refine ev_pos (by omega) (ev_pos (by omega) (ev_pos (by omega) ?_))
   have e : (List.replicate n (0 : Int)).set ((i : Int).toNat) (0 % 256) = List.replicate n 0 := by
    apply List.ext_getElem
    · simp
    · intro j h1 h2
      rw [List.getElem_set]
      split <;> simp
   rw [e, wrap_id (n := (i : Int) + 1) (by omega) (by omega)]
   have := new_loop n hn W H d (i + 1) (by omega)
   rw [show ((i + 1 : Nat) : Int) = (i : Int) + 1 by omega] at this
   exact this
theorem bnew_ev (w h : Int) : ∃ r : Int × Int × List Int × Int, Ev (fun k => bitmap_New.f k w h 0) r ∧ r.2.2.2 = if okS w h = true then 0 else if w < 0 ∨ h < 0 then 2 else 4 := by
 by_cases c0 : w < 0
 · refine ⟨(0, 0, [], 2), ?_, ?_⟩
   · unfold bitmap_New.f
     refine ev_pos c0 (ev_succ ?_)
     simp only [bitmap_New.j0]
     exact ev_pos (by trivial) (Ev.now _)
   · rw [if_neg (by rw [okS_iff]; omega), if_pos (.inl c0)]
 by_cases c1 : h < 0
 · refine ⟨(0, 0, [], 2), ?_, ?_⟩
   · unfold bitmap_New.f
     refine ev_neg c0 (ev_pos c1 (ev_succ ?_))
     simp only [bitmap_New.j0]
     exact ev_pos (by trivial) (Ev.now _)
   · rw [if_neg (by rw [okS_iff]; omega), if_pos (.inr c1)]
 by_cases c : okS w h = true
 · have hs := okS_iff.1 c
   have ha := area hs.1 hs.2.1 hs.2.2.1 hs.2.2.2.1
   refine ⟨(w, h, List.replicate (w * h).toNat 0, 0), ?_, by rw [if_pos c]⟩
   unfold bitmap_New.f
   refine ev_neg c0 (ev_neg c1 (ev_pos rfl (ev_succ ?_)))
   simp only [bitmap_New.j0]
   refine ev_neg (by decide) ?_
   have hbl : bitmap_blank.f w h = some (w, h, List.replicate (w * h).toNat 0, 0) := by
    unfold bitmap_blank.f
    rw [fits2_eq, c, wrap_id (n := w * h) (by omega) (by omega)]
    simp only [Option.bind_some, if_true]
    rw [if_pos (by omega), if_pos (by omega)]
   refine ev_pure hbl ?_
   have := new_loop (w * h).toNat (by omega) w h (w * h).toNat 0 (by omega)
   simpa using this
 · refine ⟨(0, 0, [], 4), ?_, by rw [if_neg c, if_neg (by omega)]⟩
   have c' : okS w h = false := by simpa using c
   unfold bitmap_New.f
   refine ev_neg c0 (ev_neg c1 (ev_pos rfl (ev_succ ?_)))
   simp only [bitmap_New.j0]
   refine ev_neg (by decide) ?_
   have hbl : bitmap_blank.f w h = some (0, 0, [], 4) := by
    unfold bitmap_blank.f
    rw [fits2_eq, c']
    rfl
   refine ev_pure hbl (ev_succ ?_)
   simp only [bitmap_New.l0]
   exact ev_neg (by simp) (Ev.now _)
/-- How many contexts there are, without the last one. -/
def ctxs (t : Int) : Int := if t = 0 then 512 else 128
theorem contexts_eq (t : Int) : refine_contexts.f t = some (ctxs t) := by
 unfold refine_contexts.f refine_fresh.f ctxs
 split <;> rfl
theorem size_eq (t : Int) : incunableref08_size.f t = some (ctxs t + 1) := by
 unfold incunableref08_size.f ctxs
 split <;> rfl
theorem ctxs_range (t : Int) : 128 ≤ ctxs t ∧ ctxs t ≤ 512 := by unfold ctxs; split <;> decide
/-- Whether n states have the contexts from a base on. -/
def okF (n : Nat) (base t : Int) : Bool := decide (0 ≤ base ∧ base + ctxs t + 1 ≤ n)
theorem okF_iff {n : Nat} {base t : Int} : okF n base t = true ↔ (0 ≤ base ∧ base + ctxs t + 1 ≤ n) := by unfold okF; exact decide_eq_true_iff
theorem asked_eq (t dx dy : Int) (ty : Bool) (kd : Int) (right : Bool) (base kind : Int) (st : List Int) (hn : st.length ≤ 8192) : incunableref08_asked.f t dx dy ty kd right base kind st = some (if okO t dx dy kd = true then (if right = true then (if okF st.length base t = true then 0 else 2) else 30) else 2) := by
 have hr := ctxs_range t
 unfold incunableref08_asked.f
 rw [rvalid_eq]
 simp only [Option.bind_some]
 by_cases c : okO t dx dy kd = true
 · rw [if_pos c, if_pos c]
   by_cases c2 : right = true
   · rw [if_pos c2, if_pos c2]
     by_cases c3 : base < 0
     · rw [if_pos c3, if_neg (by rw [okF_iff]; omega)]
     · rw [if_neg c3, size_eq]
       simp only [Option.bind_some]
       rw [wrap_id (n := (st.length : Int) - (ctxs t + 1)) (by omega) (by omega)]
       by_cases c4 : base > (st.length : Int) - (ctxs t + 1)
       · rw [if_pos c4, if_neg (by rw [okF_iff]; omega)]
       · rw [if_neg c4, if_pos (by rw [okF_iff]; omega)]
   · rw [if_neg c2, if_neg c2]
 · rw [if_neg c, if_neg c]
theorem model_eq (t dx dy : Int) (ty : Bool) (kd : Int) (h : okO t dx dy kd = true) : refine_model.f t dx dy ty kd = some (kd, List.replicate (ctxs t + 1).toNat 0) := by
 have hr := ctxs_range t
 have hk := (okO_iff.1 h).2.1
 unfold refine_model.f
 rw [contexts_eq]
 simp only [Option.bind_some]
 rw [wrap_id (n := ctxs t + 1) (by omega) (by omega), new_eq]
 unfold newModel
 rw [if_pos ⟨hk, by omega, by omega⟩]
 rfl
theorem same_loop (W H : Int) (P : List Int) (W2 H2 : Int) (P2 : List Int) (hl : P.length = P2.length) (he : P = P2) (hn : P.length ≤ 9223372036854775807) : ∀ (d i : Nat), i + d = P.length → Ev (fun k => incunableref06_SameBitmap.l0 k (P.length : Int) (i : Int) W H P W2 H2 P2) true
 | 0, i, h => by
   refine ev_succ ?_
   simp only [incunableref06_SameBitmap.l0]
   exact ev_neg (by omega) (Ev.now _)
 | d + 1, i, h => by
   refine ev_succ ?_
   simp only [incunableref06_SameBitmap.l0]
   refine ev_pos (by omega) (ev_pos (by omega) (ev_pos (by omega) (ev_pos (by omega) (ev_pos (by rw [he]) ?_))))
   rw [wrap_id (n := (i : Int) + 1) (by omega) (by omega)]
   have := same_loop W H P W2 H2 P2 hl he hn d (i + 1) (by omega)
   rw [show ((i + 1 : Nat) : Int) = (i : Int) + 1 by omega] at this
   exact this
theorem same_ev (W H : Int) (P : List Int) (hn : P.length ≤ 9223372036854775807) : Ev (fun k => incunableref06_SameBitmap.f k W H P W H P) true := by
 unfold incunableref06_SameBitmap.f
 refine ev_pos rfl (ev_pos rfl (ev_succ ?_))
 simp only [incunableref06_SameBitmap.j0]
 refine ev_neg (by simp) ?_
 exact same_loop W H P W H P rfl rfl hn P.length 0 (by omega)
theorem psize_eq (t : Int) : refine_Size.f t = some (if t = 0 ∨ t = 1 then (ctxs t + 1, 0) else (0, 2)) := by
 have hr := ctxs_range t
 unfold refine_Size.f
 rw [contexts_eq]
 simp only [Option.bind_some]
 rw [wrap_id (n := ctxs t + 1) (by omega) (by omega)]
 by_cases h0 : t = 0
 · rw [if_pos h0, if_pos (.inl h0)]
 · by_cases h1 : t = 1
   · rw [if_neg h0, if_pos h1, if_pos (.inr h1)]
   · rw [if_neg (by omega : ¬ (t = 0 ∨ t = 1))]
     simp [h0, h1]
end Go.Proofs.Ytkfejicdjpffcaa.Rva
namespace Go.Proofs.Ytkfejicdjpffcaa.Rfl
open Go Go.RowKit YtkfejicdjpffcaaW PrintWords PrintLast PrintMore U Aid HandAid Mods Rpx
/-- A region's cells. -/
def regc (t dx dy : Int) (ty : Bool) (kd W H : Int) (vb : Value) (RW RH : Int) (vr : Value) : Array Value := #[.int .i64 t, .int .i64 dx, .int .i64 dy, .bool ty, .int .i64 kd, .int .i64 W, .int .i64 H, vb, .int .i64 RW, .int .i64 RH, vr]
set_option maxHeartbeats 2000000 in
set_option maxRecDepth 100000 in
theorem flat_calls (w : World) (g : Nat) (t dx dy : Int) (ty : Bool) (kd W H : Int) (vb : Value) (RW RH : Int) (AR : Option Addr) (cR : Nat) (RP : List Int) (x y : Int) (hZ : w.heap[g]? = some (.cells (regc t dx dy ty kd W H vb RW RH (.slice AR RP.length cR)) 109 (0, 0))) (hC : Kd.C (Kd.int .u8) w AR RP.length RP) (hcR : RP.length ≤ cR) (b : Bm RW RH RP) (hx : -100000 ≤ x ∧ x ≤ 100000) (hy : -100000 ≤ y ∧ y ≤ 100000) (hdx : -100000 ≤ dx ∧ dx ≤ 100000) (hdy : -100000 ≤ dy ∧ dy ≤ 100000) :
 Calls Try.prog 60 #[.pointer (some ⟨g, 0, none⟩), .int .i64 x, .int .i64 y] w fun e w' => e = .returned (.tuple #[.int .u8 (flatP RW RH RP (x - dx) (y - dy)).1, .bool (flatP RW RH RP (x - dx) (y - dy)).2]) ∧ Below w.heap.size w w' := by
 have HZ := Za hZ
 have HCR := Za hC
 have hbm := Za b
 have HG := Za (show ∀ (W : World), Below w.heap.size w W → ∀ (a b2 a' b' : Int), a' = a → b' = b2 → Calls Try.prog 62 #[.agg #[.int .i64 RW, .int .i64 RH, .slice AR RP.length cR], .int .i64 a', .int .i64 b'] W fun e W' => e = .returned (.int .u8 (px RW RH RP a b2)) ∧ Below W.heap.size W W' from fun W hb a b2 a' b' ea eb => by subst ea eb; exact refine_grid_at.calls RW RH AR cR RP _ _ _ _ (Kd.C_below hC hb) hcR (grid_eq b _ _))
 have hu1 := Try.underlying109
 have hu2 := Try.underlying107
 have hu3 := Try.underlying23
 clear hZ hC b
 obtain ⟨⟨Rc, Rb⟩, hR⟩ : ∃ r, flatP RW RH RP (x - dx) (y - dy) = r := ⟨_, rfl⟩
 rw [hR]
 unfold flatP at hR
 go_enter Try.func60, Try.ntmps60
 go_wp2_with (fail)
 have HB0 := Za (below_drew (Below.refl w.heap.size w))
 refine start_ (n := 20) (S := fun w' => w'.cell? ⟨g, 8, none⟩ = some (.int .i64 RW) ∧ w'.cell? ⟨g, 9, none⟩ = some (.int .i64 RH) ∧ w'.cell? ⟨g, 10, none⟩ = some (.slice AR RP.length cR) ∧ w'.cell? ⟨g, 1, none⟩ = some (.int .i64 dx) ∧ w'.cell? ⟨g, 2, none⟩ = some (.int .i64 dy)) (ds := []) (B' 20 0) (by kernel_rfl) rfl rfl ⟨(Zc (Zd HZ.out HB0.out) 8).trans rfl, (Zc (Zd HZ.out HB0.out) 9).trans rfl, (Zc (Zd HZ.out HB0.out) 10).trans rfl, (Zc (Zd HZ.out HB0.out) 1).trans rfl, (Zc (Zd HZ.out HB0.out) 2).trans rfl⟩ (fun hHeld => ?_)
 refine u' 0 10 (B' 20 1) ?_ rfl rfl ?_ ?_ ?_ ?_; rotate_left; (intro w'; go_simp; with_reducible rfl); rotate_left; (simp only [Act.put, p1', p2', p3', w1', w2']; rfl)
 refine u' 1 11 (B' 20 3) ?_ rfl rfl ?_ ?_ ?_ ?_; rotate_left; (intro w'; go_simp; with_reducible rfl); rotate_left; (simp only [Act.put, p1', p2', p3', w1', w2']; rfl)
 refine u' 2 12 (B' 20 7) ?_ rfl rfl ?_ ?_ ?_ ?_; rotate_left; (intro w'; go_simp; with_reducible rfl); rotate_left; (simp only [Act.put, p1', p2', p3', w1', w2']; rfl)
 refine u' 4 14 (B' 20 23) ?_ rfl rfl ?_ ?_ ?_ ?_; rotate_left; (intro w'; go_simp; with_reducible rfl); rotate_left; (simp only [Act.put, p1', p2', p3', w1', w2']; rfl)
 refine u' 5 15 (B' 20 55) ?_ rfl rfl ?_ ?_ ?_ ?_; rotate_left; (intro w'; go_simp; with_reducible rfl); rotate_left; (simp only [Act.put, p1', p2', p3', w1', w2']; rfl)
 refine u' 6 16 (B' 20 119) ?_ rfl rfl ?_ ?_ ?_ ?_; rotate_left; (intro w'; go_simp; with_reducible rfl); rotate_left; (simp only [Act.put, p1', p2', p3', w1', w2']; rfl)
 refine u' 7 17 (B' 20 247) ?_ rfl rfl ?_ ?_ ?_ ?_; rotate_left; (intro w'; go_simp; with_reducible rfl); rotate_left; (simp only [Act.put, p1', p2', p3', w1', w2']; rfl)
 refine u' 8 18 (B' 20 503) ?_ rfl rfl ?_ ?_ ?_ ?_; rotate_left; (intro w'; go_simp; with_reducible rfl); rotate_left; (simp only [Act.put, p1', p2', p3', w1', w2']; rfl)
 refine u' 11 21 (B' 20 2551) ?_ rfl rfl ?_ ?_ ?_ ?_; rotate_left; (intro w'; go_simp; with_reducible rfl); rotate_left; (simp only [Act.put, p1', p2', p3', w1', w2']; rfl)
 refine u' 12 22 (B' 20 6647) ?_ rfl rfl ?_ ?_ ?_ ?_; rotate_left; (intro w'; go_simp; with_reducible rfl); rotate_left; (simp only [Act.put, p1', p2', p3', w1', w2']; rfl)
 refine u' 13 23 (B' 20 14839) ?_ rfl rfl ?_ ?_ ?_ ?_; rotate_left; (intro w'; go_simp; with_reducible rfl); rotate_left; (simp only [Act.put, p1', p2', p3', w1', w2']; rfl)
 refine u' 14 24 (B' 20 31223) ?_ rfl rfl ?_ ?_ ?_ ?_; rotate_left; (intro w'; go_simp; with_reducible rfl); rotate_left; (simp only [Act.put, p1', p2', p3', w1', w2']; rfl)
 refine u' 15 25 (B' 20 63991) ?_ rfl rfl ?_ ?_ ?_ ?_; rotate_left; (intro w'; go_simp; with_reducible rfl); rotate_left; (simp only [Act.put, p1', p2', p3', w1', w2']; rfl)
 refine t' 3 13 (B' 20 63999) ?_ rfl rfl ?_ hHeld ?_ ?_ ?_; rotate_left; (rintro w' ⟨s0, s1, s2, s3, s4⟩; go_simp; with_reducible rfl); rotate_left; (simp only [Act.put, p1', p2', p3', w1', w2']; rfl)
 refine t' 9 19 (B' 20 64511) ?_ rfl rfl ?_ hHeld ?_ ?_ ?_; rotate_left; (rintro w' ⟨s0, s1, s2, s3, s4⟩; go_simp; with_reducible rfl); rotate_left; (simp only [Act.put, p1', p2', p3', w1', w2']; rfl)
 refine u' 10 20 (B' 20 65535) ?_ rfl rfl ?_ ?_ ?_ ?_; rotate_left; (intro w'; go_simp; with_reducible rfl); rotate_left; (simp only [Act.put, p1', p2', p3', w1', w2']; rfl)
 refine t' 16 26 (B' 20 131071) ?_ rfl rfl ?_ hHeld ?_ ?_ ?_; rotate_left; (rintro w' ⟨s0, s1, s2, s3, s4⟩; go_simp; with_reducible rfl); rotate_left; (simp only [Act.put, p1', p2', p3', w1', w2']; rfl)
 refine u' 17 27 (B' 20 262143) ?_ rfl rfl ?_ ?_ ?_ ?_; rotate_left; (intro w'; go_simp; with_reducible rfl); rotate_left; (simp only [Act.put, p1', p2', p3', w1', w2']; rfl)
 refine one_ (i := 18) (N := some 28) (B' 20 524287) rfl rfl (by kernel_rfl) (by decide) (fun K hK => ?_)
 refine goes_ Try.func62 (by kernel_rfl) rfl #[.agg #[.int .i64 RW, .int .i64 RH, .slice AR RP.length cR], .int .i64 (wrap64 (x - dx)), .int .i64 (wrap64 (y - dy))] (by rfl) rfl rfl (by simp only [List.map_toArray, List.map_cons, List.map_nil]; rfl) ?_
 with_reducible refine (HG.out _ HB0.out _ _ _ _ (by rw [wrap_id] <;> omega) (by rw [wrap_id] <;> omega)).mono ?_
 rintro e W1 ⟨rfl, hb⟩
 refine ⟨_, rfl, ?_⟩
 have HB1 := Za (below_then HB0.out HB0.out.size hb)
 clear hb
 refine hK.out _ _ ⟨(Zc (Zd HZ.out HB1.out) 8).trans rfl, (Zc (Zd HZ.out HB1.out) 9).trans rfl, (Zc (Zd HZ.out HB1.out) 10).trans rfl, (Zc (Zd HZ.out HB1.out) 1).trans rfl, (Zc (Zd HZ.out HB1.out) 2).trans rfl⟩ (fun hHeld => ?_)
 clear hK K
 refine n' ?_ ?_ ?_; rotate_left; (show Act.put _ (some 28) _ = _; simp only [Act.put, p1', p2', p3', w1', w2']; rfl)
 refine u' 19 8 (B' 20 1048575) ?_ rfl rfl ?_ ?_ ?_ ?_; rotate_left; (intro w'; go_simp; with_reducible rfl); rotate_left; (simp only [Act.put, p1', p2', p3', w1', w2']; rfl)
 refine done_ (by kernel_rfl) ?_
 obtain ⟨c, hc⟩ : ∃ c, px RW RH RP (x - dx) (y - dy) = c := ⟨_, rfl⟩
 rw [hc] at hR ⊢
 go_wp2_with (fail)
 go_loopw [29] (fun i wr => ∃ k : Nat, k ≤ 9 ∧ i = .int .i64 k ∧ flatF RW RH RP (x - dx) (y - dy) c (9 - k) k = (Rc, Rb) ∧ Aside0 (Below w.heap.size w wr)) (fun i _ => 9 - (intOf i).toNat)
 case atStart => exact ⟨0, by omega, rfl, hR, HB1⟩
 case round =>
  obtain ⟨k, hk, rfl, hF, HB2⟩ := hrel
  by_cases hlt : k < 9
  · have hltk : (k : Int) < 9 := by omega
    go_wp2_with (fail)
    have HB3 := Za (b3' HB2.out)
    refine start_ (n := 29) (S := fun w' => w'.cell? ⟨g, 8, none⟩ = some (.int .i64 RW) ∧ w'.cell? ⟨g, 9, none⟩ = some (.int .i64 RH) ∧ w'.cell? ⟨g, 10, none⟩ = some (.slice AR RP.length cR) ∧ w'.cell? ⟨g, 1, none⟩ = some (.int .i64 dx) ∧ w'.cell? ⟨g, 2, none⟩ = some (.int .i64 dy)) (ds := []) (B' 29 0) (by kernel_rfl) rfl rfl ⟨(Zc (Zd HZ.out HB3.out) 8).trans rfl, (Zc (Zd HZ.out HB3.out) 9).trans rfl, (Zc (Zd HZ.out HB3.out) 10).trans rfl, (Zc (Zd HZ.out HB3.out) 1).trans rfl, (Zc (Zd HZ.out HB3.out) 2).trans rfl⟩ (fun hHeld => ?_)
    refine u' 0 32 (B' 29 1) ?_ rfl rfl ?_ ?_ ?_ ?_; rotate_left; (intro w'; go_simp; with_reducible rfl); rotate_left; (simp only [Act.put, p1', p2', p3', w1', w2']; rfl)
    refine u' 1 33 (B' 29 3) ?_ rfl rfl ?_ ?_ ?_ ?_; rotate_left; (intro w'; go_simp; with_reducible rfl); rotate_left; (simp only [Act.put, p1', p2', p3', w1', w2']; rfl)
    refine u' 2 34 (B' 29 7) ?_ rfl rfl ?_ ?_ ?_ ?_; rotate_left; (intro w'; go_simp; with_reducible rfl); rotate_left; (simp only [Act.put, p1', p2', p3', w1', w2']; rfl)
    refine u' 4 36 (B' 29 23) ?_ rfl rfl ?_ ?_ ?_ ?_; rotate_left; (intro w'; go_simp; with_reducible rfl); rotate_left; (simp only [Act.put, p1', p2', p3', w1', w2']; rfl)
    refine u' 5 37 (B' 29 55) ?_ rfl rfl ?_ ?_ ?_ ?_; rotate_left; (intro w'; go_simp; with_reducible rfl); rotate_left; (simp only [Act.put, p1', p2', p3', w1', w2']; rfl)
    refine u' 6 38 (B' 29 119) ?_ rfl rfl ?_ ?_ ?_ ?_; rotate_left; (intro w'; go_simp; with_reducible rfl); rotate_left; (simp only [Act.put, p1', p2', p3', w1', w2']; rfl)
    refine u' 7 39 (B' 29 247) ?_ rfl rfl ?_ ?_ ?_ ?_; rotate_left; (intro w'; go_simp; with_reducible rfl); rotate_left; (simp only [Act.put, p1', p2', p3', w1', w2']; rfl)
    refine u' 8 40 (B' 29 503) ?_ rfl rfl ?_ ?_ ?_ ?_; rotate_left; (intro w'; go_simp; with_reducible rfl); rotate_left; (simp only [Act.put, p1', p2', p3', w1', w2']; rfl)
    refine u' 11 43 (B' 29 2551) ?_ rfl rfl ?_ ?_ ?_ ?_; rotate_left; (intro w'; go_simp; with_reducible rfl); rotate_left; (simp only [Act.put, p1', p2', p3', w1', w2']; rfl)
    refine u' 12 44 (B' 29 6647) ?_ rfl rfl ?_ ?_ ?_ ?_; rotate_left; (intro w'; go_simp; with_reducible rfl); rotate_left; (simp only [Act.put, p1', p2', p3', w1', w2']; rfl)
    refine u' 15 47 (B' 29 39415) ?_ rfl rfl ?_ ?_ ?_ ?_; rotate_left; (intro w'; go_simp; with_reducible rfl); rotate_left; (simp only [Act.put, p1', p2', p3', w1', w2']; rfl)
    refine u' 16 48 (B' 29 104951) ?_ rfl rfl ?_ ?_ ?_ ?_; rotate_left; (intro w'; go_simp; with_reducible rfl); rotate_left; (simp only [Act.put, p1', p2', p3', w1', w2']; rfl)
    refine u' 17 49 (B' 29 236023) ?_ rfl rfl ?_ ?_ ?_ ?_; rotate_left; (intro w'; go_simp; with_reducible rfl); rotate_left; (simp only [Act.put, p1', p2', p3', w1', w2']; rfl)
    refine u' 18 50 (B' 29 498167) ?_ rfl rfl ?_ ?_ ?_ ?_; rotate_left; (intro w'; go_simp; with_reducible rfl); rotate_left; (simp only [Act.put, p1', p2', p3', w1', w2']; rfl)
    refine u' 19 51 (B' 29 1022455) ?_ rfl rfl ?_ ?_ ?_ ?_; rotate_left; (intro w'; go_simp; with_reducible rfl); rotate_left; (simp only [Act.put, p1', p2', p3', w1', w2']; rfl)
    refine u' 22 54 (B' 29 5216759) ?_ rfl rfl ?_ ?_ ?_ ?_; rotate_left; (intro w'; go_simp; with_reducible rfl); rotate_left; (simp only [Act.put, p1', p2', p3', w1', w2']; rfl)
    refine u' 23 55 (B' 29 13605367) ?_ rfl rfl ?_ ?_ ?_ ?_; rotate_left; (intro w'; go_simp; with_reducible rfl); rotate_left; (simp only [Act.put, p1', p2', p3', w1', w2']; rfl)
    refine u' 27 59 (B' 29 147823095) ?_ rfl rfl ?_ ?_ ?_ ?_; rotate_left; (intro w'; go_simp; with_reducible rfl); rotate_left; (simp only [Act.put, p1', p2', p3', w1', w2']; rfl)
    refine t' 3 35 (B' 29 147823103) ?_ rfl rfl ?_ hHeld ?_ ?_ ?_; rotate_left; (rintro w' ⟨s0, s1, s2, s3, s4⟩; go_simp; with_reducible rfl); rotate_left; (simp only [Act.put, p1', p2', p3', w1', w2']; rfl)
    refine t' 9 41 (B' 29 147823615) ?_ rfl rfl ?_ hHeld ?_ ?_ ?_; rotate_left; (rintro w' ⟨s0, s1, s2, s3, s4⟩; go_simp; with_reducible rfl); rotate_left; (simp only [Act.put, p1', p2', p3', w1', w2']; rfl)
    refine u' 10 42 (B' 29 147824639) ?_ rfl rfl ?_ ?_ ?_ ?_; rotate_left; (intro w'; go_simp; with_reducible rfl); rotate_left; (simp only [Act.put, p1', p2', p3', w1', w2']; rfl)
    refine u' 13 45 (B' 29 147832831) ?_ rfl rfl ?_ ?_ ?_ ?_; rotate_left; (intro w'; go_simp; with_reducible rfl); rotate_left; (simp only [Act.put, p1', p2', p3', w1', w2']; rfl)
    refine u' 14 46 (B' 29 147849215) ?_ rfl rfl ?_ ?_ ?_ ?_; rotate_left; (intro w'; go_simp; with_reducible rfl); rotate_left; (simp only [Act.put, p1', p2', p3', w1', w2']; rfl)
    refine t' 20 52 (B' 29 148897791) ?_ rfl rfl ?_ hHeld ?_ ?_ ?_; rotate_left; (rintro w' ⟨s0, s1, s2, s3, s4⟩; go_simp; with_reducible rfl); rotate_left; (simp only [Act.put, p1', p2', p3', w1', w2']; rfl)
    refine u' 21 53 (B' 29 150994943) ?_ rfl rfl ?_ ?_ ?_ ?_; rotate_left; (intro w'; go_simp; with_reducible rfl); rotate_left; (simp only [Act.put, p1', p2', p3', w1', w2']; rfl)
    refine u' 24 56 (B' 29 167772159) ?_ rfl rfl ?_ ?_ ?_ ?_; rotate_left; (intro w'; go_simp; with_reducible rfl); rotate_left; (simp only [Act.put, p1', p2', p3', w1', w2']; rfl)
    refine u' 25 57 (B' 29 201326591) ?_ rfl rfl ?_ ?_ ?_ ?_; rotate_left; (intro w'; go_simp; with_reducible rfl); rotate_left; (simp only [Act.put, p1', p2', p3', w1', w2']; rfl)
    refine one_ (i := 26) (N := some 58) (B' 29 268435455) rfl rfl (by kernel_rfl) (by decide) (fun K hK => ?_)
    refine goes_ Try.func62 (by kernel_rfl) rfl #[.agg #[.int .i64 RW, .int .i64 RH, .slice AR RP.length cR], .int .i64 (wrap64 (wrap64 (wrap64 (x - dx) + Int.tmod (k : Int) 3) - 1)), .int .i64 (wrap64 (wrap64 (wrap64 (y - dy) + wrap64 (Int.tdiv (k : Int) 3)) - 1))] (by rfl) rfl rfl (by simp only [List.map_toArray, List.map_cons, List.map_nil]; rfl) ?_
    with_reducible refine (HG.out _ HB3.out (x - dx + (k : Int) % 3 - 1) (y - dy + (k : Int) / 3 - 1) _ _ (by rw [Int.tmod_eq_emod_of_nonneg (by omega)]; simp (disch := omega) only [wrap_id]) (by rw [Int.tdiv_eq_ediv_of_nonneg (by omega)]; simp (disch := omega) only [wrap_id])).mono ?_
    rintro e W4 ⟨rfl, hb⟩
    refine ⟨_, rfl, ?_⟩
    have HB4 := Za (below_then HB3.out HB3.out.size hb)
    clear hb
    refine hK.out _ _ ⟨(Zc (Zd HZ.out HB4.out) 8).trans rfl, (Zc (Zd HZ.out HB4.out) 9).trans rfl, (Zc (Zd HZ.out HB4.out) 10).trans rfl, (Zc (Zd HZ.out HB4.out) 1).trans rfl, (Zc (Zd HZ.out HB4.out) 2).trans rfl⟩ (fun hHeld => ?_)
    clear hK K
    refine n' ?_ ?_ ?_; rotate_left; (show Act.put _ (some 58) _ = _; simp only [Act.put, p1', p2', p3', w1', w2']; rfl)
    refine u' 28 60 (B' 29 536870911) ?_ rfl rfl ?_ ?_ ?_ ?_; rotate_left; (intro w'; go_simp; with_reducible rfl); rotate_left; (simp only [Act.put, p1', p2', p3', w1', w2']; rfl)
    refine done_ (by kernel_rfl) ?_
    obtain ⟨pv, hpv⟩ : ∃ v, px RW RH RP (x - dx + (k : Int) % 3 - 1) (y - dy + (k : Int) / 3 - 1) = v := ⟨_, rfl⟩
    rw [show 9 - k = (9 - (k + 1)) + 1 by omega] at hF
    unfold flatF at hF
    rw [hpv] at hF ⊢
    clear hpv
    by_cases he : pv = c
    · have e1 : (pv != c) = false := by simp [he]
      rw [if_pos he] at hF
      have HF := Za hF
      clear hF he
      go_wp2_with (fail)
      exact ⟨⟨k + 1, by omega, by go_num, HF.out, HB4⟩, by simp [intOf] <;> omega⟩
    · have e1 : (pv != c) = true := bne_iff_ne.mpr he
      rw [if_neg he] at hF
      simp only [Prod.mk.injEq] at hF
      obtain ⟨rfl, rfl⟩ := hF
      clear he
      go_wp2_with (fail)
      go_ret2
      exact ⟨rfl, HB4.out⟩
  · obtain rfl : k = 9 := by omega
    have hF2 : (c, true) = (Rc, Rb) := hF
    simp only [Prod.mk.injEq] at hF2
    obtain ⟨rfl, rfl⟩ := hF2
    clear hF
    go_wp2_with (fail)
    go_ret2
    exact ⟨rfl, HB2.out⟩
end Go.Proofs.Ytkfejicdjpffcaa.Rfl
namespace Go.Proofs.Ytkfejicdjpffcaa.Rcx
open Go Go.RowKit YtkfejicdjpffcaaW PrintWords PrintLast PrintMore U Aid HandAid Mods Rpx Rfl
set_option maxHeartbeats 2000000 in
set_option maxRecDepth 100000 in
theorem context_calls (w : World) (g : Nat) (t dx dy : Int) (ty : Bool) (kd W H : Int) (AB : Option Addr) (cB : Nat) (P : List Int) (RW RH : Int) (AR : Option Addr) (cR : Nat) (RP : List Int) (x y : Int) (hZ : w.heap[g]? = some (.cells (regc t dx dy ty kd W H (.slice AB P.length cB) RW RH (.slice AR RP.length cR)) 109 (0, 0))) (hB : Kd.C (Kd.int .u8) w AB P.length P) (hcB : P.length ≤ cB) (hC : Kd.C (Kd.int .u8) w AR RP.length RP) (hcR : RP.length ≤ cR) (b : Bm W H P) (br : Bm RW RH RP) (ht : t = 0 ∨ t = 1) (hx : -100000 ≤ x ∧ x ≤ 100000) (hy : -100000 ≤ y ∧ y ≤ 100000) (hdx : -100000 ≤ dx ∧ dx ≤ 100000) (hdy : -100000 ≤ dy ∧ dy ≤ 100000) :
 Calls Try.prog 61 #[.pointer (some ⟨g, 0, none⟩), .int .i64 x, .int .i64 y] w fun e w' => e = .returned (.int .i64 (ctxP t dx dy W H P RW RH RP x y)) ∧ Below w.heap.size w w' := by
 have HZ := Za hZ
 have HBM := Za b
 have HBR := Za br
 have HG1 := Za (show ∀ (V : World), Below w.heap.size w V → ∀ (a b2 a' b' : Int), a' = a → b' = b2 → Calls Try.prog 62 #[.agg #[.int .i64 W, .int .i64 H, .slice AB P.length cB], .int .i64 a', .int .i64 b'] V fun e W' => e = .returned (.int .u8 (px W H P a b2)) ∧ Below V.heap.size V W' from fun V hb a b2 a' b' ea eb => by subst ea eb; exact refine_grid_at.calls W H AB cB P _ _ _ _ (Kd.C_below hB hb) hcB (grid_eq b _ _))
 have HG2 := Za (show ∀ (V : World), Below w.heap.size w V → ∀ (a b2 a' b' : Int), a' = a → b' = b2 → Calls Try.prog 62 #[.agg #[.int .i64 RW, .int .i64 RH, .slice AR RP.length cR], .int .i64 a', .int .i64 b'] V fun e W' => e = .returned (.int .u8 (px RW RH RP a b2)) ∧ Below V.heap.size V W' from fun V hb a b2 a' b' ea eb => by subst ea eb; exact refine_grid_at.calls RW RH AR cR RP _ _ _ _ (Kd.C_below hC hb) hcR (grid_eq br _ _))
 have hu1 := Try.underlying109
 have hu2 := Try.underlying107
 have hu3 := Try.underlying23
 have hu4 := Try.underlying127
 have hk0 : w.cell? ⟨g, 0, none⟩ = some (.int .i64 t) := (Zc hZ 0).trans rfl
 have hfr : refine_fresh.f t = some (news t) := by
  rcases ht with rfl | rfl <;> rfl
 have hnl : (news t).length ≤ 4 := by rw [news_len]; split <;> omega
 have hnear := near_news t
 obtain ⟨R, hR⟩ : ∃ r, ctxP t dx dy W H P RW RH RP x y = r := ⟨_, rfl⟩
 rw [hR]
 unfold ctxP at hR
 generalize news t = L at hfr hnl hnear hR
 have HNEAR1 := Za hnear
 have HFR := Za hfr
 have HR := Za hR
 clear hZ hC hB ht hfr hnear b br hR
 go_enter Try.func61, Try.ntmps61
 go_wp2_with (fail)
 refine (refine_fresh.calls t L _ HFR.out).mono ?_
 rintro e W1 ⟨v, rfl, hRv, hb1⟩
 obtain ⟨A1, c1, rfl⟩ := Kd.R_slice hRv
 obtain ⟨-, hc1, hC1⟩ := Kd.R_reads' hRv
 have HC1 := Za hC1
 have HB1 := Za hb1
 have HD1 := Za (Below.refl W1.heap.size W1)
 clear hRv hC1 hb1 hk0
 have hc := ctxN_range HBM.out x y L 0 (Int.le_refl _)
 obtain ⟨C1, hC1⟩ : ∃ r, ctxN W H P x y L 0 = r := ⟨_, rfl⟩
 rw [hC1] at hc HR
 go_wp2_with (fail)
 go_loopw [7, 19] (fun n i wr => ∃ (k : Nat) (nv : Int), k ≤ L.length ∧ n = .int .i64 nv ∧ i = .int .i64 k ∧ 0 ≤ nv ∧ nv ≤ 1048576 ∧ Aside0 ((nv + 1) * 2 ^ (L.length - k) ≤ 1048576) ∧ Aside0 (ctxN W H P x y (L.drop k) nv = C1) ∧ Aside0 (Below w.heap.size w wr) ∧ Aside0 (Below W1.heap.size W1 wr)) (fun _ i _ => L.length - (intOf i).toNat)
 case atStart => exact ⟨0, 0, Nat.zero_le _, rfl, rfl, Int.le_refl _, by decide, ⟨by rw [Nat.sub_zero]; have h2 : (2 : Nat) ^ L.length ≤ 2 ^ 4 := Nat.pow_le_pow_right (by decide) hnl; have e : ((2 ^ L.length : Nat) : Int) = (2 : Int) ^ L.length := Int.natCast_pow 2 _; omega⟩, ⟨by rw [List.drop_zero]; exact hC1⟩, HB1, HD1⟩
 case round =>
  obtain ⟨k, nv, hk, rfl, rfl, hn0, hn1, HP, HQ, HB2, HD2⟩ := hrel
  by_cases hlt : k < L.length
  · have hltk : (k : Int) < L.length := by omega
    obtain ⟨ad, hA, hx0, hx1⟩ := at_T127 (Kd.C_below HC1.out HD2.out) (k : Int) (by omega) hltk
    subst hA
    simp only [Int.toNat_natCast] at hx0 hx1
    obtain ⟨e1, e2⟩ := drop127 hlt
    obtain ⟨d, hd⟩ : ∃ d, rd_T127 L (k : Int) = d := ⟨_, rfl⟩
    rw [hd] at hx0 hx1 e1 e2
    have hdn := HNEAR1.out d e2
    unfold near at hdn
    have hQ := HQ.out
    rw [e1] at hQ
    simp only [ctxN] at hQ
    have HQ2 := Za hQ
    have hv := px_01 HBM.out (x + d.f0) (y + d.f1)
    have HS := Za (n_step hn0 (d := L.length - (k + 1)) (by have := HP.out; rwa [show L.length - k = L.length - (k + 1) + 1 by omega] at this) hv)
    have hns := HS.out.1
    have hnt : 2 * nv + px W H P (x + d.f0) (y + d.f1) ≤ 1048576 := by
     have h1 : (1 : Int) ≤ 2 ^ (L.length - (k + 1)) := by have : (0 : Int) < 2 ^ (L.length - (k + 1)) := Int.pow_pos (by decide); omega
     have h2 := HS.out.2.1
     have h3 : (2 * nv + px W H P (x + d.f0) (y + d.f1) + 1) * 1 ≤ (2 * nv + px W H P (x + d.f0) (y + d.f1) + 1) * 2 ^ (L.length - (k + 1)) := Int.mul_le_mul_of_nonneg_left h1 (by omega)
     omega
    obtain ⟨g2, hg2⟩ : ∃ q, wr.heap.size = q := ⟨_, rfl⟩
    obtain ⟨W3, hW3⟩ : ∃ q, wr.alloc (.cells #[.int .i64 d.f0, .int .i64 d.f1] 127) = q := ⟨_, rfl⟩
    have HB3 := Za (show Below w.heap.size w W3.drew from hW3 ▸ below_drew (b1' HB2.out _))
    have HD3 := Za (show Below W1.heap.size W1 W3.drew from hW3 ▸ below_drew (b1' HD2.out _))
    have HY := Za (show W3.drew.heap[g2]? = some (.cells #[.int .i64 d.f0, .int .i64 d.f1] 127 (0, 0)) from hW3 ▸ hg2 ▸ heap_new wr _)
    clear hd e1 e2 hQ HQ HB2 HD2
    go_wp2_with (fail)
    clear hW3 hg2 hx0 hx1
    refine start_ (n := 18) (S := fun w' => w'.cell? ⟨g, 5, none⟩ = some (.int .i64 W) ∧ w'.cell? ⟨g, 6, none⟩ = some (.int .i64 H) ∧ w'.cell? ⟨g, 7, none⟩ = some (.slice AB P.length cB) ∧ w'.cell? ⟨g2, 0, none⟩ = some (.int .i64 d.f0) ∧ w'.cell? ⟨g2, 1, none⟩ = some (.int .i64 d.f1)) (ds := []) (B' 18 0) (by kernel_rfl) rfl rfl ⟨(Zc (Zd HZ.out HB3.out) 5).trans rfl, (Zc (Zd HZ.out HB3.out) 6).trans rfl, (Zc (Zd HZ.out HB3.out) 7).trans rfl, (Zc (HY.out) 0).trans rfl, (Zc (HY.out) 1).trans rfl⟩ (fun hHeld => ?_)
    refine u' 0 23 (B' 18 1) ?_ rfl rfl ?_ ?_ ?_ ?_; rotate_left; (intro w'; go_simp; with_reducible rfl); rotate_left; (simp only [Act.put, p1', p2', p3', w1', w2']; rfl)
    refine u' 1 24 (B' 18 3) ?_ rfl rfl ?_ ?_ ?_ ?_; rotate_left; (intro w'; go_simp; with_reducible rfl); rotate_left; (simp only [Act.put, p1', p2', p3', w1', w2']; rfl)
    refine u' 2 25 (B' 18 7) ?_ rfl rfl ?_ ?_ ?_ ?_; rotate_left; (intro w'; go_simp; with_reducible rfl); rotate_left; (simp only [Act.put, p1', p2', p3', w1', w2']; rfl)
    refine u' 3 26 (B' 18 15) ?_ rfl rfl ?_ ?_ ?_ ?_; rotate_left; (intro w'; go_simp; with_reducible rfl); rotate_left; (simp only [Act.put, p1', p2', p3', w1', w2']; rfl)
    refine u' 4 27 (B' 18 31) ?_ rfl rfl ?_ ?_ ?_ ?_; rotate_left; (intro w'; go_simp; with_reducible rfl); rotate_left; (simp only [Act.put, p1', p2', p3', w1', w2']; rfl)
    refine u' 6 29 (B' 18 95) ?_ rfl rfl ?_ ?_ ?_ ?_; rotate_left; (intro w'; go_simp; with_reducible rfl); rotate_left; (simp only [Act.put, p1', p2', p3', w1', w2']; rfl)
    refine u' 7 30 (B' 18 223) ?_ rfl rfl ?_ ?_ ?_ ?_; rotate_left; (intro w'; go_simp; with_reducible rfl); rotate_left; (simp only [Act.put, p1', p2', p3', w1', w2']; rfl)
    refine u' 10 33 (B' 18 1247) ?_ rfl rfl ?_ ?_ ?_ ?_; rotate_left; (intro w'; go_simp; with_reducible rfl); rotate_left; (simp only [Act.put, p1', p2', p3', w1', w2']; rfl)
    refine u' 11 34 (B' 18 3295) ?_ rfl rfl ?_ ?_ ?_ ?_; rotate_left; (intro w'; go_simp; with_reducible rfl); rotate_left; (simp only [Act.put, p1', p2', p3', w1', w2']; rfl)
    refine t' 5 28 (B' 18 3327) ?_ rfl rfl ?_ hHeld ?_ ?_ ?_; rotate_left; (rintro w' ⟨s0, s1, s2, s3, s4⟩; go_simp; with_reducible rfl); rotate_left; (simp only [Act.put, p1', p2', p3', w1', w2']; rfl)
    refine t' 8 31 (B' 18 3583) ?_ rfl rfl ?_ hHeld ?_ ?_ ?_; rotate_left; (rintro w' ⟨s0, s1, s2, s3, s4⟩; go_simp; with_reducible rfl); rotate_left; (simp only [Act.put, p1', p2', p3', w1', w2']; rfl)
    refine u' 9 32 (B' 18 4095) ?_ rfl rfl ?_ ?_ ?_ ?_; rotate_left; (intro w'; go_simp; with_reducible rfl); rotate_left; (simp only [Act.put, p1', p2', p3', w1', w2']; rfl)
    refine t' 12 35 (B' 18 8191) ?_ rfl rfl ?_ hHeld ?_ ?_ ?_; rotate_left; (rintro w' ⟨s0, s1, s2, s3, s4⟩; go_simp; with_reducible rfl); rotate_left; (simp only [Act.put, p1', p2', p3', w1', w2']; rfl)
    refine u' 13 36 (B' 18 16383) ?_ rfl rfl ?_ ?_ ?_ ?_; rotate_left; (intro w'; go_simp; with_reducible rfl); rotate_left; (simp only [Act.put, p1', p2', p3', w1', w2']; rfl)
    refine one_ (i := 14) (N := some 37) (B' 18 32767) rfl rfl (by kernel_rfl) (by decide) (fun K hK => ?_)
    refine goes_ Try.func62 (by kernel_rfl) rfl #[.agg #[.int .i64 W, .int .i64 H, .slice AB P.length cB], .int .i64 (wrap64 (x + d.f0)), .int .i64 (wrap64 (y + d.f1))] (by rfl) rfl rfl (by simp only [List.map_toArray, List.map_cons, List.map_nil]; rfl) ?_
    with_reducible refine (HG1.out _ HB3.out (x + d.f0) (y + d.f1) _ _ (by rw [wrap_id] <;> omega) (by rw [wrap_id] <;> omega)).mono ?_
    rintro e W4 ⟨rfl, hb⟩
    refine ⟨_, rfl, ?_⟩
    have HB4 := Za (below_then HB3.out HB3.out.size hb)
    have HD4 := Za (below_then HD3.out HD3.out.size hb)
    have HY4 := Za (Zd HY.out hb)
    clear hb
    refine hK.out _ _ ⟨(Zc (Zd HZ.out HB4.out) 5).trans rfl, (Zc (Zd HZ.out HB4.out) 6).trans rfl, (Zc (Zd HZ.out HB4.out) 7).trans rfl, (Zc (HY4.out) 0).trans rfl, (Zc (HY4.out) 1).trans rfl⟩ (fun hHeld => ?_)
    clear hK K
    refine n' ?_ ?_ ?_; rotate_left; (show Act.put _ (some 37) _ = _; simp only [Act.put, p1', p2', p3', w1', w2']; rfl)
    refine u' 15 38 (B' 18 65535) ?_ rfl rfl ?_ ?_ ?_ ?_; rotate_left; (intro w'; go_simp; with_reducible rfl); rotate_left; (simp only [Act.put, p1', p2', p3', w1', w2']; rfl)
    refine u' 16 39 (B' 18 131071) ?_ rfl rfl ?_ ?_ ?_ ?_; rotate_left; (intro w'; go_simp; with_reducible rfl); rotate_left; (simp only [Act.put, p1', p2', p3', w1', w2']; rfl)
    refine u' 17 7 (B' 18 262143) ?_ rfl rfl ?_ ?_ ?_ ?_; rotate_left; (intro w'; go_simp; with_reducible rfl); rotate_left; (simp only [Act.put, p1', p2', p3', w1', w2']; rfl)
    refine done_ (by kernel_rfl) ?_
    obtain ⟨pv, hpv⟩ : ∃ q, px W H P (x + d.f0) (y + d.f1) = q := ⟨_, rfl⟩
    rw [hpv] at HQ2 HS hv hns hnt ⊢
    clear hpv
    go_wp2_with (fail)
    go_roundw
    case rel => exact ⟨k + 1, 2 * nv + pv, by omega, by first | rfl | (simp (disch := omega) only [wrap_id]), by go_num, hns, hnt, ⟨HS.out.2.1⟩, HQ2, HB4, HD4⟩
    case measure => simp [intOf]; omega
  · have hQ := HQ.out
    rw [List.drop_of_length_le (by omega)] at hQ
    simp only [ctxN] at hQ
    subst hQ
    clear HQ HP HC1 HD1 HD2
    have hc2 := hc.2
    have hp16 : (2 : Int) ^ L.length ≤ 16 := by
     have h2 : (2 : Nat) ^ L.length ≤ 2 ^ 4 := Nat.pow_le_pow_right (by decide) hnl
     have e : ((2 ^ L.length : Nat) : Int) = (2 : Int) ^ L.length := Int.natCast_pow 2 _
     omega
    have hn16 : nv ≤ 15 := by omega
    have hn00 := hc.1
    clear hc hc2 hp16
    go_wp2_with (fail)
    refine (refine_beside.calls besides _ rfl).mono ?_
    rintro e W2 ⟨v2, rfl, hRv, hb2⟩
    obtain ⟨A2, c2, rfl⟩ := Kd.R_slice hRv
    obtain ⟨-, hc2, hC2⟩ := Kd.R_reads' hRv
    have HC2 := Za hC2
    have HBn := Za (below_then HB2.out HB2.out.size hb2)
    have HD2 := Za (Below.refl W2.heap.size W2)
    clear hRv hC2 hb2 HB2
    have HNEAR2 := Za (show ∀ d ∈ besides, near d by unfold besides near; simp)
    obtain ⟨M, hM⟩ : ∃ M, besides = M := ⟨_, rfl⟩
    have hml : M.length = 5 := by rw [← hM]; rfl
    rw [hM] at HR HC2 HNEAR2 ⊢
    clear hM
    have HM := Za hml
    have hml5 : M.length ≤ 5 := by omega
    clear hml
    have HR2 := HR
    clear HR
    go_wp2_with (fail)
    go_loopw [7, 43] (fun n i wr => ∃ (k : Nat) (nv : Int), k ≤ M.length ∧ n = .int .i64 nv ∧ i = .int .i64 k ∧ 0 ≤ nv ∧ nv ≤ 1048576 ∧ Aside0 ((nv + 1) * 2 ^ (M.length - k) ≤ 1048576) ∧ Aside0 (ctxN RW RH RP (x - dx) (y - dy) (M.drop k) nv = R) ∧ Aside0 (Below w.heap.size w wr) ∧ Aside0 (Below W2.heap.size W2 wr)) (fun _ i _ => M.length - (intOf i).toNat)
    case atStart => exact ⟨0, nv, Nat.zero_le _, rfl, rfl, hn00, by omega, ⟨by rw [HM.out]; have : (2 : Int) ^ (5 - 0) = 32 := rfl; rw [this]; omega⟩, ⟨HR2.out⟩, HBn, HD2⟩
    case round =>
     obtain ⟨k, nv, hk, rfl, rfl, hn0, hn1, HP, HQ, HB2, HD2⟩ := hrel
     by_cases hlt : k < M.length
     · have hltk : (k : Int) < M.length := by omega
       obtain ⟨ad, hA, hx0, hx1⟩ := at_T127 (Kd.C_below HC2.out HD2.out) (k : Int) (by omega) hltk
       subst hA
       simp only [Int.toNat_natCast] at hx0 hx1
       obtain ⟨e1, e2⟩ := drop127 hlt
       obtain ⟨d, hd⟩ : ∃ d, rd_T127 M (k : Int) = d := ⟨_, rfl⟩
       rw [hd] at hx0 hx1 e1 e2
       have hdn := HNEAR2.out d e2
       unfold near at hdn
       have hQ := HQ.out
       rw [e1] at hQ
       simp only [ctxN] at hQ
       have HQ2 := Za hQ
       have hv := px_01 HBR.out (x - dx + d.f0) (y - dy + d.f1)
       have HS := Za (n_step hn0 (d := M.length - (k + 1)) (by have := HP.out; rwa [show M.length - k = M.length - (k + 1) + 1 by omega] at this) hv)
       have hns := HS.out.1
       have hnt : 2 * nv + px RW RH RP (x - dx + d.f0) (y - dy + d.f1) ≤ 1048576 := by
        have h1 : (1 : Int) ≤ 2 ^ (M.length - (k + 1)) := by have : (0 : Int) < 2 ^ (M.length - (k + 1)) := Int.pow_pos (by decide); omega
        have h2 := HS.out.2.1
        have h3 : (2 * nv + px RW RH RP (x - dx + d.f0) (y - dy + d.f1) + 1) * 1 ≤ (2 * nv + px RW RH RP (x - dx + d.f0) (y - dy + d.f1) + 1) * 2 ^ (M.length - (k + 1)) := Int.mul_le_mul_of_nonneg_left h1 (by omega)
        omega
       obtain ⟨g2, hg2⟩ : ∃ q, wr.heap.size = q := ⟨_, rfl⟩
       obtain ⟨W3, hW3⟩ : ∃ q, wr.alloc (.cells #[.int .i64 d.f0, .int .i64 d.f1] 127) = q := ⟨_, rfl⟩
       have HB3 := Za (show Below w.heap.size w W3.drew from hW3 ▸ below_drew (b1' HB2.out _))
       have HD3 := Za (show Below W2.heap.size W2 W3.drew from hW3 ▸ below_drew (b1' HD2.out _))
       have HY := Za (show W3.drew.heap[g2]? = some (.cells #[.int .i64 d.f0, .int .i64 d.f1] 127 (0, 0)) from hW3 ▸ hg2 ▸ heap_new wr _)
       clear hd e1 e2 hQ HQ HB2 HD2
       go_wp2_with (fail)
       clear hW3 hg2 hx0 hx1
       refine start_ (n := 30) (S := fun w' => w'.cell? ⟨g, 8, none⟩ = some (.int .i64 RW) ∧ w'.cell? ⟨g, 9, none⟩ = some (.int .i64 RH) ∧ w'.cell? ⟨g, 10, none⟩ = some (.slice AR RP.length cR) ∧ w'.cell? ⟨g, 1, none⟩ = some (.int .i64 dx) ∧ w'.cell? ⟨g, 2, none⟩ = some (.int .i64 dy) ∧ w'.cell? ⟨g2, 0, none⟩ = some (.int .i64 d.f0) ∧ w'.cell? ⟨g2, 1, none⟩ = some (.int .i64 d.f1)) (ds := []) (B' 30 0) (by kernel_rfl) rfl rfl ⟨(Zc (Zd HZ.out HB3.out) 8).trans rfl, (Zc (Zd HZ.out HB3.out) 9).trans rfl, (Zc (Zd HZ.out HB3.out) 10).trans rfl, (Zc (Zd HZ.out HB3.out) 1).trans rfl, (Zc (Zd HZ.out HB3.out) 2).trans rfl, (Zc (HY.out) 0).trans rfl, (Zc (HY.out) 1).trans rfl⟩ (fun hHeld => ?_)
       refine u' 0 47 (B' 30 1) ?_ rfl rfl ?_ ?_ ?_ ?_; rotate_left; (intro w'; go_simp; with_reducible rfl); rotate_left; (simp only [Act.put, p1', p2', p3', w1', w2']; rfl)
       refine u' 1 48 (B' 30 3) ?_ rfl rfl ?_ ?_ ?_ ?_; rotate_left; (intro w'; go_simp; with_reducible rfl); rotate_left; (simp only [Act.put, p1', p2', p3', w1', w2']; rfl)
       refine u' 2 49 (B' 30 7) ?_ rfl rfl ?_ ?_ ?_ ?_; rotate_left; (intro w'; go_simp; with_reducible rfl); rotate_left; (simp only [Act.put, p1', p2', p3', w1', w2']; rfl)
       refine u' 3 50 (B' 30 15) ?_ rfl rfl ?_ ?_ ?_ ?_; rotate_left; (intro w'; go_simp; with_reducible rfl); rotate_left; (simp only [Act.put, p1', p2', p3', w1', w2']; rfl)
       refine u' 4 51 (B' 30 31) ?_ rfl rfl ?_ ?_ ?_ ?_; rotate_left; (intro w'; go_simp; with_reducible rfl); rotate_left; (simp only [Act.put, p1', p2', p3', w1', w2']; rfl)
       refine u' 6 53 (B' 30 95) ?_ rfl rfl ?_ ?_ ?_ ?_; rotate_left; (intro w'; go_simp; with_reducible rfl); rotate_left; (simp only [Act.put, p1', p2', p3', w1', w2']; rfl)
       refine u' 7 54 (B' 30 223) ?_ rfl rfl ?_ ?_ ?_ ?_; rotate_left; (intro w'; go_simp; with_reducible rfl); rotate_left; (simp only [Act.put, p1', p2', p3', w1', w2']; rfl)
       refine u' 8 55 (B' 30 479) ?_ rfl rfl ?_ ?_ ?_ ?_; rotate_left; (intro w'; go_simp; with_reducible rfl); rotate_left; (simp only [Act.put, p1', p2', p3', w1', w2']; rfl)
       refine u' 9 56 (B' 30 991) ?_ rfl rfl ?_ ?_ ?_ ?_; rotate_left; (intro w'; go_simp; with_reducible rfl); rotate_left; (simp only [Act.put, p1', p2', p3', w1', w2']; rfl)
       refine u' 10 57 (B' 30 2015) ?_ rfl rfl ?_ ?_ ?_ ?_; rotate_left; (intro w'; go_simp; with_reducible rfl); rotate_left; (simp only [Act.put, p1', p2', p3', w1', w2']; rfl)
       refine u' 13 60 (B' 30 10207) ?_ rfl rfl ?_ ?_ ?_ ?_; rotate_left; (intro w'; go_simp; with_reducible rfl); rotate_left; (simp only [Act.put, p1', p2', p3', w1', w2']; rfl)
       refine u' 16 63 (B' 30 75743) ?_ rfl rfl ?_ ?_ ?_ ?_; rotate_left; (intro w'; go_simp; with_reducible rfl); rotate_left; (simp only [Act.put, p1', p2', p3', w1', w2']; rfl)
       refine u' 17 64 (B' 30 206815) ?_ rfl rfl ?_ ?_ ?_ ?_; rotate_left; (intro w'; go_simp; with_reducible rfl); rotate_left; (simp only [Act.put, p1', p2', p3', w1', w2']; rfl)
       refine u' 18 65 (B' 30 468959) ?_ rfl rfl ?_ ?_ ?_ ?_; rotate_left; (intro w'; go_simp; with_reducible rfl); rotate_left; (simp only [Act.put, p1', p2', p3', w1', w2']; rfl)
       refine u' 19 66 (B' 30 993247) ?_ rfl rfl ?_ ?_ ?_ ?_; rotate_left; (intro w'; go_simp; with_reducible rfl); rotate_left; (simp only [Act.put, p1', p2', p3', w1', w2']; rfl)
       refine u' 20 67 (B' 30 2041823) ?_ rfl rfl ?_ ?_ ?_ ?_; rotate_left; (intro w'; go_simp; with_reducible rfl); rotate_left; (simp only [Act.put, p1', p2', p3', w1', w2']; rfl)
       refine u' 23 70 (B' 30 10430431) ?_ rfl rfl ?_ ?_ ?_ ?_; rotate_left; (intro w'; go_simp; with_reducible rfl); rotate_left; (simp only [Act.put, p1', p2', p3', w1', w2']; rfl)
       refine t' 5 52 (B' 30 10430463) ?_ rfl rfl ?_ hHeld ?_ ?_ ?_; rotate_left; (rintro w' ⟨s0, s1, s2, s3, s4, s5, s6⟩; go_simp; with_reducible rfl); rotate_left; (simp only [Act.put, p1', p2', p3', w1', w2']; rfl)
       refine t' 11 58 (B' 30 10432511) ?_ rfl rfl ?_ hHeld ?_ ?_ ?_; rotate_left; (rintro w' ⟨s0, s1, s2, s3, s4, s5, s6⟩; go_simp; with_reducible rfl); rotate_left; (simp only [Act.put, p1', p2', p3', w1', w2']; rfl)
       refine u' 12 59 (B' 30 10436607) ?_ rfl rfl ?_ ?_ ?_ ?_; rotate_left; (intro w'; go_simp; with_reducible rfl); rotate_left; (simp only [Act.put, p1', p2', p3', w1', w2']; rfl)
       refine t' 14 61 (B' 30 10452991) ?_ rfl rfl ?_ hHeld ?_ ?_ ?_; rotate_left; (rintro w' ⟨s0, s1, s2, s3, s4, s5, s6⟩; go_simp; with_reducible rfl); rotate_left; (simp only [Act.put, p1', p2', p3', w1', w2']; rfl)
       refine u' 15 62 (B' 30 10485759) ?_ rfl rfl ?_ ?_ ?_ ?_; rotate_left; (intro w'; go_simp; with_reducible rfl); rotate_left; (simp only [Act.put, p1', p2', p3', w1', w2']; rfl)
       refine t' 21 68 (B' 30 12582911) ?_ rfl rfl ?_ hHeld ?_ ?_ ?_; rotate_left; (rintro w' ⟨s0, s1, s2, s3, s4, s5, s6⟩; go_simp; with_reducible rfl); rotate_left; (simp only [Act.put, p1', p2', p3', w1', w2']; rfl)
       refine u' 22 69 (B' 30 16777215) ?_ rfl rfl ?_ ?_ ?_ ?_; rotate_left; (intro w'; go_simp; with_reducible rfl); rotate_left; (simp only [Act.put, p1', p2', p3', w1', w2']; rfl)
       refine t' 24 71 (B' 30 33554431) ?_ rfl rfl ?_ hHeld ?_ ?_ ?_; rotate_left; (rintro w' ⟨s0, s1, s2, s3, s4, s5, s6⟩; go_simp; with_reducible rfl); rotate_left; (simp only [Act.put, p1', p2', p3', w1', w2']; rfl)
       refine u' 25 72 (B' 30 67108863) ?_ rfl rfl ?_ ?_ ?_ ?_; rotate_left; (intro w'; go_simp; with_reducible rfl); rotate_left; (simp only [Act.put, p1', p2', p3', w1', w2']; rfl)
       refine one_ (i := 26) (N := some 73) (B' 30 134217727) rfl rfl (by kernel_rfl) (by decide) (fun K hK => ?_)
       refine goes_ Try.func62 (by kernel_rfl) rfl #[.agg #[.int .i64 RW, .int .i64 RH, .slice AR RP.length cR], .int .i64 (wrap64 (wrap64 (x - dx) + d.f0)), .int .i64 (wrap64 (wrap64 (y - dy) + d.f1))] (by rfl) rfl rfl (by simp only [List.map_toArray, List.map_cons, List.map_nil]; rfl) ?_
       with_reducible refine (HG2.out _ HB3.out (x - dx + d.f0) (y - dy + d.f1) _ _ (by simp (disch := omega) only [wrap_id]) (by simp (disch := omega) only [wrap_id])).mono ?_
       rintro e W4 ⟨rfl, hb⟩
       refine ⟨_, rfl, ?_⟩
       have HB4 := Za (below_then HB3.out HB3.out.size hb)
       have HD4 := Za (below_then HD3.out HD3.out.size hb)
       have HY4 := Za (Zd HY.out hb)
       clear hb
       refine hK.out _ _ ⟨(Zc (Zd HZ.out HB4.out) 8).trans rfl, (Zc (Zd HZ.out HB4.out) 9).trans rfl, (Zc (Zd HZ.out HB4.out) 10).trans rfl, (Zc (Zd HZ.out HB4.out) 1).trans rfl, (Zc (Zd HZ.out HB4.out) 2).trans rfl, (Zc (HY4.out) 0).trans rfl, (Zc (HY4.out) 1).trans rfl⟩ (fun hHeld => ?_)
       clear hK K
       refine n' ?_ ?_ ?_; rotate_left; (show Act.put _ (some 73) _ = _; simp only [Act.put, p1', p2', p3', w1', w2']; rfl)
       refine u' 27 74 (B' 30 268435455) ?_ rfl rfl ?_ ?_ ?_ ?_; rotate_left; (intro w'; go_simp; with_reducible rfl); rotate_left; (simp only [Act.put, p1', p2', p3', w1', w2']; rfl)
       refine u' 28 75 (B' 30 536870911) ?_ rfl rfl ?_ ?_ ?_ ?_; rotate_left; (intro w'; go_simp; with_reducible rfl); rotate_left; (simp only [Act.put, p1', p2', p3', w1', w2']; rfl)
       refine u' 29 7 (B' 30 1073741823) ?_ rfl rfl ?_ ?_ ?_ ?_; rotate_left; (intro w'; go_simp; with_reducible rfl); rotate_left; (simp only [Act.put, p1', p2', p3', w1', w2']; rfl)
       refine done_ (by kernel_rfl) ?_
       obtain ⟨pv, hpv⟩ : ∃ q, px RW RH RP (x - dx + d.f0) (y - dy + d.f1) = q := ⟨_, rfl⟩
       rw [hpv] at HQ2 HS hv hns hnt ⊢
       clear hpv
       go_wp2_with (fail)
       go_roundw
       case rel => exact ⟨k + 1, 2 * nv + pv, by omega, by first | rfl | (simp (disch := omega) only [wrap_id]), by go_num, hns, hnt, ⟨HS.out.2.1⟩, HQ2, HB4, HD4⟩
       case measure => simp [intOf]; omega
     · have hQ := HQ.out
       rw [List.drop_of_length_le (by omega)] at hQ
       simp only [ctxN] at hQ
       subst hQ
       go_wp2_with (fail)
       go_ret
       exact ⟨rfl, HB2.out⟩
end Go.Proofs.Ytkfejicdjpffcaa.Rcx
namespace Go.Proofs.Ytkfejicdjpffcaa.Rty
open Go Go.RowKit YtkfejicdjpffcaaW PrintWords PrintLast PrintMore U Aid HandAid Mods Rpx Rfl Rcx
/-- A region at g: its cells, its two bitmaps' rows. -/
structure Reg (w : World) (g : Nat) (t dx dy : Int) (ty : Bool) (kd W H : Int) (AB : Option Addr) (cB : Nat) (P : List Int) (RW RH : Int) (AR : Option Addr) (cR : Nat) (RP : List Int) : Prop where
 z : w.heap[g]? = some (.cells (regc t dx dy ty kd W H (.slice AB P.length cB) RW RH (.slice AR RP.length cR)) 109 (0, 0))
 cb : Kd.C (Kd.int .u8) w AB P.length P
 hcb : P.length ≤ cB
 cr : Kd.C (Kd.int .u8) w AR RP.length RP
 hcr : RP.length ≤ cR
 b : Bm W H P
 r : Bm RW RH RP
 t01 : t = 0 ∨ t = 1
 dx_ : -100000 ≤ dx ∧ dx ≤ 100000
 dy_ : -100000 ≤ dy ∧ dy ≤ 100000
section
variable {w w' : World} {g : Nat} {t dx dy : Int} {ty : Bool} {kd W H : Int} {AB : Option Addr} {cB : Nat} {P : List Int} {RW RH : Int} {AR : Option Addr} {cR : Nat} {RP : List Int}
theorem Reg.below (R : Reg w g t dx dy ty kd W H AB cB P RW RH AR cR RP) (hb : Below w.heap.size w w') : Reg w' g t dx dy ty kd W H AB cB P RW RH AR cR RP :=
 ⟨Zd R.z hb, Kd.C_below R.cb hb, R.hcb, Kd.C_below R.cr hb, R.hcr, R.b, R.r, R.t01, R.dx_, R.dy_⟩
theorem Reg.flat (R : Reg w g t dx dy ty kd W H AB cB P RW RH AR cR RP) (x y : Int) (hx : -100000 ≤ x ∧ x ≤ 100000) (hy : -100000 ≤ y ∧ y ≤ 100000) :
 Calls Try.prog 60 #[.pointer (some ⟨g, 0, none⟩), .int .i64 x, .int .i64 y] w fun e w' => e = .returned (.tuple #[.int .u8 (flatP RW RH RP (x - dx) (y - dy)).1, .bool (flatP RW RH RP (x - dx) (y - dy)).2]) ∧ Below w.heap.size w w' :=
 flat_calls w g t dx dy ty kd W H _ RW RH AR cR RP x y R.z R.cr R.hcr R.r hx hy R.dx_ R.dy_
theorem Reg.context (R : Reg w g t dx dy ty kd W H AB cB P RW RH AR cR RP) (x y : Int) (hx : -100000 ≤ x ∧ x ≤ 100000) (hy : -100000 ≤ y ∧ y ≤ 100000) :
 Calls Try.prog 61 #[.pointer (some ⟨g, 0, none⟩), .int .i64 x, .int .i64 y] w fun e w' => e = .returned (.int .i64 (ctxP t dx dy W H P RW RH RP x y)) ∧ Below w.heap.size w w' :=
 context_calls w g t dx dy ty kd W H AB cB P RW RH AR cR RP x y R.z R.cb R.hcb R.cr R.hcr R.b R.r R.t01 hx hy R.dx_ R.dy_
theorem Reg.at_ (R : Reg w g t dx dy ty kd W H AB cB P RW RH AR cR RP) (x y : Int) :
 Calls Try.prog 62 #[.agg #[.int .i64 W, .int .i64 H, .slice AB P.length cB], .int .i64 x, .int .i64 y] w fun e w' => e = .returned (.int .u8 (px W H P x y)) ∧ Below w.heap.size w w' :=
 refine_grid_at.calls W H AB cB P _ _ _ _ R.cb R.hcb (grid_eq R.b _ _)
end
set_option maxHeartbeats 2000000 in
set_option maxRecDepth 100000 in
theorem typical_calls (w : World) (g : Nat) (t dx dy : Int) (ty : Bool) (kd W H : Int) (AB : Option Addr) (cB : Nat) (P : List Int) (RW RH : Int) (AR : Option Addr) (cR : Nat) (RP : List Int) (y : Int) (hR : Reg w g t dx dy ty kd W H AB cB P RW RH AR cR RP) (hy : -100000 ≤ y ∧ y ≤ 100000) :
 Calls Try.prog 59 #[.pointer (some ⟨g, 0, none⟩), .int .i64 y] w fun e w' => e = .returned (.bool (rowP dx dy W H P RW RH RP y W.toNat 0)) ∧ Below w.heap.size w w' := by
 have HR := Za hR
 have hu1 := Try.underlying109
 have hu2 := Try.underlying107
 have hu3 := Try.underlying23
 have hw := hR.b.w
 have hk5 : w.cell? ⟨g, 5, none⟩ = some (.int .i64 W) := (Zc hR.z 5).trans rfl
 have HB0 := Za (Below.refl w.heap.size w)
 clear hR
 obtain ⟨R, hQ⟩ : ∃ r, rowP dx dy W H P RW RH RP y W.toNat 0 = r := ⟨_, rfl⟩
 rw [hQ]
 go_enter Try.func59, Try.ntmps59
 go_wp2_with (fail)
 go_loopw [13] (fun i wr => ∃ k : Nat, k ≤ W.toNat ∧ i = .int .i64 k ∧ rowP dx dy W H P RW RH RP y (W.toNat - k) k = R ∧ Aside0 (Below w.heap.size w wr)) (fun i _ => W.toNat - (intOf i).toNat)
 case atStart => exact ⟨0, Nat.zero_le _, rfl, hQ, HB0⟩
 clear hk5 HB0 hQ
 case round =>
  obtain ⟨k, hk, rfl, hQ, HB1⟩ := hrel
  by_cases hlt : k < W.toNat
  · have hltk : (k : Int) < W := by omega
    rw [show W.toNat - k = (W.toNat - (k + 1)) + 1 by omega] at hQ
    unfold rowP at hQ
    go_wp2_with (fail)
    refine ((HR.out.below HB1.out).flat (k : Int) y (by omega) hy).mono ?_
    rintro e W2 ⟨rfl, hb⟩
    have HB2 := Za (below_then HB1.out HB1.out.size hb)
    clear hb HB1
    obtain ⟨⟨c, is⟩, hF⟩ : ∃ r, flatP RW RH RP ((k : Int) - dx) (y - dy) = r := ⟨_, rfl⟩
    rw [hF] at hQ ⊢
    clear hF
    simp only at hQ ⊢
    cases is
    · rw [if_neg (by decide)] at hQ
      have HQ := Za hQ
      clear hQ
      go_wp2_with (fail)
      exact ⟨⟨k + 1, by omega, by go_num, HQ.out, HB2⟩, by simp [intOf]; omega⟩
    · rw [if_pos rfl] at hQ
      have hR2 := HR.out.below HB2.out
      have q5 : W2.cell? ⟨g, 5, none⟩ = some (.int .i64 W) := (Zc hR2.z 5).trans rfl
      have q6 : W2.cell? ⟨g, 6, none⟩ = some (.int .i64 H) := (Zc hR2.z 6).trans rfl
      have q7 : W2.cell? ⟨g, 7, none⟩ = some (.slice AB P.length cB) := (Zc hR2.z 7).trans rfl
      have HR2 := Za hR2
      have HQ := Za hQ
      clear hR2 hQ
      go_wp2_with (fail)
      refine (HR2.out.at_ (k : Int) y).mono ?_
      rintro e W3 ⟨rfl, hb⟩
      have HB3 := Za (below_then HB2.out HB2.out.size hb)
      clear hb
      have hQ := HQ.out
      clear HQ q5 q6 q7
      obtain ⟨pv, hpv⟩ : ∃ q, px W H P (k : Int) y = q := ⟨_, rfl⟩
      rw [hpv] at hQ ⊢
      clear hpv
      by_cases he : pv = c
      · have e1 : (c != pv) = false := by simp [he]
        rw [if_pos he] at hQ
        have HQ := Za hQ
        clear hQ he
        go_wp2_with (fail)
        exact ⟨⟨k + 1, by omega, by go_num, HQ.out, HB3⟩, by simp [intOf]; omega⟩
      · have e1 : (c != pv) = true := bne_iff_ne.mpr (fun h => he h.symm)
        rw [if_neg he] at hQ
        subst hQ
        clear he
        go_wp2_with (fail)
        go_ret
        exact ⟨rfl, HB3.out⟩
  · obtain rfl : k = W.toNat := by omega
    rw [Nat.sub_self] at hQ
    have hQ2 : true = R := hQ
    subst hQ2
    go_wp2_with (fail)
    go_ret
    exact ⟨rfl, HB1.out⟩
set_option maxHeartbeats 1000000 in
set_option maxRecDepth 100000 in
theorem newRegion_calls (w : World) (t dx dy : Int) (ty : Bool) (kd W H : Int) (vb : Value) (RW RH : Int) (vr : Value) (AB : Option Addr) (nB cB : Nat) (AR : Option Addr) (nR cR : Nat) (hvb : vb = .slice AB nB cB) (hvr : vr = .slice AR nR cR) :
 Calls Try.prog 58 #[.agg #[.int .i64 t, .int .i64 dx, .int .i64 dy, .bool ty, .int .i64 kd], .int .i64 W, .int .i64 H, vb, .agg #[.int .i64 RW, .int .i64 RH, vr]] w fun e w' => ∃ g, e = .returned (.pointer (some ⟨g, 0, none⟩)) ∧ w.heap.size ≤ g ∧ w'.heap[g]? = some (.cells (regc t dx dy ty kd W H vb RW RH vr) 109 (0, 0)) ∧ Below w.heap.size w w' := by
 subst hvb hvr
 have hu1 := Try.underlying109
 have hu2 := Try.underlying107
 have hu3 := Try.underlying23
 have hu4 := Try.underlying31
 go_enter Try.func58, Try.ntmps58
 go_wp2_with (fail)
 go_ret
 refine ⟨_, rfl, ?_, ?_, b1' (b1' (b1' (Below.refl _ _) _) _) _⟩
 · omega
 · have h := heap_new ((w.alloc (.cells #[.int .i64 t, .int .i64 dx, .int .i64 dy, .bool ty, .int .i64 kd] 23)).alloc (.cells #[.int .i64 RW, .int .i64 RH, .slice AR nR cR] 31)) (.cells (regc t dx dy ty kd W H (.slice AB nB cB) RW RH (.slice AR nR cR)) 109)
   rw [World.size_alloc, World.size_alloc] at h
   exact h
end Go.Proofs.Ytkfejicdjpffcaa.Rty
namespace Go.Proofs.Ytkfejicdjpffcaa.Rev
open Go Go.RowKit YtkfejicdjpffcaaW PrintWords PrintLast PrintMore U Aid HandAid Cod1 Cod2 Cod3 Ytkfejicdjpffcaa.Mod Enc Mods EncAt Put End Snc Pse Rpx Rva
/-- What a region is coded by: options, sides, the reference, the base of its contexts. -/
structure RQ where
 t : Int
 dx : Int
 dy : Int
 ty : Bool
 W : Int
 H : Int
 RW : Int
 RH : Int
 RP : List Int
 base : Int
def RQ.ctx (q : RQ) (P : List Int) (x y : Int) : Int := ctxP q.t q.dx q.dy q.W q.H P q.RW q.RH q.RP x y
def RQ.flat (q : RQ) (x y : Int) : Int × Bool := flatP q.RW q.RH q.RP (x - q.dx) (y - q.dy)
def RQ.typ (q : RQ) (P : List Int) (y : Int) : Bool := q.ty && rowP q.dx q.dy q.W q.H P q.RW q.RH q.RP y q.W.toNat 0
/-- The events of a row, from pixel i on. -/
def evX (q : RQ) (P : List Int) (y : Int) (typ : Bool) : Nat → Nat → List S72
 | 0, _ => []
 | d + 1, i => if typ = true ∧ (q.flat i y).2 = true then evX q P y typ d (i + 1) else ⟨q.base + q.ctx P i y, px q.W q.H P i y⟩ :: evX q P y typ d (i + 1)
def bit1 (b : Bool) : Int := if b = true then 1 else 0
/-- The event ahead of a row. -/
def evH (q : RQ) (P : List Int) (y : Int) : List S72 := if q.ty = true then [⟨q.base + ctxs q.t, bit1 (q.typ P y)⟩] else []
/-- The events of the rows from j on. -/
def evY (q : RQ) (P : List Int) : Nat → Nat → List S72
 | 0, _ => []
 | d + 1, j => evH q P j ++ (evX q P j (q.typ P j) q.W.toNat 0 ++ evY q P d (j + 1))
/-- The events of a region. -/
def evR (q : RQ) (P : List Int) : List S72 := evY q P q.H.toNat 0
theorem evX_len (q : RQ) (P : List Int) (y : Int) (typ : Bool) : ∀ d i, (evX q P y typ d i).length ≤ d
 | 0, i => Nat.le_refl _
 | d + 1, i => by
   unfold evX
   have := evX_len q P y typ d (i + 1)
   split
   · omega
   · rw [List.length_cons]; omega
theorem evH_len (q : RQ) (P : List Int) (y : Int) : (evH q P y).length ≤ 1 := by
 unfold evH
 split <;> simp
theorem evY_len (q : RQ) (P : List Int) : ∀ d j, (evY q P d j).length ≤ d * (q.W.toNat + 1)
 | 0, j => Nat.zero_le _
 | d + 1, j => by
   unfold evY
   have h1 := evY_len q P d (j + 1)
   have h2 := evX_len q P j (q.typ P j) q.W.toNat 0
   have h3 := evH_len q P j
   rw [List.length_append, List.length_append, Nat.succ_mul]
   omega
theorem evR_len (q : RQ) (P : List Int) (hw : q.W ≤ 200) (hh : q.H ≤ 200) : (evR q P).length ≤ 40200 := by
 have h1 := evY_len q P q.H.toNat 0
 have h2 : q.H.toNat * (q.W.toNat + 1) ≤ 200 * 201 := Nat.mul_le_mul (by omega) (by omega)
 unfold evR
 omega
/-- Events are put, one behind the other. -/
def putsI (s : ES) (l : List S72) : ES := l.foldl (fun s x => s.putI x.f0 x.f1) s
theorem putsI_cons (s : ES) (x : S72) (l : List S72) : putsI s (x :: l) = putsI (s.putI x.f0 x.f1) l := rfl
theorem putsI_ok : ∀ (l : List S72) (s : ES), s.ok → (putsI s l).ok
 | [], s, h => h
 | x :: l, s, h => putsI_ok l _ (ES.putI_ok h _ _)
theorem putsI_out : ∀ (l : List S72) (s : ES), (putsI s l).out.length ≤ s.out.length + 4 * l.length
 | [], s => by simp [putsI]
 | x :: l, s => by
   have h1 := putsI_out l (s.putI x.f0 x.f1)
   have h2 := (ES.putI_len s x.f0 x.f1).1
   rw [putsI_cons, List.length_cons]
   omega
theorem putsI_E : ∀ (l : List S72) (s : ES), l.all (goodL s.st.length) = true → putsE s l = (putsI s l, 0)
 | [], s, _ => rfl
 | x :: l, s, h => by
   rw [List.all_cons, Bool.and_eq_true] at h
   unfold putsE
   rw [if_pos (show s.err x.f0 x.f1 = 0 from if_pos h.1), putsI_cons]
   exact putsI_E l _ (by rw [(ES.putI_len s x.f0 x.f1).2.2]; exact h.2)
theorem ctxP_range {W H RW RH : Int} {P RP : List Int} (b : Bm W H P) (br : Bm RW RH RP) (t dx dy x y : Int) (ht : t = 0 ∨ t = 1) : 0 ≤ ctxP t dx dy W H P RW RH RP x y ∧ ctxP t dx dy W H P RW RH RP x y < ctxs t := by
 have h1 := ctxN_range b x y (news t) 0 (Int.le_refl _)
 have h2 := ctxN_range br (x - dx) (y - dy) besides (ctxN W H P x y (news t) 0) h1.1
 have e5 : (2 : Int) ^ besides.length = 32 := rfl
 rw [e5] at h2
 unfold ctxP ctxs
 rcases ht with rfl | rfl
 · have e : (2 : Int) ^ (news 0).length = 16 := rfl
   rw [e] at h1
   rw [if_pos rfl]
   omega
 · have e : (2 : Int) ^ (news 1).length = 4 := rfl
   rw [e] at h1
   rw [if_neg (by decide)]
   omega
theorem goodL_iff {n : Nat} {x : S72} : goodL n x = true ↔ (0 ≤ x.f0 ∧ x.f0 < n ∧ (x.f1 = 0 ∨ x.f1 = 1)) := by
 unfold goodL
 simp only [Bool.and_eq_true, Bool.or_eq_true, decide_eq_true_eq]
 exact and_assoc
theorem evX_good {q : RQ} {P : List Int} {n : Nat} (b : Bm q.W q.H P) (br : Bm q.RW q.RH q.RP) (ht : q.t = 0 ∨ q.t = 1) (hf : okF n q.base q.t = true) (y : Int) (typ : Bool) : ∀ d i, (evX q P y typ d i).all (goodL n) = true
 | 0, i => rfl
 | d + 1, i => by
   unfold evX
   split
   · exact evX_good b br ht hf y typ d (i + 1)
   · rw [List.all_cons, evX_good b br ht hf y typ d (i + 1), Bool.and_true, goodL_iff]
     have h1 := okF_iff.1 hf
     have h2 := ctxP_range b br q.t q.dx q.dy (i : Int) y ht
     have h3 := px_01 b (i : Int) y
     show 0 ≤ q.base + ctxP q.t q.dx q.dy q.W q.H P q.RW q.RH q.RP i y ∧ q.base + ctxP q.t q.dx q.dy q.W q.H P q.RW q.RH q.RP i y < n ∧ (px q.W q.H P i y = 0 ∨ px q.W q.H P i y = 1)
     omega
theorem evY_good {q : RQ} {P : List Int} {n : Nat} (b : Bm q.W q.H P) (br : Bm q.RW q.RH q.RP) (ht : q.t = 0 ∨ q.t = 1) (hf : okF n q.base q.t = true) : ∀ d j, (evY q P d j).all (goodL n) = true
 | 0, j => rfl
 | d + 1, j => by
   unfold evY
   rw [List.all_append, List.all_append, evY_good b br ht hf d (j + 1), evX_good b br ht hf, Bool.and_true, Bool.and_true]
   unfold evH
   split
   · rw [List.all_cons, List.all_nil, Bool.and_true, goodL_iff]
     have h1 := okF_iff.1 hf
     have hr := ctxs_range q.t
     refine ⟨by show 0 ≤ q.base + ctxs q.t; omega, by show q.base + ctxs q.t < n; omega, ?_⟩
     show bit1 _ = 0 ∨ bit1 _ = 1
     unfold bit1
     split
     · exact .inr rfl
     · exact .inl rfl
   · rfl
/-- What Put answers. -/
def putErr (q : RQ) (kd : Int) (P : List Int) (n : Nat) : Int := if okO q.t q.dx q.dy kd = true then (if okB q.W q.H P = true ∧ okB q.RW q.RH q.RP = true then (if okF n q.base q.t = true then 0 else 2) else 30) else 2
def putR (q : RQ) (kd : Int) (P : List Int) (s : ES) : ES × Int := (if putErr q kd P s.st.length = 0 then putsI s (evR q P) else s, putErr q kd P s.st.length)
theorem putErr_zero {q : RQ} {kd : Int} {P : List Int} {n : Nat} (h : putErr q kd P n = 0) : okO q.t q.dx q.dy kd = true ∧ okB q.W q.H P = true ∧ okB q.RW q.RH q.RP = true ∧ okF n q.base q.t = true := by
 unfold putErr at h
 split at h
 · split at h
   · split at h
     · rename_i a b c
       exact ⟨a, b.1, b.2, c⟩
     · exact absurd h (by decide)
   · exact absurd h (by decide)
 · exact absurd h (by decide)
end Go.Proofs.Ytkfejicdjpffcaa.Rev
namespace Go.Proofs.Ytkfejicdjpffcaa.Hsm
open Go Go.RowKit YtkfejicdjpffcaaW PrintWords PrintLast PrintMore U Aid HandAid Rpx Rva
section
attribute [local go_sem] max2_int min2_int max_two min_two max_four
set_option maxHeartbeats 4000000 in
set_option maxRecDepth 100000 in
theorem rvalid_calls (t dx dy : Int) (ty : Bool) (kd : Int) (w : World) : Calls Try.prog 14 #[.agg #[.int .i64 t, .int .i64 dx, .int .i64 dy, .bool ty, .int .i64 kd]] w fun e w' => e = .returned (.bool (okO t dx dy kd)) ∧ Below w.heap.size w w' := by
 have hu3 := Try.underlying23
 have hb := b1' (Below.refl w.heap.size w) (.cells #[.int .i64 t, .int .i64 dx, .int .i64 dy, .bool ty, .int .i64 kd] 23)
 obtain ⟨r, hr⟩ : ∃ r, okO t dx dy kd = r := ⟨_, rfl⟩
 rw [hr]
 have HR := Za (show r = decide (dx ≥ -200 ∧ dx ≤ 200 ∧ dy ≥ -200 ∧ dy ≤ 200 ∧ t ≥ 0 ∧ t ≤ 1 ∧ kd ≥ 0 ∧ kd ≤ 1) by rw [← hr]; unfold okO; rw [decide_eq_decide]; omega)
 clear hr
 have h : (¬ dx ≥ -200) ∨ (dx ≥ -200 ∧ ¬ dx ≤ 200) ∨ (dx ≥ -200 ∧ dx ≤ 200 ∧ ¬ dy ≥ -200) ∨ (dx ≥ -200 ∧ dx ≤ 200 ∧ dy ≥ -200 ∧ ¬ dy ≤ 200) ∨ (dx ≥ -200 ∧ dx ≤ 200 ∧ dy ≥ -200 ∧ dy ≤ 200 ∧ ¬ t ≥ 0) ∨ (dx ≥ -200 ∧ dx ≤ 200 ∧ dy ≥ -200 ∧ dy ≤ 200 ∧ t ≥ 0 ∧ ¬ t ≤ 1) ∨ (dx ≥ -200 ∧ dx ≤ 200 ∧ dy ≥ -200 ∧ dy ≤ 200 ∧ t ≥ 0 ∧ t ≤ 1 ∧ ¬ kd ≥ 0) ∨ (dx ≥ -200 ∧ dx ≤ 200 ∧ dy ≥ -200 ∧ dy ≤ 200 ∧ t ≥ 0 ∧ t ≤ 1 ∧ kd ≥ 0) := by omega
 rcases h with h1 | ⟨h1, h2⟩ | ⟨h1, h2, h3⟩ | ⟨h1, h2, h3, h4⟩ | ⟨h1, h2, h3, h4, h5⟩ | ⟨h1, h2, h3, h4, h5, h6⟩ | ⟨h1, h2, h3, h4, h5, h6, h7⟩ | ⟨h1, h2, h3, h4, h5, h6, h7⟩
 all_goals
  go_enter Try.func14, Try.ntmps14
  go_wp2_with (fail)
  go_ret
  refine ⟨(congrArg (fun b => Ending.returned (Value.bool b)) ?_ : Ending.returned (Value.bool _) = _), ?_⟩
  · rw [HR.out]
    first | (refine (decide_eq_false ?_).symm; omega) | (rw [decide_eq_decide]; omega)
  · first | exact hb | exact below_drew hb | exact b2' hb _
end
set_option maxHeartbeats 4000000 in
set_option maxRecDepth 100000 in
theorem asked_calls (t dx dy : Int) (ty : Bool) (kd : Int) (right : Bool) (base kind : Int) (A : Option Addr) (c : Nat) (st : List Int) (hst : st.length ≤ 8192) (r : Int) (hr : (if okO t dx dy kd = true then (if right = true then (if okF st.length base t = true then 0 else 2) else 30) else 2) = r) (w : World) :
 Calls Try.prog 68 #[.agg #[.int .i64 t, .int .i64 dx, .int .i64 dy, .bool ty, .int .i64 kd], .bool right, .int .i64 base, .agg #[.int .i64 kind, .slice A st.length c]] w fun e w' => e = .returned (.int .i64 r) ∧ Below w.heap.size w w' := by
 have hu3 := Try.underlying23
 have hu5 := Try.underlying45
 have HR := Za hr
 have hcx := ctxs_range t
 clear hr
 go_enter Try.func68, Try.ntmps68
 go_wp2_with (fail)
 obtain ⟨b7, hb7⟩ : ∃ x, w.heap.size + 1 = x := ⟨_, rfl⟩
 obtain ⟨b4, hb4⟩ : ∃ x, w.heap.size = x := ⟨_, rfl⟩
 obtain ⟨W1, hW1⟩ : ∃ x, (w.alloc (.cells #[.int .i64 t, .int .i64 dx, .int .i64 dy, .bool ty, .int .i64 kd] 23)).alloc (.cells #[.int .i64 kind, .slice A st.length c] 45) = x := ⟨_, rfl⟩
 have HB1 := Za (show Below w.heap.size w W1 from hW1 ▸ b1' (b1' (Below.refl _ _) _) _)
 have HZ7 := Za (show W1.heap[b7]? = some (.cells #[.int .i64 kind, .slice A st.length c] 45 (0, 0)) by
  have h := heap_new (w.alloc (.cells #[.int .i64 t, .int .i64 dx, .int .i64 dy, .bool ty, .int .i64 kd] 23)) (.cells #[.int .i64 kind, .slice A st.length c] 45)
  rw [World.size_alloc, hb7, hW1] at h
  exact h)
 have HZ4 := Za (show W1.heap[b4]? = some (.cells #[.int .i64 t, .int .i64 dx, .int .i64 dy, .bool ty, .int .i64 kd] 23 (0, 0)) by
  have h := heap_new w (.cells #[.int .i64 t, .int .i64 dx, .int .i64 dy, .bool ty, .int .i64 kd] 23)
  rw [hb4] at h
  rw [← hW1]
  exact k3' h _)
 rw [hb7, hb4, hW1]
 clear hb7 hb4 hW1
 refine (rvalid_calls t dx dy ty kd _).mono ?_
 rintro e W2 ⟨rfl, hb⟩
 have HB := Za (below_drew hb)
 have HB' := Za hb
 clear hb
 obtain ⟨vo, hvo⟩ : ∃ z, okO t dx dy kd = z := ⟨_, rfl⟩
 have hR := HR.out
 clear HR
 rw [hvo] at hR ⊢
 clear hvo
 cases vo
 · rw [if_neg (by decide)] at hR
   subst hR
   go_wp2_with (fail)
   go_ret
   exact ⟨rfl, below_then HB1.out HB1.out.size HB'.out⟩
 rw [if_pos rfl] at hR
 cases right
 · rw [if_neg (by decide)] at hR
   subst hR
   go_wp2_with (fail)
   go_ret
   exact ⟨rfl, below_then HB1.out HB1.out.size HB'.out⟩
 rw [if_pos rfl] at hR
 by_cases hb0 : base < 0
 · rw [if_neg (by rw [okF_iff]; omega)] at hR
   subst hR
   have e0 : decide (base < 0) = true := decide_eq_true hb0
   go_wp2_with (fail)
   refine start_ (n := 14) (S := fun w' => w'.cell? ⟨b7, 1, none⟩ = some (.slice A st.length c) ∧ w'.cell? ⟨b4, 0, none⟩ = some (.int .i64 t)) (ds := []) (B' 14 0) (by kernel_rfl) rfl rfl ⟨(Zc (Zd HZ7.out HB.out) 1).trans rfl, (Zc (Zd HZ4.out HB.out) 0).trans rfl⟩ (fun hHeld => ?_)
   refine u' 0 17 (B' 14 1) ?_ rfl rfl ?_ ?_ ?_ ?_; rotate_left; (intro w'; go_simp; with_reducible rfl); rotate_left; (simp only [Act.put, p1', p2', p3', w1', w2']; rfl)
   refine u' 1 18 (B' 14 3) ?_ rfl rfl ?_ ?_ ?_ ?_; rotate_left; (intro w'; go_simp; with_reducible rfl); rotate_left; (simp only [Act.put, p1', p2', p3', w1', w2']; rfl)
   refine u' 2 19 (B' 14 7) ?_ rfl rfl ?_ ?_ ?_ ?_; rotate_left; (intro w'; go_simp; with_reducible rfl); rotate_left; (simp only [Act.put, p1', p2', p3', w1', w2']; rfl)
   refine pure_ (i := 3) (N := some 20) (v := undef) (a' := ?_) (B' 14 15) rfl rfl (by kernel_rfl) (fun _ _ _ h => h) (Or.inr ⟨by rfl, rfl⟩) ?_ ?_
   rotate_left
   · simp only [Act.put, p1', p2', p3', w1', w2']
     rfl
   refine pure_ (i := 4) (N := some 21) (v := undef) (a' := ?_) (B' 14 31) rfl rfl (by kernel_rfl) (fun _ _ _ h => h) (Or.inr ⟨by rfl, rfl⟩) ?_ ?_
   rotate_left
   · simp only [Act.put, p1', p2', p3', w1', w2']
     rfl
   refine pure_ (i := 5) (N := some 22) (v := undef) (a' := ?_) (B' 14 63) rfl rfl (by kernel_rfl) (fun _ _ _ h => h) (Or.inr ⟨by rfl, rfl⟩) ?_ ?_
   rotate_left
   · simp only [Act.put, p1', p2', p3', w1', w2']
     rfl
   refine pure_ (i := 6) (N := some 23) (v := undef) (a' := ?_) (B' 14 127) rfl rfl (by kernel_rfl) (fun _ _ _ h => h) (Or.inr ⟨by rfl, rfl⟩) ?_ ?_
   rotate_left
   · simp only [Act.put, p1', p2', p3', w1', w2']
     rfl
   refine pure_ (i := 7) (N := some 24) (v := undef) (a' := ?_) (B' 14 255) rfl rfl (by kernel_rfl) (fun _ _ _ h => h) (Or.inr ⟨by rfl, rfl⟩) ?_ ?_
   rotate_left
   · simp only [Act.put, p1', p2', p3', w1', w2']
     rfl
   refine pure_ (i := 8) (N := some 25) (v := undef) (a' := ?_) (B' 14 511) rfl rfl (by kernel_rfl) (fun _ _ _ h => h) (Or.inr ⟨by rfl, rfl⟩) ?_ ?_
   rotate_left
   · simp only [Act.put, p1', p2', p3', w1', w2']
     rfl
   refine pure_ (i := 9) (N := some 26) (v := undef) (a' := ?_) (B' 14 1023) rfl rfl (by kernel_rfl) (fun _ _ _ h => h) (Or.inr ⟨by rfl, rfl⟩) ?_ ?_
   rotate_left
   · simp only [Act.put, p1', p2', p3', w1', w2']
     rfl
   refine pure_ (i := 10) (N := some 27) (v := undef) (a' := ?_) (B' 14 2047) rfl rfl (by kernel_rfl) (fun _ _ _ h => h) (Or.inr ⟨by rfl, rfl⟩) ?_ ?_
   rotate_left
   · simp only [Act.put, p1', p2', p3', w1', w2']
     rfl
   refine pure_ (i := 11) (N := some 28) (v := undef) (a' := ?_) (B' 14 4095) rfl rfl (by kernel_rfl) (fun _ _ _ h => h) (Or.inr ⟨by rfl, rfl⟩) ?_ ?_
   rotate_left
   · simp only [Act.put, p1', p2', p3', w1', w2']
     rfl
   refine u' 12 29 (B' 14 8191) ?_ rfl rfl ?_ ?_ ?_ ?_; rotate_left; (intro w'; go_simp; with_reducible rfl); rotate_left; (simp only [Act.put, p1', p2', p3', w1', w2']; rfl)
   refine u' 13 16 (B' 14 16383) ?_ rfl rfl ?_ ?_ ?_ ?_; rotate_left; (intro w'; go_simp; with_reducible rfl); rotate_left; (simp only [Act.put, p1', p2', p3', w1', w2']; rfl)
   refine done_ (by kernel_rfl) ?_
   go_wp2_with (fail)
   go_ret
   exact ⟨rfl, below_then HB1.out HB1.out.size HB.out⟩
 · have HR := Za hR
   clear hR
   have e0 : decide (base < 0) = false := decide_eq_false hb0
   go_wp2_with (fail)
   refine start_ (n := 14) (S := fun w' => w'.cell? ⟨b7, 1, none⟩ = some (.slice A st.length c) ∧ w'.cell? ⟨b4, 0, none⟩ = some (.int .i64 t)) (ds := []) (B' 14 0) (by kernel_rfl) rfl rfl ⟨(Zc (Zd HZ7.out HB.out) 1).trans rfl, (Zc (Zd HZ4.out HB.out) 0).trans rfl⟩ (fun hHeld => ?_)
   refine u' 0 17 (B' 14 1) ?_ rfl rfl ?_ ?_ ?_ ?_; rotate_left; (intro w'; go_simp; with_reducible rfl); rotate_left; (simp only [Act.put, p1', p2', p3', w1', w2']; rfl)
   refine u' 1 18 (B' 14 3) ?_ rfl rfl ?_ ?_ ?_ ?_; rotate_left; (intro w'; go_simp; with_reducible rfl); rotate_left; (simp only [Act.put, p1', p2', p3', w1', w2']; rfl)
   refine u' 2 19 (B' 14 7) ?_ rfl rfl ?_ ?_ ?_ ?_; rotate_left; (intro w'; go_simp; with_reducible rfl); rotate_left; (simp only [Act.put, p1', p2', p3', w1', w2']; rfl)
   refine u' 3 20 (B' 14 15) ?_ rfl rfl ?_ ?_ ?_ ?_; rotate_left; (intro w'; go_simp; with_reducible rfl); rotate_left; (simp only [Act.put, p1', p2', p3', w1', w2']; rfl)
   refine u' 4 21 (B' 14 31) ?_ rfl rfl ?_ ?_ ?_ ?_; rotate_left; (intro w'; go_simp; with_reducible rfl); rotate_left; (simp only [Act.put, p1', p2', p3', w1', w2']; rfl)
   refine u' 7 24 (B' 14 159) ?_ rfl rfl ?_ ?_ ?_ ?_; rotate_left; (intro w'; go_simp; with_reducible rfl); rotate_left; (simp only [Act.put, p1', p2', p3', w1', w2']; rfl)
   refine t' 5 22 (B' 14 191) ?_ rfl rfl ?_ hHeld ?_ ?_ ?_; rotate_left; (rintro w' ⟨s0, s1⟩; go_simp; with_reducible rfl); rotate_left; (simp only [Act.put, p1', p2', p3', w1', w2']; rfl)
   refine u' 6 23 (B' 14 255) ?_ rfl rfl ?_ ?_ ?_ ?_; rotate_left; (intro w'; go_simp; with_reducible rfl); rotate_left; (simp only [Act.put, p1', p2', p3', w1', w2']; rfl)
   refine t' 8 25 (B' 14 511) ?_ rfl rfl ?_ hHeld ?_ ?_ ?_; rotate_left; (rintro w' ⟨s0, s1⟩; go_simp; with_reducible rfl); rotate_left; (simp only [Act.put, p1', p2', p3', w1', w2']; rfl)
   refine one_ (i := 9) (N := some 26) (B' 14 1023) rfl rfl (by kernel_rfl) (by decide) (fun K hK => ?_)
   refine goes_ Try.func46 (by kernel_rfl) rfl #[.int .i64 t] (by rfl) rfl rfl (by simp only [List.map_toArray, List.map_cons, List.map_nil]; rfl) ?_
   with_reducible refine (incunableref08_size.calls t (ctxs t + 1) _ (size_eq t)).mono ?_
   rintro e X ⟨rfl, hdr⟩
   refine ⟨_, rfl, ?_⟩
   have HB2 := Za (below_then HB.out HB.out.size hdr.below)
   clear hdr
   refine hK.out _ _ ⟨(Zc (Zd HZ7.out HB2.out) 1).trans rfl, (Zc (Zd HZ4.out HB2.out) 0).trans rfl⟩ (fun hHeld => ?_)
   clear hK K
   refine n' ?_ ?_ ?_; rotate_left; (show Act.put _ (some 26) _ = _; simp only [Act.put, p1', p2', p3', w1', w2']; rfl)
   refine u' 10 27 (B' 14 2047) ?_ rfl rfl ?_ ?_ ?_ ?_; rotate_left; (intro w'; go_simp; with_reducible rfl); rotate_left; (simp only [Act.put, p1', p2', p3', w1', w2']; rfl)
   refine u' 11 28 (B' 14 4095) ?_ rfl rfl ?_ ?_ ?_ ?_; rotate_left; (intro w'; go_simp; with_reducible rfl); rotate_left; (simp only [Act.put, p1', p2', p3', w1', w2']; rfl)
   refine u' 12 29 (B' 14 8191) ?_ rfl rfl ?_ ?_ ?_ ?_; rotate_left; (intro w'; go_simp; with_reducible rfl); rotate_left; (simp only [Act.put, p1', p2', p3', w1', w2']; rfl)
   refine u' 13 16 (B' 14 16383) ?_ rfl rfl ?_ ?_ ?_ ?_; rotate_left; (intro w'; go_simp; with_reducible rfl); rotate_left; (simp only [Act.put, p1', p2', p3', w1', w2']; rfl)
   refine done_ (by kernel_rfl) ?_
   have hR := HR.out
   clear HR
   rw [wrap_id (n := (st.length : Int) - (ctxs t + 1)) (by omega) (by omega)]
   by_cases hb1 : base > (st.length : Int) - (ctxs t + 1)
   · rw [if_neg (by rw [okF_iff]; omega)] at hR
     subst hR
     go_wp2_with (fail)
     go_ret
     exact ⟨rfl, below_then HB1.out HB1.out.size HB2.out⟩
   · rw [if_pos (by rw [okF_iff]; omega)] at hR
     subst hR
     go_wp2_with (fail)
     go_ret
     exact ⟨rfl, below_then HB1.out HB1.out.size HB2.out⟩
set_option maxHeartbeats 4000000 in
set_option maxRecDepth 100000 in
theorem fits_calls (kind : Int) (A : Option Addr) (c : Nat) (st : List Int) (hst : st.length ≤ 8192) (base t dx dy : Int) (ty : Bool) (kd : Int) (r : Bool) (hr : okF st.length base t = r) (w : World) :
 Calls Try.prog 57 #[.agg #[.int .i64 kind, .slice A st.length c], .int .i64 base, .agg #[.int .i64 t, .int .i64 dx, .int .i64 dy, .bool ty, .int .i64 kd]] w fun e w' => e = .returned (.bool r) ∧ Below w.heap.size w w' := by
 have hu3 := Try.underlying23
 have hu5 := Try.underlying45
 have hcx := ctxs_range t
 have HR := Za hr
 clear hr
 obtain ⟨b3, hb3⟩ : ∃ x, w.heap.size = x := ⟨_, rfl⟩
 obtain ⟨b5, hb5⟩ : ∃ x, b3 + 1 = x := ⟨_, rfl⟩
 obtain ⟨W1, hW1⟩ : ∃ x, (w.alloc (.cells #[.int .i64 kind, .slice A st.length c] 45)).alloc (.cells #[.int .i64 t, .int .i64 dx, .int .i64 dy, .bool ty, .int .i64 kd] 23) = x := ⟨_, rfl⟩
 have HB1 := Za (show Below w.heap.size w W1 from hW1 ▸ b1' (b1' (Below.refl _ _) _) _)
 have HZ5 := Za (show W1.heap[b5]? = some (.cells #[.int .i64 t, .int .i64 dx, .int .i64 dy, .bool ty, .int .i64 kd] 23 (0, 0)) by
  have h := heap_new (w.alloc (.cells #[.int .i64 kind, .slice A st.length c] 45)) (.cells #[.int .i64 t, .int .i64 dx, .int .i64 dy, .bool ty, .int .i64 kd] 23)
  rw [World.size_alloc, hb3, hb5, hW1] at h
  exact h)
 have HZ3 := Za (show W1.heap[b3]? = some (.cells #[.int .i64 kind, .slice A st.length c] 45 (0, 0)) by
  have h := heap_new w (.cells #[.int .i64 kind, .slice A st.length c] 45)
  rw [hb3] at h
  rw [← hW1]
  exact k3' h _)
 have HB := Za (below_drew (Below.refl W1.heap.size W1))
 by_cases hb0 : base ≥ 0
 · have e0 : decide (base ≥ 0) = true := decide_eq_true hb0
   have e1 : decide (0 ≤ base) = true := decide_eq_true hb0
   go_enter Try.func57, Try.ntmps57
   go_wp2_with (fail)
   first | rw [hW1] | skip
   clear hW1 hb3 hb5
   refine start_ (n := 15) (S := fun w' => w'.cell? ⟨b3, 1, none⟩ = some (.slice A st.length c) ∧ w'.cell? ⟨b5, 0, none⟩ = some (.int .i64 t)) (ds := []) (B' 15 0) (by kernel_rfl) rfl rfl ⟨(Zc (Zd HZ3.out HB.out) 1).trans rfl, (Zc (Zd HZ5.out HB.out) 0).trans rfl⟩ (fun hHeld => ?_)
   refine u' 0 7 (B' 15 1) ?_ rfl rfl ?_ ?_ ?_ ?_; rotate_left; (intro w'; go_simp; with_reducible rfl); rotate_left; (simp only [Act.put, p1', p2', p3', w1', w2']; rfl)
   refine u' 1 8 (B' 15 3) ?_ rfl rfl ?_ ?_ ?_ ?_; rotate_left; (intro w'; go_simp; with_reducible rfl); rotate_left; (simp only [Act.put, p1', p2', p3', w1', w2']; rfl)
   refine u' 2 9 (B' 15 7) ?_ rfl rfl ?_ ?_ ?_ ?_; rotate_left; (intro w'; go_simp; with_reducible rfl); rotate_left; (simp only [Act.put, p1', p2', p3', w1', w2']; rfl)
   refine u' 3 10 (B' 15 15) ?_ rfl rfl ?_ ?_ ?_ ?_; rotate_left; (intro w'; go_simp; with_reducible rfl); rotate_left; (simp only [Act.put, p1', p2', p3', w1', w2']; rfl)
   refine u' 4 11 (B' 15 31) ?_ rfl rfl ?_ ?_ ?_ ?_; rotate_left; (intro w'; go_simp; with_reducible rfl); rotate_left; (simp only [Act.put, p1', p2', p3', w1', w2']; rfl)
   refine u' 7 14 (B' 15 159) ?_ rfl rfl ?_ ?_ ?_ ?_; rotate_left; (intro w'; go_simp; with_reducible rfl); rotate_left; (simp only [Act.put, p1', p2', p3', w1', w2']; rfl)
   refine t' 5 12 (B' 15 191) ?_ rfl rfl ?_ hHeld ?_ ?_ ?_; rotate_left; (rintro w' ⟨s0, s1⟩; go_simp; with_reducible rfl); rotate_left; (simp only [Act.put, p1', p2', p3', w1', w2']; rfl)
   refine u' 6 13 (B' 15 255) ?_ rfl rfl ?_ ?_ ?_ ?_; rotate_left; (intro w'; go_simp; with_reducible rfl); rotate_left; (simp only [Act.put, p1', p2', p3', w1', w2']; rfl)
   refine t' 8 15 (B' 15 511) ?_ rfl rfl ?_ hHeld ?_ ?_ ?_; rotate_left; (rintro w' ⟨s0, s1⟩; go_simp; with_reducible rfl); rotate_left; (simp only [Act.put, p1', p2', p3', w1', w2']; rfl)
   refine one_ (i := 9) (N := some 16) (B' 15 1023) rfl rfl (by kernel_rfl) (by decide) (fun K hK => ?_)
   refine goes_ Try.func45 (by kernel_rfl) rfl #[.int .i64 t] (by rfl) rfl rfl (by simp only [List.map_toArray, List.map_cons, List.map_nil]; rfl) ?_
   with_reducible refine (refine_contexts.calls t (ctxs t) _ (contexts_eq t)).mono ?_
   rintro e X ⟨rfl, hb⟩
   refine ⟨_, rfl, ?_⟩
   have HB2 := Za (below_then HB.out HB.out.size hb)
   clear hb
   refine hK.out _ _ ⟨(Zc (Zd HZ3.out HB2.out) 1).trans rfl, (Zc (Zd HZ5.out HB2.out) 0).trans rfl⟩ (fun hHeld => ?_)
   clear hK K
   refine n' ?_ ?_ ?_; rotate_left; (show Act.put _ (some 16) _ = _; simp only [Act.put, p1', p2', p3', w1', w2']; rfl)
   refine u' 10 17 (B' 15 2047) ?_ rfl rfl ?_ ?_ ?_ ?_; rotate_left; (intro w'; go_simp; with_reducible rfl); rotate_left; (simp only [Act.put, p1', p2', p3', w1', w2']; rfl)
   refine u' 11 18 (B' 15 4095) ?_ rfl rfl ?_ ?_ ?_ ?_; rotate_left; (intro w'; go_simp; with_reducible rfl); rotate_left; (simp only [Act.put, p1', p2', p3', w1', w2']; rfl)
   refine u' 12 19 (B' 15 8191) ?_ rfl rfl ?_ ?_ ?_ ?_; rotate_left; (intro w'; go_simp; with_reducible rfl); rotate_left; (simp only [Act.put, p1', p2', p3', w1', w2']; rfl)
   refine u' 13 20 (B' 15 16383) ?_ rfl rfl ?_ ?_ ?_ ?_; rotate_left; (intro w'; go_simp; with_reducible rfl); rotate_left; (simp only [Act.put, p1', p2', p3', w1', w2']; rfl)
   refine u' 14 6 (B' 15 32767) ?_ rfl rfl ?_ ?_ ?_ ?_; rotate_left; (intro w'; go_simp; with_reducible rfl); rotate_left; (simp only [Act.put, p1', p2', p3', w1', w2']; rfl)
   refine done_ (by kernel_rfl) ?_
   have hR := HR.out
   clear HR
   rw [wrap_id (n := (st.length : Int) - ctxs t) (by omega) (by omega), wrap_id (n := (st.length : Int) - ctxs t - 1) (by omega) (by omega)]
   have HR := Za hR
   clear hR
   go_wp2_with (fail)
   go_ret
   refine ⟨(congrArg (fun b => Ending.returned (Value.bool b)) ?_ : Ending.returned (Value.bool _) = _), below_then HB1.out HB1.out.size HB2.out⟩
   rw [← HR.out]
   unfold okF
   rw [decide_eq_decide]
   omega
 · have e1 : r = false := by rw [← HR.out]; unfold okF; exact decide_eq_false (by omega)
   subst e1
   clear HR
   have e0 : decide (base ≥ 0) = false := decide_eq_false hb0
   have e1 : decide (0 ≤ base) = false := decide_eq_false hb0
   go_enter Try.func57, Try.ntmps57
   go_wp2_with (fail)
   first | rw [hW1] | skip
   clear hW1 hb3 hb5
   refine start_ (n := 15) (S := fun w' => w'.cell? ⟨b3, 1, none⟩ = some (.slice A st.length c) ∧ w'.cell? ⟨b5, 0, none⟩ = some (.int .i64 t)) (ds := []) (B' 15 0) (by kernel_rfl) rfl rfl ⟨(Zc (Zd HZ3.out HB.out) 1).trans rfl, (Zc (Zd HZ5.out HB.out) 0).trans rfl⟩ (fun hHeld => ?_)
   refine u' 0 7 (B' 15 1) ?_ rfl rfl ?_ ?_ ?_ ?_; rotate_left; (intro w'; go_simp; with_reducible rfl); rotate_left; (simp only [Act.put, p1', p2', p3', w1', w2']; rfl)
   refine u' 1 8 (B' 15 3) ?_ rfl rfl ?_ ?_ ?_ ?_; rotate_left; (intro w'; go_simp; with_reducible rfl); rotate_left; (simp only [Act.put, p1', p2', p3', w1', w2']; rfl)
   refine u' 2 9 (B' 15 7) ?_ rfl rfl ?_ ?_ ?_ ?_; rotate_left; (intro w'; go_simp; with_reducible rfl); rotate_left; (simp only [Act.put, p1', p2', p3', w1', w2']; rfl)
   refine pure_ (i := 3) (N := some 10) (v := undef) (a' := ?_) (B' 15 15) rfl rfl (by kernel_rfl) (fun _ _ _ h => h) (Or.inr ⟨by rfl, rfl⟩) ?_ ?_
   rotate_left
   · simp only [Act.put, p1', p2', p3', w1', w2']
     rfl
   refine pure_ (i := 4) (N := some 11) (v := undef) (a' := ?_) (B' 15 31) rfl rfl (by kernel_rfl) (fun _ _ _ h => h) (Or.inr ⟨by rfl, rfl⟩) ?_ ?_
   rotate_left
   · simp only [Act.put, p1', p2', p3', w1', w2']
     rfl
   refine pure_ (i := 5) (N := some 12) (v := undef) (a' := ?_) (B' 15 63) rfl rfl (by kernel_rfl) (fun _ _ _ h => h) (Or.inr ⟨by rfl, rfl⟩) ?_ ?_
   rotate_left
   · simp only [Act.put, p1', p2', p3', w1', w2']
     rfl
   refine pure_ (i := 6) (N := some 13) (v := undef) (a' := ?_) (B' 15 127) rfl rfl (by kernel_rfl) (fun _ _ _ h => h) (Or.inr ⟨by rfl, rfl⟩) ?_ ?_
   rotate_left
   · simp only [Act.put, p1', p2', p3', w1', w2']
     rfl
   refine pure_ (i := 7) (N := some 14) (v := undef) (a' := ?_) (B' 15 255) rfl rfl (by kernel_rfl) (fun _ _ _ h => h) (Or.inr ⟨by rfl, rfl⟩) ?_ ?_
   rotate_left
   · simp only [Act.put, p1', p2', p3', w1', w2']
     rfl
   refine pure_ (i := 8) (N := some 15) (v := undef) (a' := ?_) (B' 15 511) rfl rfl (by kernel_rfl) (fun _ _ _ h => h) (Or.inr ⟨by rfl, rfl⟩) ?_ ?_
   rotate_left
   · simp only [Act.put, p1', p2', p3', w1', w2']
     rfl
   refine pure_ (i := 9) (N := some 16) (v := undef) (a' := ?_) (B' 15 1023) rfl rfl (by kernel_rfl) (fun _ _ _ h => h) (Or.inr ⟨by rfl, rfl⟩) ?_ ?_
   rotate_left
   · simp only [Act.put, p1', p2', p3', w1', w2']
     rfl
   refine pure_ (i := 10) (N := some 17) (v := undef) (a' := ?_) (B' 15 2047) rfl rfl (by kernel_rfl) (fun _ _ _ h => h) (Or.inr ⟨by rfl, rfl⟩) ?_ ?_
   rotate_left
   · simp only [Act.put, p1', p2', p3', w1', w2']
     rfl
   refine pure_ (i := 11) (N := some 18) (v := undef) (a' := ?_) (B' 15 4095) rfl rfl (by kernel_rfl) (fun _ _ _ h => h) (Or.inr ⟨by rfl, rfl⟩) ?_ ?_
   rotate_left
   · simp only [Act.put, p1', p2', p3', w1', w2']
     rfl
   refine pure_ (i := 12) (N := some 19) (v := undef) (a' := ?_) (B' 15 8191) rfl rfl (by kernel_rfl) (fun _ _ _ h => h) (Or.inr ⟨by rfl, rfl⟩) ?_ ?_
   rotate_left
   · simp only [Act.put, p1', p2', p3', w1', w2']
     rfl
   refine u' 13 20 (B' 15 16383) ?_ rfl rfl ?_ ?_ ?_ ?_; rotate_left; (intro w'; go_simp; with_reducible rfl); rotate_left; (simp only [Act.put, p1', p2', p3', w1', w2']; rfl)
   refine u' 14 6 (B' 15 32767) ?_ rfl rfl ?_ ?_ ?_ ?_; rotate_left; (intro w'; go_simp; with_reducible rfl); rotate_left; (simp only [Act.put, p1', p2', p3', w1', w2']; rfl)
   refine done_ (by kernel_rfl) ?_
   go_wp2_with (fail)
   go_ret
   exact ⟨rfl, below_then HB1.out HB1.out.size HB.out⟩
end Go.Proofs.Ytkfejicdjpffcaa.Hsm
namespace Go.Proofs.Ytkfejicdjpffcaa.Rpt
open Go Go.RowKit YtkfejicdjpffcaaW PrintWords PrintLast PrintMore U Aid HandAid Cod1 Cod2 Cod3 Ytkfejicdjpffcaa.Mod NewRef Enc Mods EncAt Put End Snc RefAt RefPut RefEnd Pse Pwk Rpx Rva Rfl Rcx Rty Rev
theorem _root_.Go.Proofs.Ytkfejicdjpffcaa.Pwk.PW.rebase {At : World → (Nat → Prop) → Nat → ES → Prop} [EnL At] {w W8 V : World} {S S8 : Nat → Prop} {g : Nat} {s : ES} (h : PW At W8 S8 g s V) (hm : Mods w W8 S) (hsub : ∀ k, S8 k → S k ∨ w.heap.size ≤ k) : PW At w S g s V :=
 ⟨EnL.mono h.e (fun k hk => ⟨hk.1.elim (hsub k) (fun h => .inr (Nat.le_trans hm.size h)), hk.2⟩), hm.then_ h.m hsub, h.ok⟩
theorem _root_.Go.Proofs.Ytkfejicdjpffcaa.Pwk.PW.put_eq {w W : World} {S : Nat → Prop} {g : Nat} {s : ES} (H : PW EncAt w S g s W) (hlen : s.out.length ≤ 1099511627776) (i bit : Int) {i' bit' : Int} (hi : i' = i) (hb : bit' = bit) :
 Calls Try.prog 28 #[.pointer (some ⟨g, 0, none⟩), .int .i64 i', .int .i64 bit'] W fun e W' => e = .returned (.int .i64 (s.err i bit)) ∧ PW EncAt w S g (s.putI i bit) W' := by
 subst hi hb
 exact H.put hlen _ _
theorem put_none (s : ES) : s.err (-1) 0 = 2 ∧ s.putI (-1) 0 = s := by
 have h : s.good (-1) 0 = false := by simp [ES.good]
 unfold ES.err ES.putI
 rw [h]
 exact ⟨rfl, rfl⟩
set_option maxHeartbeats 8000000 in
set_option maxRecDepth 100000 in
theorem rput_calls (w : World) (S : Nat → Prop) (g : Nat) (s : ES) (base t dx dy : Int) (ty : Bool) (kd W H : Int) (AB : Option Addr) (cB : Nat) (P : List Int) (RW RH : Int) (AR : Option Addr) (cR : Nat) (RP : List Int) (hE : EncAt w S g s) (hS : ∀ k, S k → k < w.heap.size) (hok : s.ok) (hlen : s.out.length ≤ 1000000000) (hdx : -9223372036854775808 ≤ dx ∧ dx ≤ 9223372036854775807) (hdy : -9223372036854775808 ≤ dy ∧ dy ≤ 9223372036854775807) (hB : ∀ V, Mods w V S → Kd.C (Kd.int .u8) V AB P.length P) (hcB : P.length ≤ cB) (hA : ∀ V, Mods w V S → Kd.C (Kd.int .u8) V AR RP.length RP) (hcR : RP.length ≤ cR) (hbP : Bytes P) (hbR : Bytes RP) (q : RQ) (hq : q = ⟨t, dx, dy, ty, W, H, RW, RH, RP, base⟩) (R : ES × Int) (hR : putR q kd P s = R) :
 Calls Try.prog 25 #[.pointer (some ⟨g, 0, none⟩), .int .i64 base, .agg #[.int .i64 t, .int .i64 dx, .int .i64 dy, .bool ty, .int .i64 kd], .agg #[.int .i64 W, .int .i64 H, .slice AB P.length cB], .agg #[.int .i64 RW, .int .i64 RH, .slice AR RP.length cR]] w fun e V => e = .returned (.int .i64 R.2) ∧ PW EncAt w S g R.1 V := by
 have HB := Za hB
 have HA := Za hA
 have HS := Za hS
 have HbP := Za hbP
 have HbR := Za hbR
 have HE := Za hE
 have HQF := Za (show ∀ x y, q.flat x y = flatP RW RH RP (x - dx) (y - dy) from fun x y => by rw [hq]; rfl)
 have HQC := Za (show ∀ x y, (⟨q.base + q.ctx P x y, px q.W q.H P x y⟩ : S72) = ⟨base + ctxP t dx dy W H P RW RH RP x y, px W H P x y⟩ from fun x y => by rw [hq]; rfl)
 have HQQ := Za hq
 have hst : s.st.length ≤ 8192 := hok.m.2.1
 have hmP : P.length ≤ 9223372036854775807 := Kd.C_max (hB w (Mods.refl w S))
 have hmR : RP.length ≤ 9223372036854775807 := Kd.C_max (hA w (Mods.refl w S))
 have HOK := Za hok
 unfold putR at hR
 have hE1 : putErr q kd P s.st.length = if okO t dx dy kd = true then (if okB W H P = true ∧ okB RW RH RP = true then (if okF s.st.length base t = true then 0 else 2) else 30) else 2 := by rw [hq]; rfl
 rw [hE1] at hR
 have HR := Za hR
 have hu1 := Try.underlying109
 have hu2 := Try.underlying107
 have hu3 := Try.underlying23
 have hu4 := Try.underlying31
 have hu5 := Try.underlying45
 clear hB hA hS hbP hbR hE hok hR hE1 hq
 go_enter Try.func25, Try.ntmps25
 go_wp2_with (fail)
 obtain ⟨b9, hb9⟩ : ∃ x, w.heap.size + 1 + 1 = x := ⟨_, rfl⟩
 obtain ⟨b8, hb8⟩ : ∃ x, w.heap.size + 1 = x := ⟨_, rfl⟩
 obtain ⟨b7, hb7⟩ : ∃ x, w.heap.size = x := ⟨_, rfl⟩
 obtain ⟨W1, hW1⟩ : ∃ x, ((w.alloc (.cells #[.int .i64 t, .int .i64 dx, .int .i64 dy, .bool ty, .int .i64 kd] 23)).alloc (.cells #[.int .i64 W, .int .i64 H, .slice AB P.length cB] 31)).alloc (.cells #[.int .i64 RW, .int .i64 RH, .slice AR RP.length cR] 31) = x := ⟨_, rfl⟩
 have HB1 := Za (show Below w.heap.size w W1 from hW1 ▸ b1' (b1' (b1' (Below.refl _ _) _) _) _)
 have HZ9 := Za (show W1.heap[b9]? = some (.cells #[.int .i64 RW, .int .i64 RH, .slice AR RP.length cR] 31 (0, 0)) by
  have h := heap_new ((w.alloc (.cells #[.int .i64 t, .int .i64 dx, .int .i64 dy, .bool ty, .int .i64 kd] 23)).alloc (.cells #[.int .i64 W, .int .i64 H, .slice AB P.length cB] 31)) (.cells #[.int .i64 RW, .int .i64 RH, .slice AR RP.length cR] 31)
  rw [World.size_alloc, World.size_alloc, hb9, hW1] at h
  exact h)
 have HZ8 := Za (show W1.heap[b8]? = some (.cells #[.int .i64 W, .int .i64 H, .slice AB P.length cB] 31 (0, 0)) by
  have h := heap_new (w.alloc (.cells #[.int .i64 t, .int .i64 dx, .int .i64 dy, .bool ty, .int .i64 kd] 23)) (.cells #[.int .i64 W, .int .i64 H, .slice AB P.length cB] 31)
  rw [World.size_alloc, hb8] at h
  rw [← hW1]
  exact k3' h _)
 have HZ7 := Za (show W1.heap[b7]? = some (.cells #[.int .i64 t, .int .i64 dx, .int .i64 dy, .bool ty, .int .i64 kd] 23 (0, 0)) by
  have h := heap_new w (.cells #[.int .i64 t, .int .i64 dx, .int .i64 dy, .bool ty, .int .i64 kd] 23)
  rw [hb7] at h
  rw [← hW1]
  exact k3' (k3' h _) _)
 have HLT := Za (show b7 < W1.heap.size ∧ b8 < W1.heap.size ∧ b9 < W1.heap.size from ⟨blk_lt HZ7.out, blk_lt HZ8.out, blk_lt HZ9.out⟩)
 have HGE := Za (show w.heap.size ≤ b7 ∧ w.heap.size ≤ b8 ∧ w.heap.size ≤ b9 by omega)
 rw [hb9, hb8, hb7, hW1]
 clear hb9 hb8 hb7 hW1
 have HP1 := Za (PW.start (At := EncAt) (HE.out.below HB1.out) (fun k hk => Nat.lt_of_lt_of_le (HS.out k hk) HB1.out.size) HOK.out)
 have hp1 := HP1.out.put (by omega) (-1) 0
 rw [(put_none s).1, (put_none s).2] at hp1
 refine hp1.mono ?_
 rintro e W2 ⟨rfl, hP⟩
 have HM2 := Za ((Mods.of_below HB1.out S).then_ hP.m (fun k hk => .inl hk))
 have HP2 := Za hP
 have HZ7 := Za (blk_mods HZ7.out hP.m (fun hk => by have := HS.out _ hk; have := HGE.out; omega))
 have HZ8 := Za (blk_mods HZ8.out hP.m (fun hk => by have := HS.out _ hk; have := HGE.out; omega))
 have HZ9 := Za (blk_mods HZ9.out hP.m (fun hk => by have := HS.out _ hk; have := HGE.out; omega))
 clear hP hp1
 have q0 : W2.cell? ⟨b7, 0, none⟩ = some (.int .i64 t) := (Zc HZ7.out 0).trans rfl
 have q1 : W2.cell? ⟨b7, 1, none⟩ = some (.int .i64 dx) := (Zc HZ7.out 1).trans rfl
 have q2 : W2.cell? ⟨b7, 2, none⟩ = some (.int .i64 dy) := (Zc HZ7.out 2).trans rfl
 have q3 : W2.cell? ⟨b7, 3, none⟩ = some (.bool ty) := (Zc HZ7.out 3).trans rfl
 have q4 : W2.cell? ⟨b7, 4, none⟩ = some (.int .i64 kd) := (Zc HZ7.out 4).trans rfl
 go_wp2_with (fail)
 refine (refine_Valid.calls t dx dy ty kd _ _ (valid_eq t dx dy ty kd hdx hdy)).mono ?_
 rintro e W3 ⟨rfl, hb⟩
 have HD3 := Za hb
 have HP3 := Za (HP2.out.below hb)
 clear hb q0 q1 q2 q3 q4
 have fin : ∀ V, PW EncAt W1 S g s V → PW EncAt w S g s V := fun V hV => hV.rebase (Mods.of_below HB1.out S) (fun k hk => .inl hk)
 have FIN := Za fin
 clear fin
 obtain ⟨vo, hvo⟩ : ∃ x, okO t dx dy kd = x := ⟨_, rfl⟩
 have hR := HR.out
 clear HR
 rw [hvo] at hR ⊢
 cases vo
 · rw [if_neg (show ¬ (false = true) by decide), if_neg (show ¬ ((2 : Int) = 0) by decide)] at hR
   subst hR
   clear hvo
   go_wp2_with (fail)
   go_ret
   exact ⟨rfl, FIN.out _ HP3.out⟩
 rw [if_pos (show true = true from rfl)] at hR
 have hoo := okO_iff.1 hvo
 have HOO := Za hoo
 have HR := Za hR
 have HT := Za hoo.1
 clear hvo hR hoo
 have hMk : ∀ V, Below W2.heap.size W2 V → Mods w V S := fun V hV => HM2.out.below hV
 have HMk := Za hMk
 clear hMk
 have q0 : W3.cell? ⟨b8, 0, none⟩ = some (.int .i64 W) := (Zc (Zd HZ8.out HD3.out) 0).trans rfl
 have q1 : W3.cell? ⟨b8, 1, none⟩ = some (.int .i64 H) := (Zc (Zd HZ8.out HD3.out) 1).trans rfl
 have q2 : W3.cell? ⟨b8, 2, none⟩ = some (.slice AB P.length cB) := (Zc (Zd HZ8.out HD3.out) 2).trans rfl
 go_wp2_with (fail)
 obtain ⟨K1, hK1⟩ := Ev.rounds (bvalid_ev W H P hmP)
 refine (bitmap_Valid.calls K1 W H AB cB P _ _ (HB.out _ (HMk.out _ HD3.out)) hcB hK1).mono ?_
 rintro e W4 ⟨rfl, hb⟩
 have HD4 := Za (below_then HD3.out HD3.out.size hb)
 have HP4 := Za (HP3.out.below hb)
 clear hb q0 q1 q2 hK1
 obtain ⟨vb, hvb⟩ : ∃ x, okB W H P = x := ⟨_, rfl⟩
 have hR := HR.out
 clear HR
 rw [hvb] at hR ⊢
 cases vb
 · rw [if_neg (show ¬ (false = true ∧ okB RW RH RP = true) by simp), if_neg (show ¬ ((30 : Int) = 0) by decide)] at hR
   subst hR
   clear hvb
   go_wp2_with (fail)
   go_ret
   exact ⟨rfl, FIN.out _ HP4.out⟩
 have HBM := Za (okB_bm HbP.out hvb).1
 clear hvb
 have HR := Za hR
 clear hR
 have q0 : W4.cell? ⟨b9, 0, none⟩ = some (.int .i64 RW) := (Zc (Zd HZ9.out HD4.out) 0).trans rfl
 have q1 : W4.cell? ⟨b9, 1, none⟩ = some (.int .i64 RH) := (Zc (Zd HZ9.out HD4.out) 1).trans rfl
 have q2 : W4.cell? ⟨b9, 2, none⟩ = some (.slice AR RP.length cR) := (Zc (Zd HZ9.out HD4.out) 2).trans rfl
 go_wp2_with (fail)
 obtain ⟨K2, hK2⟩ := Ev.rounds (bvalid_ev RW RH RP hmR)
 refine (bitmap_Valid.calls K2 RW RH AR cR RP _ _ (HA.out _ (HMk.out _ HD4.out)) hcR hK2).mono ?_
 rintro e W5 ⟨rfl, hb⟩
 have HD5 := Za (below_drew (below_then HD4.out HD4.out.size hb))
 have HP5 := Za (HP4.out.below hb)
 have HD5' := Za (below_then HD4.out HD4.out.size hb)
 clear hb q0 q1 q2 hK2
 obtain ⟨vr, hvr⟩ : ∃ x, okB RW RH RP = x := ⟨_, rfl⟩
 have hR := HR.out
 clear HR
 rw [hvr] at hR ⊢
 cases vr
 · rw [if_neg (show ¬ (True ∧ false = true) by simp), if_neg (show ¬ ((30 : Int) = 0) by decide)] at hR
   subst hR
   clear hvr
   go_wp2_with (fail)
   go_ret
   exact ⟨rfl, FIN.out _ HP5.out⟩
 have HBR := Za (okB_bm HbR.out hvr).1
 clear hvr
 rw [if_pos (show True ∧ true = true from ⟨trivial, rfl⟩)] at hR
 obtain ⟨FT, hFT⟩ : ∃ x, okF s.st.length base t = x := ⟨_, rfl⟩
 rw [hFT] at hR
 have HR := Za hR
 have HFF := Za hFT
 clear hR hFT
 go_wp2_with (fail)
 refine start_ (n := 7) (S := fun w' => w'.cell? ⟨b7, 0, none⟩ = some (.int .i64 t) ∧ w'.cell? ⟨b7, 1, none⟩ = some (.int .i64 dx) ∧ w'.cell? ⟨b7, 2, none⟩ = some (.int .i64 dy) ∧ w'.cell? ⟨b7, 3, none⟩ = some (.bool ty) ∧ w'.cell? ⟨b7, 4, none⟩ = some (.int .i64 kd)) (ds := []) (B' 7 0) (by kernel_rfl) rfl rfl ⟨(Zc (Zd HZ7.out HD5.out) 0).trans rfl, (Zc (Zd HZ7.out HD5.out) 1).trans rfl, (Zc (Zd HZ7.out HD5.out) 2).trans rfl, (Zc (Zd HZ7.out HD5.out) 3).trans rfl, (Zc (Zd HZ7.out HD5.out) 4).trans rfl⟩ (fun hHeld => ?_)
 refine u' 0 36 (B' 7 1) ?_ rfl rfl ?_ ?_ ?_ ?_; rotate_left; (intro w'; go_simp; with_reducible rfl); rotate_left; (simp only [Act.put, p1', p2', p3', w1', w2']; rfl)
 refine u' 2 38 (B' 7 5) ?_ rfl rfl ?_ ?_ ?_ ?_; rotate_left; (intro w'; go_simp; with_reducible rfl); rotate_left; (simp only [Act.put, p1', p2', p3', w1', w2']; rfl)
 refine t' 3 39 (B' 7 13) ?_ rfl rfl ?_ hHeld ?_ ?_ ?_; rotate_left; (rintro w' ⟨s0, s1, s2, s3, s4⟩; go_simp; with_reducible rfl); rotate_left; (simp only [Act.put, p1', p2', p3', w1', w2']; rfl)
 refine one_ (i := 1) (N := some 37) (B' 7 15) rfl rfl (by kernel_rfl) (by decide) (fun K hK => ?_)
 refine goes_ Try.func32 (by kernel_rfl) rfl #[.pointer (some ⟨g, 0, none⟩)] (by rfl) rfl rfl (by simp only [List.map_toArray, List.map_cons, List.map_nil]; rfl) ?_
 with_reducible refine (model_calls _ _ _ _ (HP5.out.below (below_drew (Below.refl _ _))).e (HP5.out.below (below_drew (Below.refl _ _))).ok).mono ?_
 rintro e W6 ⟨A6, c6, rfl, hM6, hb⟩
 refine ⟨_, rfl, ?_⟩
 have HD6 := Za (below_then HD5.out HD5.out.size hb)
 have HP6 := Za ((HP5.out.below (below_drew (Below.refl _ _))).below hb)
 have hc6 := (Kd.R_reads' hM6).2.1
 have HM6 := Za (Kd.R_reads' hM6).2.2
 clear hb hM6
 refine hK.out _ _ ⟨(Zc (Zd HZ7.out HD6.out) 0).trans rfl, (Zc (Zd HZ7.out HD6.out) 1).trans rfl, (Zc (Zd HZ7.out HD6.out) 2).trans rfl, (Zc (Zd HZ7.out HD6.out) 3).trans rfl, (Zc (Zd HZ7.out HD6.out) 4).trans rfl⟩ (fun hHeld => ?_)
 clear hK K
 refine n' ?_ ?_ ?_; rotate_left; (show Act.put _ (some 37) _ = _; simp only [Act.put, p1', p2', p3', w1', w2']; rfl)
 refine one_ (i := 4) (N := some 40) (B' 7 31) rfl rfl (by kernel_rfl) (by decide) (fun K hK => ?_)
 refine goes_ Try.func57 (by kernel_rfl) rfl #[.agg #[.int .i64 s.kind, .slice A6 s.st.length c6], .int .i64 base, .agg #[.int .i64 t, .int .i64 dx, .int .i64 dy, .bool ty, .int .i64 kd]] (by rfl) rfl rfl (by simp only [List.map_toArray, List.map_cons, List.map_nil]; rfl) ?_
 with_reducible refine (Hsm.fits_calls s.kind A6 c6 s.st hst base t dx dy ty kd FT HFF.out _).mono ?_
 rintro e W7 ⟨rfl, hb⟩
 refine ⟨_, rfl, ?_⟩
 have HD7 := Za (below_then HD6.out HD6.out.size hb)
 have HP7 := Za (HP6.out.below hb)
 clear hb
 refine hK.out _ _ ⟨(Zc (Zd HZ7.out HD7.out) 0).trans rfl, (Zc (Zd HZ7.out HD7.out) 1).trans rfl, (Zc (Zd HZ7.out HD7.out) 2).trans rfl, (Zc (Zd HZ7.out HD7.out) 3).trans rfl, (Zc (Zd HZ7.out HD7.out) 4).trans rfl⟩ (fun hHeld => ?_)
 clear hK K
 refine n' ?_ ?_ ?_; rotate_left; (show Act.put _ (some 40) _ = _; simp only [Act.put, p1', p2', p3', w1', w2']; rfl)
 refine u' 5 41 (B' 7 63) ?_ rfl rfl ?_ ?_ ?_ ?_; rotate_left; (intro w'; go_simp; with_reducible rfl); rotate_left; (simp only [Act.put, p1', p2', p3', w1', w2']; rfl)
 refine u' 6 35 (B' 7 127) ?_ rfl rfl ?_ ?_ ?_ ?_; rotate_left; (intro w'; go_simp; with_reducible rfl); rotate_left; (simp only [Act.put, p1', p2', p3', w1', w2']; rfl)
 refine done_ (by kernel_rfl) ?_
 have hR := HR.out
 clear HR
 cases FT
 · rw [if_neg (show ¬ (false = true) by decide), if_neg (show ¬ ((2 : Int) = 0) by decide)] at hR
   subst hR
   go_wp2_with (fail)
   go_ret
   exact ⟨rfl, FIN.out _ HP7.out⟩
 rw [if_pos (show true = true from rfl), if_pos (show (0 : Int) = 0 from rfl)] at hR
 have hff := okF_iff.1 HFF.out
 have HR := Za hR
 clear hR
 have q0 : W7.cell? ⟨b7, 0, none⟩ = some (.int .i64 t) := (Zc (Zd HZ7.out HD7.out) 0).trans rfl
 have q1 : W7.cell? ⟨b7, 1, none⟩ = some (.int .i64 dx) := (Zc (Zd HZ7.out HD7.out) 1).trans rfl
 have q2 : W7.cell? ⟨b7, 2, none⟩ = some (.int .i64 dy) := (Zc (Zd HZ7.out HD7.out) 2).trans rfl
 have q3 : W7.cell? ⟨b7, 3, none⟩ = some (.bool ty) := (Zc (Zd HZ7.out HD7.out) 3).trans rfl
 have q4 : W7.cell? ⟨b7, 4, none⟩ = some (.int .i64 kd) := (Zc (Zd HZ7.out HD7.out) 4).trans rfl
 have q5 : W7.cell? ⟨b8, 0, none⟩ = some (.int .i64 W) := (Zc (Zd HZ8.out HD7.out) 0).trans rfl
 have q6 : W7.cell? ⟨b8, 1, none⟩ = some (.int .i64 H) := (Zc (Zd HZ8.out HD7.out) 1).trans rfl
 have q7 : W7.cell? ⟨b8, 2, none⟩ = some (.slice AB P.length cB) := (Zc (Zd HZ8.out HD7.out) 2).trans rfl
 have q8 : W7.cell? ⟨b9, 0, none⟩ = some (.int .i64 RW) := (Zc (Zd HZ9.out HD7.out) 0).trans rfl
 have q9 : W7.cell? ⟨b9, 1, none⟩ = some (.int .i64 RH) := (Zc (Zd HZ9.out HD7.out) 1).trans rfl
 have q10 : W7.cell? ⟨b9, 2, none⟩ = some (.slice AR RP.length cR) := (Zc (Zd HZ9.out HD7.out) 2).trans rfl
 go_wp2_with (fail)
 refine (newRegion_calls _ t dx dy ty kd W H _ RW RH _ AB P.length cB AR RP.length cR rfl rfl).mono ?_
 rintro e W8 ⟨gr, rfl, hgr, hZg, hb⟩
 have HD8 := Za (below_then HD7.out HD7.out.size hb)
 clear q0 q1 q2 q3 q4 q5 q6 q7 q8 q9 q10
 obtain ⟨S8, hS8⟩ : ∃ S8 : Nat → Prop, (fun k => (S k ∨ W1.heap.size ≤ k) ∧ k < W2.heap.size) = S8 := ⟨_, rfl⟩
 have HS8 := Za (show ∀ k, S8 k → (S k ∨ W1.heap.size ≤ k) ∧ k < W2.heap.size from hS8 ▸ fun k hk => hk)
 have HP8 := Za (PW.start (At := EncAt) (w := W8) (S := S8) (hS8 ▸ HP2.out.e.below HD8.out) (fun k hk => Nat.lt_of_lt_of_le (HS8.out k hk).2 HD8.out.size) HOK.out)
 have HSZ := Za (show ∀ b, w.heap.size ≤ b → b < W1.heap.size → ¬ S8 b from fun b h1 h2 hk => by rcases (HS8.out b hk).1 with h | h; (have := HS.out b h; omega); omega)
 have HM8 := Za (show ∀ V, Mods W8 V S8 → Mods w V S from fun V hV => (HMk.out _ HD8.out).then_ hV (fun k hk => ((HS8.out k hk).1).imp id (fun h => Nat.le_trans HB1.out.size h)))
 have HRG := Za (show ∀ V, Mods W8 V S8 → Reg V gr t dx dy ty kd W H AB cB P RW RH AR cR RP from fun V hV => ⟨blk_mods hZg hV (fun hk => by have := (HS8.out _ hk).2; have := HD7.out.size; omega), HB.out _ (HM8.out _ hV), hcB, HA.out _ (HM8.out _ hV), hcR, HBM.out, HBR.out, HT.out, by have := HOO.out; omega, by have := HOO.out; omega⟩)
 have hlt7 := HGE.out
 have HZ7 := Za (show ∀ V, Mods W8 V S8 → V.heap[b7]? = some (.cells #[.int .i64 t, .int .i64 dx, .int .i64 dy, .bool ty, .int .i64 kd] 23 (0, 0)) from fun V hV => blk_mods (Zd HZ7.out HD8.out) hV (HSZ.out _ hlt7.1 HLT.out.1))
 have HZ8 := Za (show ∀ V, Mods W8 V S8 → V.heap[b8]? = some (.cells #[.int .i64 W, .int .i64 H, .slice AB P.length cB] 31 (0, 0)) from fun V hV => blk_mods (Zd HZ8.out HD8.out) hV (HSZ.out _ hlt7.2.1 HLT.out.2.1))
 clear HP1 HP2 HP3 HP4 HP5 HP6 HP7 HD3 HD4 HD5 HD5' HD6 HD7 HM6 HZ9 hgr hZg hb hS8 HE hlt7
 have hw := HBM.out.w
 have hh := HBM.out.h
 have HQE := Za (show evR q P = evY q P H.toNat 0 by rw [HQQ.out]; rfl)
 obtain ⟨R1, hR1⟩ : ∃ x, putsI s (evR q P) = x := ⟨_, rfl⟩
 have hR := HR.out
 rw [hR1] at hR
 subst hR
 rw [HQE.out] at hR1
 have HR1 := Za hR1
 have HL1 := Za (show s.out.length + 4 * (evY q P H.toNat 0).length ≤ 1000200000 by have := evR_len q P (by rw [HQQ.out]; exact hw.2) (by rw [HQQ.out]; exact hh.2); rw [HQE.out] at this; omega)
 clear hR1 HR
 have p0 : W8.cell? ⟨b8, 1, none⟩ = some (.int .i64 H) := (Zc (HZ8.out _ (Mods.refl _ _)) 1).trans rfl
 go_wp2_with (fail)
 clear p0
 go_loopw [53] (fun j wr => ∃ (k : Nat) (s1 : ES), k ≤ H.toNat ∧ j = .int .i64 k ∧ Aside0 (putsI s1 (evY q P (H.toNat - k) k) = R1) ∧ Aside0 (s1.out.length + 4 * (evY q P (H.toNat - k) k).length ≤ 1000200000) ∧ Aside0 (PW EncAt W8 S8 g s1 wr)) (fun j _ => H.toNat - (intOf j).toNat)
 case atStart => exact ⟨0, s, Nat.zero_le _, rfl, HR1, HL1, HP8⟩
 clear HR1 HL1 HP8
 case round =>
  obtain ⟨k, s1, hk, rfl, HY, HL, HP⟩ := hrel
  by_cases hlt : k < H.toNat
  · have hltk : (k : Int) < H := by omega
    have hY := HY.out
    rw [show H.toNat - k = (H.toNat - (k + 1)) + 1 by omega] at hY
    unfold evY evH at hY
    have hL := HL.out
    rw [show H.toNat - k = (H.toNat - (k + 1)) + 1 by omega] at hL
    unfold evY evH at hL
    have hqt : q.ty = ty := by rw [HQQ.out]
    have hqW : q.W = W := by rw [HQQ.out]
    have hqty : q.typ P k = (ty && rowP dx dy W H P RW RH RP k W.toNat 0) := by rw [HQQ.out]; rfl
    have hqb : q.base + ctxs q.t = base + ctxs t := by rw [HQQ.out]
    rw [hqt, hqW, hqb] at hY hL
    clear HY HL hqt hqW hqb
    have z0 : wr.cell? ⟨b7, 0, none⟩ = some (.int .i64 t) := (Zc (HZ7.out _ HP.out.m) 0).trans rfl
    have z3 : wr.cell? ⟨b7, 3, none⟩ = some (.bool ty) := (Zc (HZ7.out _ HP.out.m) 3).trans rfl
    have z8 : wr.cell? ⟨b8, 0, none⟩ = some (.int .i64 W) := (Zc (HZ8.out _ HP.out.m) 0).trans rfl
    cases ty
    · rw [Bool.false_and] at hqty
      rw [hqty, if_neg (by decide), List.nil_append] at hY hL
      rw [List.length_append] at hL
      have HX := Za hY
      have HL := Za hL
      clear hY hL hqty
      go_wp2_with (fail)
      clear z0 z3 z8
      obtain ⟨V, hV⟩ : ∃ V, V = wr := ⟨_, rfl⟩
      subst hV
      go_loopw [76] (fun i wr => ∃ (m : Nat) (s2 : ES), m ≤ W.toNat ∧ i = .int .i64 m ∧ Aside0 (putsI s2 (evX q P k false (W.toNat - m) m ++ evY q P (H.toNat - (k + 1)) (k + 1)) = R1) ∧ Aside0 (s2.out.length + 4 * ((evX q P k false (W.toNat - m) m).length + (evY q P (H.toNat - (k + 1)) (k + 1)).length) ≤ 1000200000) ∧ Aside0 (PW EncAt W8 S8 g s2 wr)) (fun i _ => W.toNat - (intOf i).toNat)
      case atStart => exact ⟨0, _, Nat.zero_le _, rfl, HX, HL, HP⟩
      case round =>
       obtain ⟨m, s2, hm, rfl, HX, HL, HQ⟩ := hrel
       by_cases hltm : m < W.toNat
       · have hltm2 : (m : Int) < W := by omega
         go_wp2_with (fail)
         refine ((HRG.out _ HQ.out.m).flat (m : Int) (k : Int) (by omega) (by omega)).mono ?_
         rintro e X0 ⟨rfl, hb⟩
         have HQ := Za (HQ.out.below hb)
         clear hb
         obtain ⟨⟨fc, is⟩, hF⟩ : ∃ r, flatP RW RH RP ((m : Int) - dx) ((k : Int) - dy) = r := ⟨_, rfl⟩
         rw [hF]
         have HF := Za (show (q.flat (m : Int) (k : Int)).2 = is by rw [HQF.out, hF])
         clear hF
         simp only
         have hfx : ¬ (false = true ∧ true = true) := by simp
         have hX := HX.out
         rw [show W.toNat - m = (W.toNat - (m + 1)) + 1 by omega] at hX
         unfold evX at hX
         rw [if_neg (show ¬ (false = true ∧ (q.flat (m : Int) (k : Int)).2 = true) by simp), List.cons_append, putsI_cons, HQC.out] at hX
         simp only at hX
         have hL := HL.out
         rw [show W.toNat - m = (W.toNat - (m + 1)) + 1 by omega] at hL
         unfold evX at hL
         rw [if_neg (show ¬ (false = true ∧ (q.flat (m : Int) (k : Int)).2 = true) by simp), List.length_cons] at hL
         have HX2 := Za hX
         have HL2 := Za hL
         have HLN := Za (show s2.out.length ≤ 1099511627776 by omega)
         have hpx := px_01 HBM.out (m : Int) (k : Int)
         have hcr := ctxP_range HBM.out HBR.out t dx dy (m : Int) (k : Int) HT.out
         have HQ0 := Za (HQ.out.below (below_drew (Below.refl _ _)))
         clear hX hL hfx
         go_wp2_with (fail)
         refine start_ (n := 16) (S := fun w' => w'.cell? ⟨gr, 5, none⟩ = some (.int .i64 W) ∧ w'.cell? ⟨gr, 6, none⟩ = some (.int .i64 H) ∧ w'.cell? ⟨gr, 7, none⟩ = some (.slice AB P.length cB)) (ds := []) (B' 16 0) (by kernel_rfl) rfl rfl ⟨(Zc (HRG.out _ HQ0.out.m).z 5).trans rfl, (Zc (HRG.out _ HQ0.out.m).z 6).trans rfl, (Zc (HRG.out _ HQ0.out.m).z 7).trans rfl⟩ (fun hHeld => ?_)
         refine u' 0 92 (B' 16 1) ?_ rfl rfl ?_ ?_ ?_ ?_; rotate_left; (intro w'; go_simp; with_reducible rfl); rotate_left; (simp only [Act.put, p1', p2', p3', w1', w2']; rfl)
         refine u' 1 93 (B' 16 3) ?_ rfl rfl ?_ ?_ ?_ ?_; rotate_left; (intro w'; go_simp; with_reducible rfl); rotate_left; (simp only [Act.put, p1', p2', p3', w1', w2']; rfl)
         refine u' 2 94 (B' 16 7) ?_ rfl rfl ?_ ?_ ?_ ?_; rotate_left; (intro w'; go_simp; with_reducible rfl); rotate_left; (simp only [Act.put, p1', p2', p3', w1', w2']; rfl)
         refine u' 3 95 (B' 16 15) ?_ rfl rfl ?_ ?_ ?_ ?_; rotate_left; (intro w'; go_simp; with_reducible rfl); rotate_left; (simp only [Act.put, p1', p2', p3', w1', w2']; rfl)
         refine u' 4 96 (B' 16 31) ?_ rfl rfl ?_ ?_ ?_ ?_; rotate_left; (intro w'; go_simp; with_reducible rfl); rotate_left; (simp only [Act.put, p1', p2', p3', w1', w2']; rfl)
         refine u' 7 99 (B' 16 159) ?_ rfl rfl ?_ ?_ ?_ ?_; rotate_left; (intro w'; go_simp; with_reducible rfl); rotate_left; (simp only [Act.put, p1', p2', p3', w1', w2']; rfl)
         refine u' 8 100 (B' 16 415) ?_ rfl rfl ?_ ?_ ?_ ?_; rotate_left; (intro w'; go_simp; with_reducible rfl); rotate_left; (simp only [Act.put, p1', p2', p3', w1', w2']; rfl)
         refine u' 9 101 (B' 16 927) ?_ rfl rfl ?_ ?_ ?_ ?_; rotate_left; (intro w'; go_simp; with_reducible rfl); rotate_left; (simp only [Act.put, p1', p2', p3', w1', w2']; rfl)
         refine u' 11 103 (B' 16 2975) ?_ rfl rfl ?_ ?_ ?_ ?_; rotate_left; (intro w'; go_simp; with_reducible rfl); rotate_left; (simp only [Act.put, p1', p2', p3', w1', w2']; rfl)
         refine u' 12 104 (B' 16 7071) ?_ rfl rfl ?_ ?_ ?_ ?_; rotate_left; (intro w'; go_simp; with_reducible rfl); rotate_left; (simp only [Act.put, p1', p2', p3', w1', w2']; rfl)
         refine t' 10 102 (B' 16 8095) ?_ rfl rfl ?_ hHeld ?_ ?_ ?_; rotate_left; (rintro w' ⟨s0, s1, s2⟩; go_simp; with_reducible rfl); rotate_left; (simp only [Act.put, p1', p2', p3', w1', w2']; rfl)
         refine one_ (i := 5) (N := some 97) (B' 16 8127) rfl rfl (by kernel_rfl) (by decide) (fun K hK => ?_)
         refine goes_ Try.func61 (by kernel_rfl) rfl #[.pointer (some ⟨gr, 0, none⟩), .int .i64 (m : Int), .int .i64 (k : Int)] (by rfl) rfl rfl (by simp only [List.map_toArray, List.map_cons, List.map_nil]; rfl) ?_
         with_reducible refine ((HRG.out _ HQ0.out.m).context (m : Int) (k : Int) (by omega) (by omega)).mono ?_
         rintro e X1 ⟨rfl, hb⟩
         refine ⟨_, rfl, ?_⟩
         have HQ1 := Za (HQ0.out.below hb)
         clear hb
         refine hK.out _ _ ⟨(Zc (HRG.out _ HQ1.out.m).z 5).trans rfl, (Zc (HRG.out _ HQ1.out.m).z 6).trans rfl, (Zc (HRG.out _ HQ1.out.m).z 7).trans rfl⟩ (fun hHeld => ?_)
         clear hK K
         refine n' ?_ ?_ ?_; rotate_left; (show Act.put _ (some 97) _ = _; simp only [Act.put, p1', p2', p3', w1', w2']; rfl)
         refine u' 6 98 (B' 16 8191) ?_ rfl rfl ?_ ?_ ?_ ?_; rotate_left; (intro w'; go_simp; with_reducible rfl); rotate_left; (simp only [Act.put, p1', p2', p3', w1', w2']; rfl)
         refine one_ (i := 13) (N := some 105) (B' 16 16383) rfl rfl (by kernel_rfl) (by decide) (fun K hK => ?_)
         refine goes_ Try.func62 (by kernel_rfl) rfl #[.agg #[.int .i64 W, .int .i64 H, .slice AB P.length cB], .int .i64 (m : Int), .int .i64 (k : Int)] (by rfl) rfl rfl (by simp only [List.map_toArray, List.map_cons, List.map_nil]; rfl) ?_
         with_reducible refine ((HRG.out _ HQ1.out.m).at_ (m : Int) (k : Int)).mono ?_
         rintro e X2 ⟨rfl, hb⟩
         refine ⟨_, rfl, ?_⟩
         have HQ2 := Za (HQ1.out.below hb)
         clear hb
         refine hK.out _ _ ⟨(Zc (HRG.out _ HQ2.out.m).z 5).trans rfl, (Zc (HRG.out _ HQ2.out.m).z 6).trans rfl, (Zc (HRG.out _ HQ2.out.m).z 7).trans rfl⟩ (fun hHeld => ?_)
         clear hK K
         refine n' ?_ ?_ ?_; rotate_left; (show Act.put _ (some 105) _ = _; simp only [Act.put, p1', p2', p3', w1', w2']; rfl)
         refine u' 14 106 (B' 16 32767) ?_ rfl rfl ?_ ?_ ?_ ?_; rotate_left; (intro w'; go_simp; with_reducible rfl); rotate_left; (simp only [Act.put, p1', p2', p3', w1', w2']; rfl)
         refine one_ (i := 15) (N := some 107) (B' 16 65535) rfl rfl (by kernel_rfl) (by decide) (fun K hK => ?_)
         refine goes_ Try.func28 (by kernel_rfl) rfl #[.pointer (some ⟨g, 0, none⟩), .int .i64 (wrap64 (base + ctxP t dx dy W H P RW RH RP (m : Int) (k : Int))), .int .i64 (wrap64 (px W H P (m : Int) (k : Int)))] (by rfl) rfl rfl (by simp only [List.map_toArray, List.map_cons, List.map_nil]; rfl) ?_
         with_reducible refine (HQ2.out.put_eq HLN.out (base + ctxP t dx dy W H P RW RH RP (m : Int) (k : Int)) (px W H P (m : Int) (k : Int)) (by rw [wrap_id] <;> omega) (by rw [wrap_id] <;> omega)).mono ?_
         rintro e X3 ⟨rfl, hP⟩
         refine ⟨_, rfl, ?_⟩
         have HQ3 := Za hP
         clear hP
         refine hK.out _ _ ⟨(Zc (HRG.out _ HQ3.out.m).z 5).trans rfl, (Zc (HRG.out _ HQ3.out.m).z 6).trans rfl, (Zc (HRG.out _ HQ3.out.m).z 7).trans rfl⟩ (fun hHeld => ?_)
         clear hK K
         refine n' ?_ ?_ ?_; rotate_left; (show Act.put _ (some 107) _ = _; simp only [Act.put, p1', p2', p3', w1', w2']; rfl)
         refine done_ (by kernel_rfl) ?_
         go_wp2_with (fail)
         refine ⟨⟨m + 1, _, by omega, by go_num, HX2, ⟨?_⟩, HQ3⟩, by simp [intOf]; omega⟩
         have h1 := (ES.putI_len s2 (base + ctxP t dx dy W H P RW RH RP (m : Int) (k : Int)) (px W H P (m : Int) (k : Int))).1
         have h2 := HL2.out
         omega
       · have hX := HX.out
         rw [show W.toNat - m = 0 by omega] at hX
         simp only [evX, List.nil_append] at hX
         have hL := HL.out
         rw [show W.toNat - m = 0 by omega] at hL
         simp only [evX, List.length_nil, Nat.zero_add] at hL
         have HX2 := Za hX
         have HL2 := Za hL
         clear hX hL
         go_wp2_with (fail)
         exact ⟨⟨k + 1, _, by omega, by go_num, HX2, HL2, HQ⟩, by simp [intOf]; omega⟩
    · rw [Bool.true_and] at hqty
      rw [if_pos rfl] at hY hL
      go_wp2_with (fail)
      refine (typical_calls _ gr t dx dy true kd W H AB cB P RW RH AR cR RP (k : Int) (HRG.out _ HP.out.m) (by omega)).mono ?_
      rintro e V1 ⟨rfl, hb⟩
      have HP := Za (HP.out.below hb)
      clear hb z0 z3 z8
      obtain ⟨vt, hvt⟩ : ∃ x, rowP dx dy W H P RW RH RP k W.toNat 0 = x := ⟨_, rfl⟩
      rw [hvt] at hqty ⊢
      rw [hqty, List.cons_append, List.nil_append, putsI_cons] at hY
      rw [hqty, List.cons_append, List.nil_append, List.length_cons, List.length_append] at hL
      simp only at hY
      have HX0 := Za hY
      have HL0 := Za hL
      clear hvt hqty hY hL
      have z0 : V1.cell? ⟨b7, 0, none⟩ = some (.int .i64 t) := (Zc (HZ7.out _ HP.out.m) 0).trans rfl
      have z3 : V1.cell? ⟨b7, 3, none⟩ = some (.bool true) := (Zc (HZ7.out _ HP.out.m) 3).trans rfl
      have hcx := ctxs_range t
      cases vt
      · rw [show bit1 false = 0 from rfl] at HX0
        go_wp2_with (fail)
        refine (refine_contexts.calls t (ctxs t) _ (contexts_eq t)).mono ?_
        rintro e V2 ⟨rfl, hb⟩
        have HP := Za (HP.out.below hb)
        clear hb z0 z3
        have hln : s1.out.length ≤ 1099511627776 := by have := HL0.out; omega
        go_wp2_with (fail)
        refine (HP.out.put_eq hln (base + ctxs t) 0 (by first | rfl | (rw [wrap_id] <;> omega)) rfl).mono ?_
        rintro e V3 ⟨rfl, hP⟩
        have HP := Za hP
        have HX := Za HX0.out
        have HL := Za (show (s1.putI (base + ctxs t) 0).out.length + 4 * ((evX q P k false W.toNat 0).length + (evY q P (H.toNat - (k + 1)) (k + 1)).length) ≤ 1000200000 by have h1 := (ES.putI_len s1 (base + ctxs t) 0).1; have h2 := HL0.out; omega)
        clear hP hln HX0 HL0
        have z8 : V3.cell? ⟨b8, 0, none⟩ = some (.int .i64 W) := (Zc (HZ8.out _ HP.out.m) 0).trans rfl
        go_wp2_with (fail)
        clear z8
        go_loopw [76] (fun i wr => ∃ (m : Nat) (s2 : ES), m ≤ W.toNat ∧ i = .int .i64 m ∧ Aside0 (putsI s2 (evX q P k false (W.toNat - m) m ++ evY q P (H.toNat - (k + 1)) (k + 1)) = R1) ∧ Aside0 (s2.out.length + 4 * ((evX q P k false (W.toNat - m) m).length + (evY q P (H.toNat - (k + 1)) (k + 1)).length) ≤ 1000200000) ∧ Aside0 (PW EncAt W8 S8 g s2 wr)) (fun i _ => W.toNat - (intOf i).toNat)
        case atStart => exact ⟨0, _, Nat.zero_le _, rfl, HX, HL, HP⟩
        case round =>
         obtain ⟨m, s2, hm, rfl, HX, HL, HQ⟩ := hrel
         by_cases hltm : m < W.toNat
         · have hltm2 : (m : Int) < W := by omega
           go_wp2_with (fail)
           refine ((HRG.out _ HQ.out.m).flat (m : Int) (k : Int) (by omega) (by omega)).mono ?_
           rintro e X0 ⟨rfl, hb⟩
           have HQ := Za (HQ.out.below hb)
           clear hb
           obtain ⟨⟨fc, is⟩, hF⟩ : ∃ r, flatP RW RH RP ((m : Int) - dx) ((k : Int) - dy) = r := ⟨_, rfl⟩
           rw [hF]
           have HF := Za (show (q.flat (m : Int) (k : Int)).2 = is by rw [HQF.out, hF])
           clear hF
           simp only
           have hfx : ¬ (false = true ∧ true = true) := by simp
           have hX := HX.out
           rw [show W.toNat - m = (W.toNat - (m + 1)) + 1 by omega] at hX
           unfold evX at hX
           rw [if_neg (show ¬ (false = true ∧ (q.flat (m : Int) (k : Int)).2 = true) by simp), List.cons_append, putsI_cons, HQC.out] at hX
           simp only at hX
           have hL := HL.out
           rw [show W.toNat - m = (W.toNat - (m + 1)) + 1 by omega] at hL
           unfold evX at hL
           rw [if_neg (show ¬ (false = true ∧ (q.flat (m : Int) (k : Int)).2 = true) by simp), List.length_cons] at hL
           have HX2 := Za hX
           have HL2 := Za hL
           have HLN := Za (show s2.out.length ≤ 1099511627776 by omega)
           have hpx := px_01 HBM.out (m : Int) (k : Int)
           have hcr := ctxP_range HBM.out HBR.out t dx dy (m : Int) (k : Int) HT.out
           have HQ0 := Za (HQ.out.below (below_drew (Below.refl _ _)))
           clear hX hL hfx
           go_wp2_with (fail)
           refine start_ (n := 16) (S := fun w' => w'.cell? ⟨gr, 5, none⟩ = some (.int .i64 W) ∧ w'.cell? ⟨gr, 6, none⟩ = some (.int .i64 H) ∧ w'.cell? ⟨gr, 7, none⟩ = some (.slice AB P.length cB)) (ds := []) (B' 16 0) (by kernel_rfl) rfl rfl ⟨(Zc (HRG.out _ HQ0.out.m).z 5).trans rfl, (Zc (HRG.out _ HQ0.out.m).z 6).trans rfl, (Zc (HRG.out _ HQ0.out.m).z 7).trans rfl⟩ (fun hHeld => ?_)
           refine u' 0 92 (B' 16 1) ?_ rfl rfl ?_ ?_ ?_ ?_; rotate_left; (intro w'; go_simp; with_reducible rfl); rotate_left; (simp only [Act.put, p1', p2', p3', w1', w2']; rfl)
           refine u' 1 93 (B' 16 3) ?_ rfl rfl ?_ ?_ ?_ ?_; rotate_left; (intro w'; go_simp; with_reducible rfl); rotate_left; (simp only [Act.put, p1', p2', p3', w1', w2']; rfl)
           refine u' 2 94 (B' 16 7) ?_ rfl rfl ?_ ?_ ?_ ?_; rotate_left; (intro w'; go_simp; with_reducible rfl); rotate_left; (simp only [Act.put, p1', p2', p3', w1', w2']; rfl)
           refine u' 3 95 (B' 16 15) ?_ rfl rfl ?_ ?_ ?_ ?_; rotate_left; (intro w'; go_simp; with_reducible rfl); rotate_left; (simp only [Act.put, p1', p2', p3', w1', w2']; rfl)
           refine u' 4 96 (B' 16 31) ?_ rfl rfl ?_ ?_ ?_ ?_; rotate_left; (intro w'; go_simp; with_reducible rfl); rotate_left; (simp only [Act.put, p1', p2', p3', w1', w2']; rfl)
           refine u' 7 99 (B' 16 159) ?_ rfl rfl ?_ ?_ ?_ ?_; rotate_left; (intro w'; go_simp; with_reducible rfl); rotate_left; (simp only [Act.put, p1', p2', p3', w1', w2']; rfl)
           refine u' 8 100 (B' 16 415) ?_ rfl rfl ?_ ?_ ?_ ?_; rotate_left; (intro w'; go_simp; with_reducible rfl); rotate_left; (simp only [Act.put, p1', p2', p3', w1', w2']; rfl)
           refine u' 9 101 (B' 16 927) ?_ rfl rfl ?_ ?_ ?_ ?_; rotate_left; (intro w'; go_simp; with_reducible rfl); rotate_left; (simp only [Act.put, p1', p2', p3', w1', w2']; rfl)
           refine u' 11 103 (B' 16 2975) ?_ rfl rfl ?_ ?_ ?_ ?_; rotate_left; (intro w'; go_simp; with_reducible rfl); rotate_left; (simp only [Act.put, p1', p2', p3', w1', w2']; rfl)
           refine u' 12 104 (B' 16 7071) ?_ rfl rfl ?_ ?_ ?_ ?_; rotate_left; (intro w'; go_simp; with_reducible rfl); rotate_left; (simp only [Act.put, p1', p2', p3', w1', w2']; rfl)
           refine t' 10 102 (B' 16 8095) ?_ rfl rfl ?_ hHeld ?_ ?_ ?_; rotate_left; (rintro w' ⟨s0, s1, s2⟩; go_simp; with_reducible rfl); rotate_left; (simp only [Act.put, p1', p2', p3', w1', w2']; rfl)
           refine one_ (i := 5) (N := some 97) (B' 16 8127) rfl rfl (by kernel_rfl) (by decide) (fun K hK => ?_)
           refine goes_ Try.func61 (by kernel_rfl) rfl #[.pointer (some ⟨gr, 0, none⟩), .int .i64 (m : Int), .int .i64 (k : Int)] (by rfl) rfl rfl (by simp only [List.map_toArray, List.map_cons, List.map_nil]; rfl) ?_
           with_reducible refine ((HRG.out _ HQ0.out.m).context (m : Int) (k : Int) (by omega) (by omega)).mono ?_
           rintro e X1 ⟨rfl, hb⟩
           refine ⟨_, rfl, ?_⟩
           have HQ1 := Za (HQ0.out.below hb)
           clear hb
           refine hK.out _ _ ⟨(Zc (HRG.out _ HQ1.out.m).z 5).trans rfl, (Zc (HRG.out _ HQ1.out.m).z 6).trans rfl, (Zc (HRG.out _ HQ1.out.m).z 7).trans rfl⟩ (fun hHeld => ?_)
           clear hK K
           refine n' ?_ ?_ ?_; rotate_left; (show Act.put _ (some 97) _ = _; simp only [Act.put, p1', p2', p3', w1', w2']; rfl)
           refine u' 6 98 (B' 16 8191) ?_ rfl rfl ?_ ?_ ?_ ?_; rotate_left; (intro w'; go_simp; with_reducible rfl); rotate_left; (simp only [Act.put, p1', p2', p3', w1', w2']; rfl)
           refine one_ (i := 13) (N := some 105) (B' 16 16383) rfl rfl (by kernel_rfl) (by decide) (fun K hK => ?_)
           refine goes_ Try.func62 (by kernel_rfl) rfl #[.agg #[.int .i64 W, .int .i64 H, .slice AB P.length cB], .int .i64 (m : Int), .int .i64 (k : Int)] (by rfl) rfl rfl (by simp only [List.map_toArray, List.map_cons, List.map_nil]; rfl) ?_
           with_reducible refine ((HRG.out _ HQ1.out.m).at_ (m : Int) (k : Int)).mono ?_
           rintro e X2 ⟨rfl, hb⟩
           refine ⟨_, rfl, ?_⟩
           have HQ2 := Za (HQ1.out.below hb)
           clear hb
           refine hK.out _ _ ⟨(Zc (HRG.out _ HQ2.out.m).z 5).trans rfl, (Zc (HRG.out _ HQ2.out.m).z 6).trans rfl, (Zc (HRG.out _ HQ2.out.m).z 7).trans rfl⟩ (fun hHeld => ?_)
           clear hK K
           refine n' ?_ ?_ ?_; rotate_left; (show Act.put _ (some 105) _ = _; simp only [Act.put, p1', p2', p3', w1', w2']; rfl)
           refine u' 14 106 (B' 16 32767) ?_ rfl rfl ?_ ?_ ?_ ?_; rotate_left; (intro w'; go_simp; with_reducible rfl); rotate_left; (simp only [Act.put, p1', p2', p3', w1', w2']; rfl)
           refine one_ (i := 15) (N := some 107) (B' 16 65535) rfl rfl (by kernel_rfl) (by decide) (fun K hK => ?_)
           refine goes_ Try.func28 (by kernel_rfl) rfl #[.pointer (some ⟨g, 0, none⟩), .int .i64 (wrap64 (base + ctxP t dx dy W H P RW RH RP (m : Int) (k : Int))), .int .i64 (wrap64 (px W H P (m : Int) (k : Int)))] (by rfl) rfl rfl (by simp only [List.map_toArray, List.map_cons, List.map_nil]; rfl) ?_
           with_reducible refine (HQ2.out.put_eq HLN.out (base + ctxP t dx dy W H P RW RH RP (m : Int) (k : Int)) (px W H P (m : Int) (k : Int)) (by rw [wrap_id] <;> omega) (by rw [wrap_id] <;> omega)).mono ?_
           rintro e X3 ⟨rfl, hP⟩
           refine ⟨_, rfl, ?_⟩
           have HQ3 := Za hP
           clear hP
           refine hK.out _ _ ⟨(Zc (HRG.out _ HQ3.out.m).z 5).trans rfl, (Zc (HRG.out _ HQ3.out.m).z 6).trans rfl, (Zc (HRG.out _ HQ3.out.m).z 7).trans rfl⟩ (fun hHeld => ?_)
           clear hK K
           refine n' ?_ ?_ ?_; rotate_left; (show Act.put _ (some 107) _ = _; simp only [Act.put, p1', p2', p3', w1', w2']; rfl)
           refine done_ (by kernel_rfl) ?_
           go_wp2_with (fail)
           refine ⟨⟨m + 1, _, by omega, by go_num, HX2, ⟨?_⟩, HQ3⟩, by simp [intOf]; omega⟩
           have h1 := (ES.putI_len s2 (base + ctxP t dx dy W H P RW RH RP (m : Int) (k : Int)) (px W H P (m : Int) (k : Int))).1
           have h2 := HL2.out
           omega
         · have hX := HX.out
           rw [show W.toNat - m = 0 by omega] at hX
           simp only [evX, List.nil_append] at hX
           have hL := HL.out
           rw [show W.toNat - m = 0 by omega] at hL
           simp only [evX, List.length_nil, Nat.zero_add] at hL
           have HX2 := Za hX
           have HL2 := Za hL
           clear hX hL
           go_wp2_with (fail)
           exact ⟨⟨k + 1, _, by omega, by go_num, HX2, HL2, HQ⟩, by simp [intOf]; omega⟩
      · rw [show bit1 true = 1 from rfl] at HX0
        go_wp2_with (fail)
        refine (refine_contexts.calls t (ctxs t) _ (contexts_eq t)).mono ?_
        rintro e V2 ⟨rfl, hb⟩
        have HP := Za (HP.out.below hb)
        clear hb z0 z3
        have hln : s1.out.length ≤ 1099511627776 := by have := HL0.out; omega
        go_wp2_with (fail)
        refine (HP.out.put_eq hln (base + ctxs t) 1 (by first | rfl | (rw [wrap_id] <;> omega)) rfl).mono ?_
        rintro e V3 ⟨rfl, hP⟩
        have HP := Za hP
        have HX := Za HX0.out
        have HL := Za (show (s1.putI (base + ctxs t) 1).out.length + 4 * ((evX q P k true W.toNat 0).length + (evY q P (H.toNat - (k + 1)) (k + 1)).length) ≤ 1000200000 by have h1 := (ES.putI_len s1 (base + ctxs t) 1).1; have h2 := HL0.out; omega)
        clear hP hln HX0 HL0
        have z8 : V3.cell? ⟨b8, 0, none⟩ = some (.int .i64 W) := (Zc (HZ8.out _ HP.out.m) 0).trans rfl
        go_wp2_with (fail)
        clear z8
        go_loopw [76] (fun i wr => ∃ (m : Nat) (s2 : ES), m ≤ W.toNat ∧ i = .int .i64 m ∧ Aside0 (putsI s2 (evX q P k true (W.toNat - m) m ++ evY q P (H.toNat - (k + 1)) (k + 1)) = R1) ∧ Aside0 (s2.out.length + 4 * ((evX q P k true (W.toNat - m) m).length + (evY q P (H.toNat - (k + 1)) (k + 1)).length) ≤ 1000200000) ∧ Aside0 (PW EncAt W8 S8 g s2 wr)) (fun i _ => W.toNat - (intOf i).toNat)
        case atStart => exact ⟨0, _, Nat.zero_le _, rfl, HX, HL, HP⟩
        case round =>
         obtain ⟨m, s2, hm, rfl, HX, HL, HQ⟩ := hrel
         by_cases hltm : m < W.toNat
         · have hltm2 : (m : Int) < W := by omega
           go_wp2_with (fail)
           refine ((HRG.out _ HQ.out.m).flat (m : Int) (k : Int) (by omega) (by omega)).mono ?_
           rintro e X0 ⟨rfl, hb⟩
           have HQ := Za (HQ.out.below hb)
           clear hb
           obtain ⟨⟨fc, is⟩, hF⟩ : ∃ r, flatP RW RH RP ((m : Int) - dx) ((k : Int) - dy) = r := ⟨_, rfl⟩
           rw [hF]
           have HF := Za (show (q.flat (m : Int) (k : Int)).2 = is by rw [HQF.out, hF])
           clear hF
           simp only
           cases is
           · have hfx : ¬ (true = true ∧ false = true) := by simp
             have hX := HX.out
             rw [show W.toNat - m = (W.toNat - (m + 1)) + 1 by omega] at hX
             unfold evX at hX
             rw [if_neg (show ¬ (true = true ∧ (q.flat (m : Int) (k : Int)).2 = true) by rw [HF.out]; simp), List.cons_append, putsI_cons, HQC.out] at hX
             simp only at hX
             have hL := HL.out
             rw [show W.toNat - m = (W.toNat - (m + 1)) + 1 by omega] at hL
             unfold evX at hL
             rw [if_neg (show ¬ (true = true ∧ (q.flat (m : Int) (k : Int)).2 = true) by rw [HF.out]; simp), List.length_cons] at hL
             have HX2 := Za hX
             have HL2 := Za hL
             have HLN := Za (show s2.out.length ≤ 1099511627776 by omega)
             have hpx := px_01 HBM.out (m : Int) (k : Int)
             have hcr := ctxP_range HBM.out HBR.out t dx dy (m : Int) (k : Int) HT.out
             have HQ0 := Za (HQ.out.below (below_drew (Below.refl _ _)))
             clear hX hL hfx
             go_wp2_with (fail)
             refine start_ (n := 16) (S := fun w' => w'.cell? ⟨gr, 5, none⟩ = some (.int .i64 W) ∧ w'.cell? ⟨gr, 6, none⟩ = some (.int .i64 H) ∧ w'.cell? ⟨gr, 7, none⟩ = some (.slice AB P.length cB)) (ds := []) (B' 16 0) (by kernel_rfl) rfl rfl ⟨(Zc (HRG.out _ HQ0.out.m).z 5).trans rfl, (Zc (HRG.out _ HQ0.out.m).z 6).trans rfl, (Zc (HRG.out _ HQ0.out.m).z 7).trans rfl⟩ (fun hHeld => ?_)
             refine u' 0 92 (B' 16 1) ?_ rfl rfl ?_ ?_ ?_ ?_; rotate_left; (intro w'; go_simp; with_reducible rfl); rotate_left; (simp only [Act.put, p1', p2', p3', w1', w2']; rfl)
             refine u' 1 93 (B' 16 3) ?_ rfl rfl ?_ ?_ ?_ ?_; rotate_left; (intro w'; go_simp; with_reducible rfl); rotate_left; (simp only [Act.put, p1', p2', p3', w1', w2']; rfl)
             refine u' 2 94 (B' 16 7) ?_ rfl rfl ?_ ?_ ?_ ?_; rotate_left; (intro w'; go_simp; with_reducible rfl); rotate_left; (simp only [Act.put, p1', p2', p3', w1', w2']; rfl)
             refine u' 3 95 (B' 16 15) ?_ rfl rfl ?_ ?_ ?_ ?_; rotate_left; (intro w'; go_simp; with_reducible rfl); rotate_left; (simp only [Act.put, p1', p2', p3', w1', w2']; rfl)
             refine u' 4 96 (B' 16 31) ?_ rfl rfl ?_ ?_ ?_ ?_; rotate_left; (intro w'; go_simp; with_reducible rfl); rotate_left; (simp only [Act.put, p1', p2', p3', w1', w2']; rfl)
             refine u' 7 99 (B' 16 159) ?_ rfl rfl ?_ ?_ ?_ ?_; rotate_left; (intro w'; go_simp; with_reducible rfl); rotate_left; (simp only [Act.put, p1', p2', p3', w1', w2']; rfl)
             refine u' 8 100 (B' 16 415) ?_ rfl rfl ?_ ?_ ?_ ?_; rotate_left; (intro w'; go_simp; with_reducible rfl); rotate_left; (simp only [Act.put, p1', p2', p3', w1', w2']; rfl)
             refine u' 9 101 (B' 16 927) ?_ rfl rfl ?_ ?_ ?_ ?_; rotate_left; (intro w'; go_simp; with_reducible rfl); rotate_left; (simp only [Act.put, p1', p2', p3', w1', w2']; rfl)
             refine u' 11 103 (B' 16 2975) ?_ rfl rfl ?_ ?_ ?_ ?_; rotate_left; (intro w'; go_simp; with_reducible rfl); rotate_left; (simp only [Act.put, p1', p2', p3', w1', w2']; rfl)
             refine u' 12 104 (B' 16 7071) ?_ rfl rfl ?_ ?_ ?_ ?_; rotate_left; (intro w'; go_simp; with_reducible rfl); rotate_left; (simp only [Act.put, p1', p2', p3', w1', w2']; rfl)
             refine t' 10 102 (B' 16 8095) ?_ rfl rfl ?_ hHeld ?_ ?_ ?_; rotate_left; (rintro w' ⟨s0, s1, s2⟩; go_simp; with_reducible rfl); rotate_left; (simp only [Act.put, p1', p2', p3', w1', w2']; rfl)
             refine one_ (i := 5) (N := some 97) (B' 16 8127) rfl rfl (by kernel_rfl) (by decide) (fun K hK => ?_)
             refine goes_ Try.func61 (by kernel_rfl) rfl #[.pointer (some ⟨gr, 0, none⟩), .int .i64 (m : Int), .int .i64 (k : Int)] (by rfl) rfl rfl (by simp only [List.map_toArray, List.map_cons, List.map_nil]; rfl) ?_
             with_reducible refine ((HRG.out _ HQ0.out.m).context (m : Int) (k : Int) (by omega) (by omega)).mono ?_
             rintro e X1 ⟨rfl, hb⟩
             refine ⟨_, rfl, ?_⟩
             have HQ1 := Za (HQ0.out.below hb)
             clear hb
             refine hK.out _ _ ⟨(Zc (HRG.out _ HQ1.out.m).z 5).trans rfl, (Zc (HRG.out _ HQ1.out.m).z 6).trans rfl, (Zc (HRG.out _ HQ1.out.m).z 7).trans rfl⟩ (fun hHeld => ?_)
             clear hK K
             refine n' ?_ ?_ ?_; rotate_left; (show Act.put _ (some 97) _ = _; simp only [Act.put, p1', p2', p3', w1', w2']; rfl)
             refine u' 6 98 (B' 16 8191) ?_ rfl rfl ?_ ?_ ?_ ?_; rotate_left; (intro w'; go_simp; with_reducible rfl); rotate_left; (simp only [Act.put, p1', p2', p3', w1', w2']; rfl)
             refine one_ (i := 13) (N := some 105) (B' 16 16383) rfl rfl (by kernel_rfl) (by decide) (fun K hK => ?_)
             refine goes_ Try.func62 (by kernel_rfl) rfl #[.agg #[.int .i64 W, .int .i64 H, .slice AB P.length cB], .int .i64 (m : Int), .int .i64 (k : Int)] (by rfl) rfl rfl (by simp only [List.map_toArray, List.map_cons, List.map_nil]; rfl) ?_
             with_reducible refine ((HRG.out _ HQ1.out.m).at_ (m : Int) (k : Int)).mono ?_
             rintro e X2 ⟨rfl, hb⟩
             refine ⟨_, rfl, ?_⟩
             have HQ2 := Za (HQ1.out.below hb)
             clear hb
             refine hK.out _ _ ⟨(Zc (HRG.out _ HQ2.out.m).z 5).trans rfl, (Zc (HRG.out _ HQ2.out.m).z 6).trans rfl, (Zc (HRG.out _ HQ2.out.m).z 7).trans rfl⟩ (fun hHeld => ?_)
             clear hK K
             refine n' ?_ ?_ ?_; rotate_left; (show Act.put _ (some 105) _ = _; simp only [Act.put, p1', p2', p3', w1', w2']; rfl)
             refine u' 14 106 (B' 16 32767) ?_ rfl rfl ?_ ?_ ?_ ?_; rotate_left; (intro w'; go_simp; with_reducible rfl); rotate_left; (simp only [Act.put, p1', p2', p3', w1', w2']; rfl)
             refine one_ (i := 15) (N := some 107) (B' 16 65535) rfl rfl (by kernel_rfl) (by decide) (fun K hK => ?_)
             refine goes_ Try.func28 (by kernel_rfl) rfl #[.pointer (some ⟨g, 0, none⟩), .int .i64 (wrap64 (base + ctxP t dx dy W H P RW RH RP (m : Int) (k : Int))), .int .i64 (wrap64 (px W H P (m : Int) (k : Int)))] (by rfl) rfl rfl (by simp only [List.map_toArray, List.map_cons, List.map_nil]; rfl) ?_
             with_reducible refine (HQ2.out.put_eq HLN.out (base + ctxP t dx dy W H P RW RH RP (m : Int) (k : Int)) (px W H P (m : Int) (k : Int)) (by rw [wrap_id] <;> omega) (by rw [wrap_id] <;> omega)).mono ?_
             rintro e X3 ⟨rfl, hP⟩
             refine ⟨_, rfl, ?_⟩
             have HQ3 := Za hP
             clear hP
             refine hK.out _ _ ⟨(Zc (HRG.out _ HQ3.out.m).z 5).trans rfl, (Zc (HRG.out _ HQ3.out.m).z 6).trans rfl, (Zc (HRG.out _ HQ3.out.m).z 7).trans rfl⟩ (fun hHeld => ?_)
             clear hK K
             refine n' ?_ ?_ ?_; rotate_left; (show Act.put _ (some 107) _ = _; simp only [Act.put, p1', p2', p3', w1', w2']; rfl)
             refine done_ (by kernel_rfl) ?_
             go_wp2_with (fail)
             refine ⟨⟨m + 1, _, by omega, by go_num, HX2, ⟨?_⟩, HQ3⟩, by simp [intOf]; omega⟩
             have h1 := (ES.putI_len s2 (base + ctxP t dx dy W H P RW RH RP (m : Int) (k : Int)) (px W H P (m : Int) (k : Int))).1
             have h2 := HL2.out
             omega
           · have hX := HX.out
             rw [show W.toNat - m = (W.toNat - (m + 1)) + 1 by omega] at hX
             unfold evX at hX
             rw [if_pos ⟨rfl, HF.out⟩] at hX
             have hL := HL.out
             rw [show W.toNat - m = (W.toNat - (m + 1)) + 1 by omega] at hL
             unfold evX at hL
             rw [if_pos ⟨rfl, HF.out⟩] at hL
             have HX2 := Za hX
             have HL2 := Za hL
             clear hX hL
             go_wp2_with (fail)
             exact ⟨⟨m + 1, _, by omega, by go_num, HX2, HL2, HQ⟩, by simp [intOf]; omega⟩
         · have hX := HX.out
           rw [show W.toNat - m = 0 by omega] at hX
           simp only [evX, List.nil_append] at hX
           have hL := HL.out
           rw [show W.toNat - m = 0 by omega] at hL
           simp only [evX, List.length_nil, Nat.zero_add] at hL
           have HX2 := Za hX
           have HL2 := Za hL
           clear hX hL
           go_wp2_with (fail)
           exact ⟨⟨k + 1, _, by omega, by go_num, HX2, HL2, HQ⟩, by simp [intOf]; omega⟩
  · have hY := HY.out
    rw [show H.toNat - k = 0 by omega] at hY
    simp only [evY] at hY
    have hY2 : s1 = R1 := hY
    subst hY2
    clear hY
    go_wp2_with (fail)
    go_ret
    exact ⟨rfl, HP.out.rebase (HMk.out _ HD8.out) (fun k hk => ((HS8.out k hk).1).imp id (fun h => Nat.le_trans HB1.out.size h))⟩
end Go.Proofs.Ytkfejicdjpffcaa.Rpt
namespace Go.Proofs.Ytkfejicdjpffcaa.Rrp
open Go Go.RowKit YtkfejicdjpffcaaW PrintWords PrintLast PrintMore U Aid HandAid Cod1 Cod2 Cod3 Ytkfejicdjpffcaa.Mod NewRef Enc Mods EncAt Put End Snc RefAt RefPut RefEnd Pse Pwk Rpx Rva Rfl Rcx Rty Rev Rpt
theorem _root_.Go.Proofs.Ytkfejicdjpffcaa.Pwk.PW.rput_eq {w W : World} {S : Nat → Prop} {g : Nat} {s : ES} (H : PW RefAt w S g s W) (hlen : s.out.length ≤ 1099511627776) (i bit : Int) {i' bit' : Int} (hi : i' = i) (hb : bit' = bit) :
 Calls Try.prog 26 #[.pointer (some ⟨g, 0, none⟩), .int .i64 i', .int .i64 bit'] W fun e W' => e = .returned (.int .i64 (s.err i bit)) ∧ PW RefAt w S g (s.putI i bit) W' := by
 subst hi hb
 exact H.rput hlen _ _
theorem asked_put (t dx dy : Int) (ty : Bool) (kd W H : Int) (P : List Int) (RW RH : Int) (RP : List Int) (base kind : Int) (st : List Int) (hn : st.length ≤ 8192) : incunableref08_asked.f t dx dy ty kd (okB W H P && okB RW RH RP) base kind st = some (putErr ⟨t, dx, dy, ty, W, H, RW, RH, RP, base⟩ kd P st.length) := by
 rw [asked_eq t dx dy ty kd _ base kind st hn]
 unfold putErr
 simp only [Bool.and_eq_true]
set_option maxHeartbeats 8000000 in
set_option maxRecDepth 100000 in
theorem refput_calls (w : World) (S : Nat → Prop) (g : Nat) (s : ES) (base t dx dy : Int) (ty : Bool) (kd W H : Int) (AB : Option Addr) (cB : Nat) (P : List Int) (RW RH : Int) (AR : Option Addr) (cR : Nat) (RP : List Int) (hE : RefAt w S g s) (hS : ∀ k, S k → k < w.heap.size) (hok : s.ok) (hlen : s.out.length ≤ 1000000000) (hB : ∀ V, Mods w V S → Kd.C (Kd.int .u8) V AB P.length P) (hcB : P.length ≤ cB) (hA : ∀ V, Mods w V S → Kd.C (Kd.int .u8) V AR RP.length RP) (hcR : RP.length ≤ cR) (hbP : Bytes P) (hbR : Bytes RP) (q : RQ) (hq : q = ⟨t, dx, dy, ty, W, H, RW, RH, RP, base⟩) (R : ES × Int) (hR : putR q kd P s = R) :
 Calls Try.prog 27 #[.pointer (some ⟨g, 0, none⟩), .int .i64 base, .agg #[.int .i64 t, .int .i64 dx, .int .i64 dy, .bool ty, .int .i64 kd], .agg #[.int .i64 W, .int .i64 H, .slice AB P.length cB], .agg #[.int .i64 RW, .int .i64 RH, .slice AR RP.length cR]] w fun e V => e = .returned (.int .i64 R.2) ∧ PW RefAt w S g R.1 V := by
 have HB := Za hB
 have HA := Za hA
 have HS := Za hS
 have HbP := Za hbP
 have HbR := Za hbR
 have HE := Za hE
 have HQQ := Za hq
 have HQF := Za (show ∀ x y, q.flat x y = flatP RW RH RP (x - dx) (y - dy) from fun x y => by rw [hq]; rfl)
 have HQC := Za (show ∀ x y, (⟨q.base + q.ctx P x y, px q.W q.H P x y⟩ : S72) = ⟨base + ctxP t dx dy W H P RW RH RP x y, px W H P x y⟩ from fun x y => by rw [hq]; rfl)
 have hst : s.st.length ≤ 8192 := hok.m.2.1
 have hmP : P.length ≤ 9223372036854775807 := Kd.C_max (hB w (Mods.refl w S))
 have hmR : RP.length ≤ 9223372036854775807 := Kd.C_max (hA w (Mods.refl w S))
 have HOK := Za hok
 obtain ⟨ER, hER⟩ : ∃ x, putErr q kd P s.st.length = x := ⟨_, rfl⟩
 have hask := asked_put t dx dy ty kd W H P RW RH RP base s.kind s.st hst
 rw [← hq, hER] at hask
 have HER := Za hER
 unfold putR at hR
 rw [hER] at hR
 have HR := Za hR
 obtain ⟨vb, hvb⟩ : ∃ x, okB W H P = x := ⟨_, rfl⟩
 obtain ⟨vr, hvr⟩ : ∃ x, okB RW RH RP = x := ⟨_, rfl⟩
 rw [hvb, hvr] at hask
 have HIB := Za (show ∀ V, Below ((w.alloc (.cells #[.int .i64 t, .int .i64 dx, .int .i64 dy, .bool ty, .int .i64 kd] 23)).alloc (.cells #[.int .i64 W, .int .i64 H, .slice AB P.length cB] 31) |>.alloc (.cells #[.int .i64 RW, .int .i64 RH, .slice AR RP.length cR] 31)).heap.size (((w.alloc (.cells #[.int .i64 t, .int .i64 dx, .int .i64 dy, .bool ty, .int .i64 kd] 23)).alloc (.cells #[.int .i64 W, .int .i64 H, .slice AB P.length cB] 31)).alloc (.cells #[.int .i64 RW, .int .i64 RH, .slice AR RP.length cR] 31)) V → Calls Try.prog 22 #[.agg #[.int .i64 W, .int .i64 H, .slice AB P.length cB]] V fun e V' => e = .returned (.bool vb) ∧ Below V.heap.size V V' from fun V hV => by
  obtain ⟨K1, hK1⟩ := Ev.rounds (isbitmap_ev W H P hmP)
  rw [hvb] at hK1
  exact incunableref06_IsBitmap.calls K1 W H AB cB P _ _ (hB _ ((Mods.of_below (b1' (b1' (b1' (Below.refl _ _) _) _) _) S).below hV)) hcB hK1)
 have HIR := Za (show ∀ V, Below ((w.alloc (.cells #[.int .i64 t, .int .i64 dx, .int .i64 dy, .bool ty, .int .i64 kd] 23)).alloc (.cells #[.int .i64 W, .int .i64 H, .slice AB P.length cB] 31) |>.alloc (.cells #[.int .i64 RW, .int .i64 RH, .slice AR RP.length cR] 31)).heap.size (((w.alloc (.cells #[.int .i64 t, .int .i64 dx, .int .i64 dy, .bool ty, .int .i64 kd] 23)).alloc (.cells #[.int .i64 W, .int .i64 H, .slice AB P.length cB] 31)).alloc (.cells #[.int .i64 RW, .int .i64 RH, .slice AR RP.length cR] 31)) V → Calls Try.prog 22 #[.agg #[.int .i64 RW, .int .i64 RH, .slice AR RP.length cR]] V fun e V' => e = .returned (.bool vr) ∧ Below V.heap.size V V' from fun V hV => by
  obtain ⟨K1, hK1⟩ := Ev.rounds (isbitmap_ev RW RH RP hmR)
  rw [hvr] at hK1
  exact incunableref06_IsBitmap.calls K1 RW RH AR cR RP _ _ (hA _ ((Mods.of_below (b1' (b1' (b1' (Below.refl _ _) _) _) _) S).below hV)) hcR hK1)
 have hu1 := Try.underlying99
 have hu3 := Try.underlying23
 have hu4 := Try.underlying31
 have hu5 := Try.underlying45
 obtain ⟨A, c, vo, hRR⟩ := hE
 have HRR0 := Za hRR
 have HV := Za (And.intro hvb hvr)
 clear hRR hB hA hS hbP hbR hok hR hER hq hvb hvr
 go_enter Try.func27, Try.ntmps27
 go_wp2_with (fail)
 obtain ⟨b9, hb9⟩ : ∃ x, w.heap.size + 1 + 1 = x := ⟨_, rfl⟩
 obtain ⟨b8, hb8⟩ : ∃ x, w.heap.size + 1 = x := ⟨_, rfl⟩
 obtain ⟨b7, hb7⟩ : ∃ x, w.heap.size = x := ⟨_, rfl⟩
 obtain ⟨W1, hW1⟩ : ∃ x, ((w.alloc (.cells #[.int .i64 t, .int .i64 dx, .int .i64 dy, .bool ty, .int .i64 kd] 23)).alloc (.cells #[.int .i64 W, .int .i64 H, .slice AB P.length cB] 31)).alloc (.cells #[.int .i64 RW, .int .i64 RH, .slice AR RP.length cR] 31) = x := ⟨_, rfl⟩
 have HB1 := Za (show Below w.heap.size w W1 from hW1 ▸ b1' (b1' (b1' (Below.refl _ _) _) _) _)
 have HZ9 := Za (show W1.heap[b9]? = some (.cells #[.int .i64 RW, .int .i64 RH, .slice AR RP.length cR] 31 (0, 0)) by
  have h := heap_new ((w.alloc (.cells #[.int .i64 t, .int .i64 dx, .int .i64 dy, .bool ty, .int .i64 kd] 23)).alloc (.cells #[.int .i64 W, .int .i64 H, .slice AB P.length cB] 31)) (.cells #[.int .i64 RW, .int .i64 RH, .slice AR RP.length cR] 31)
  rw [World.size_alloc, World.size_alloc, hb9, hW1] at h
  exact h)
 have HZ8 := Za (show W1.heap[b8]? = some (.cells #[.int .i64 W, .int .i64 H, .slice AB P.length cB] 31 (0, 0)) by
  have h := heap_new (w.alloc (.cells #[.int .i64 t, .int .i64 dx, .int .i64 dy, .bool ty, .int .i64 kd] 23)) (.cells #[.int .i64 W, .int .i64 H, .slice AB P.length cB] 31)
  rw [World.size_alloc, hb8] at h
  rw [← hW1]
  exact k3' h _)
 have HZ7 := Za (show W1.heap[b7]? = some (.cells #[.int .i64 t, .int .i64 dx, .int .i64 dy, .bool ty, .int .i64 kd] 23 (0, 0)) by
  have h := heap_new w (.cells #[.int .i64 t, .int .i64 dx, .int .i64 dy, .bool ty, .int .i64 kd] 23)
  rw [hb7] at h
  rw [← hW1]
  exact k3' (k3' h _) _)
 have HGE := Za (show w.heap.size ≤ b7 ∧ w.heap.size ≤ b8 ∧ w.heap.size ≤ b9 by omega)
 rw [hb9, hb8, hb7, hW1]
 rw [hW1] at HIB HIR
 clear hb9 hb8 hb7 hW1
 have HRR := Za (HRR0.out.below HB1.out)
 have HD0 := Za (below_drew (Below.refl W1.heap.size W1))
 cases vb
 · rw [Bool.false_and] at hask
   have HAS := Za hask
   clear hask
   refine start_ (n := 14) (S := fun w' => w'.cell? ⟨b7, 0, none⟩ = some (.int .i64 t) ∧ w'.cell? ⟨b7, 1, none⟩ = some (.int .i64 dx) ∧ w'.cell? ⟨b7, 2, none⟩ = some (.int .i64 dy) ∧ w'.cell? ⟨b7, 3, none⟩ = some (.bool ty) ∧ w'.cell? ⟨b7, 4, none⟩ = some (.int .i64 kd) ∧ w'.cell? ⟨b8, 0, none⟩ = some (.int .i64 W) ∧ w'.cell? ⟨b8, 1, none⟩ = some (.int .i64 H) ∧ w'.cell? ⟨b8, 2, none⟩ = some (.slice AB P.length cB) ∧ w'.cell? ⟨b9, 0, none⟩ = some (.int .i64 RW) ∧ w'.cell? ⟨b9, 1, none⟩ = some (.int .i64 RH) ∧ w'.cell? ⟨b9, 2, none⟩ = some (.slice AR RP.length cR) ∧ w'.cell? ⟨g, 0, none⟩ = some (.int .i64 s.kind) ∧ w'.cell? ⟨g, 1, none⟩ = some (.slice A s.st.length c)) (ds := []) (B' 14 0) (by kernel_rfl) rfl rfl ⟨(Zc (Zd HZ7.out HD0.out) 0).trans rfl, (Zc (Zd HZ7.out HD0.out) 1).trans rfl, (Zc (Zd HZ7.out HD0.out) 2).trans rfl, (Zc (Zd HZ7.out HD0.out) 3).trans rfl, (Zc (Zd HZ7.out HD0.out) 4).trans rfl, (Zc (Zd HZ8.out HD0.out) 0).trans rfl, (Zc (Zd HZ8.out HD0.out) 1).trans rfl, (Zc (Zd HZ8.out HD0.out) 2).trans rfl, (Zc (Zd HZ9.out HD0.out) 0).trans rfl, (Zc (Zd HZ9.out HD0.out) 1).trans rfl, (Zc (Zd HZ9.out HD0.out) 2).trans rfl, (HRR.out.below HD0.out).c0, (HRR.out.below HD0.out).c1⟩ (fun hHeld => ?_)
   refine u' 7 28 (B' 14 128) ?_ rfl rfl ?_ ?_ ?_ ?_; rotate_left; (intro w'; go_simp; with_reducible rfl); rotate_left; (simp only [Act.put, p1', p2', p3', w1', w2']; rfl)
   refine u' 8 29 (B' 14 384) ?_ rfl rfl ?_ ?_ ?_ ?_; rotate_left; (intro w'; go_simp; with_reducible rfl); rotate_left; (simp only [Act.put, p1', p2', p3', w1', w2']; rfl)
   refine u' 9 30 (B' 14 896) ?_ rfl rfl ?_ ?_ ?_ ?_; rotate_left; (intro w'; go_simp; with_reducible rfl); rotate_left; (simp only [Act.put, p1', p2', p3', w1', w2']; rfl)
   refine u' 10 31 (B' 14 1920) ?_ rfl rfl ?_ ?_ ?_ ?_; rotate_left; (intro w'; go_simp; with_reducible rfl); rotate_left; (simp only [Act.put, p1', p2', p3', w1', w2']; rfl)
   refine t' 0 21 (B' 14 1921) ?_ rfl rfl ?_ hHeld ?_ ?_ ?_; rotate_left; (rintro w' ⟨s0, s1, s2, s3, s4, s5, s6, s7, s8, s9, s10, s11, s12⟩; go_simp; with_reducible rfl); rotate_left; (simp only [Act.put, p1', p2', p3', w1', w2']; rfl)
   refine t' 1 22 (B' 14 1923) ?_ rfl rfl ?_ hHeld ?_ ?_ ?_; rotate_left; (rintro w' ⟨s0, s1, s2, s3, s4, s5, s6, s7, s8, s9, s10, s11, s12⟩; go_simp; with_reducible rfl); rotate_left; (simp only [Act.put, p1', p2', p3', w1', w2']; rfl)
   refine t' 11 32 (B' 14 3971) ?_ rfl rfl ?_ hHeld ?_ ?_ ?_; rotate_left; (rintro w' ⟨s0, s1, s2, s3, s4, s5, s6, s7, s8, s9, s10, s11, s12⟩; go_simp; with_reducible rfl); rotate_left; (simp only [Act.put, p1', p2', p3', w1', w2']; rfl)
   refine one_ (i := 2) (N := some 23) (B' 14 3975) rfl rfl (by kernel_rfl) (by decide) (fun K hK => ?_)
   refine goes_ Try.func22 (by kernel_rfl) rfl #[.agg #[.int .i64 W, .int .i64 H, .slice AB P.length cB]] (by rfl) rfl rfl (by simp only [List.map_toArray, List.map_cons, List.map_nil]; rfl) ?_
   with_reducible refine (HIB.out _ HD0.out).mono ?_
   rintro e X1 ⟨rfl, hb⟩
   refine ⟨_, rfl, ?_⟩
   have HD1 := Za (below_then HD0.out HD0.out.size hb)
   clear hb
   refine hK.out _ _ ⟨(Zc (Zd HZ7.out HD1.out) 0).trans rfl, (Zc (Zd HZ7.out HD1.out) 1).trans rfl, (Zc (Zd HZ7.out HD1.out) 2).trans rfl, (Zc (Zd HZ7.out HD1.out) 3).trans rfl, (Zc (Zd HZ7.out HD1.out) 4).trans rfl, (Zc (Zd HZ8.out HD1.out) 0).trans rfl, (Zc (Zd HZ8.out HD1.out) 1).trans rfl, (Zc (Zd HZ8.out HD1.out) 2).trans rfl, (Zc (Zd HZ9.out HD1.out) 0).trans rfl, (Zc (Zd HZ9.out HD1.out) 1).trans rfl, (Zc (Zd HZ9.out HD1.out) 2).trans rfl, (HRR.out.below HD1.out).c0, (HRR.out.below HD1.out).c1⟩ (fun hHeld => ?_)
   clear hK K
   refine n' ?_ ?_ ?_; rotate_left; (show Act.put _ (some 23) _ = _; simp only [Act.put, p1', p2', p3', w1', w2']; rfl)
   refine u' 3 24 (B' 14 3983) ?_ rfl rfl ?_ ?_ ?_ ?_; rotate_left; (intro w'; go_simp; with_reducible rfl); rotate_left; (simp only [Act.put, p1', p2', p3', w1', w2']; rfl)
   refine pure_ (i := 4) (N := some 25) (v := undef) (a' := ?_) (B' 14 3999) rfl rfl (by kernel_rfl) (fun _ _ _ h => h) (Or.inr ⟨by rfl, rfl⟩) ?_ ?_
   rotate_left
   · simp only [Act.put, p1', p2', p3', w1', w2']
     rfl
   refine pure_ (i := 5) (N := some 26) (v := undef) (a' := ?_) (B' 14 4031) rfl rfl (by kernel_rfl) (fun _ _ _ h => h) (Or.inr ⟨by rfl, rfl⟩) ?_ ?_
   rotate_left
   · simp only [Act.put, p1', p2', p3', w1', w2']
     rfl
   refine u' 6 27 (B' 14 4095) ?_ rfl rfl ?_ ?_ ?_ ?_; rotate_left; (intro w'; go_simp; with_reducible rfl); rotate_left; (simp only [Act.put, p1', p2', p3', w1', w2']; rfl)
   refine one_ (i := 12) (N := some 33) (B' 14 8191) rfl rfl (by kernel_rfl) (by decide) (fun K hK => ?_)
   refine goes_ Try.func68 (by kernel_rfl) rfl #[.agg #[.int .i64 t, .int .i64 dx, .int .i64 dy, .bool ty, .int .i64 kd], .bool false, .int .i64 base, .agg #[.int .i64 s.kind, .slice A s.st.length c]] (by rfl) rfl rfl (by simp only [List.map_toArray, List.map_cons, List.map_nil]; rfl) ?_
   with_reducible refine (Hsm.asked_calls t dx dy ty kd false base s.kind A c s.st hst ER (Option.some.inj ((asked_eq t dx dy ty kd false base s.kind s.st hst).symm.trans HAS.out)) _).mono ?_
   rintro e X3 ⟨rfl, hb⟩
   refine ⟨_, rfl, ?_⟩
   have HD3 := Za (below_then HD1.out HD1.out.size hb)
   clear hb
   refine hK.out _ _ ⟨(Zc (Zd HZ7.out HD3.out) 0).trans rfl, (Zc (Zd HZ7.out HD3.out) 1).trans rfl, (Zc (Zd HZ7.out HD3.out) 2).trans rfl, (Zc (Zd HZ7.out HD3.out) 3).trans rfl, (Zc (Zd HZ7.out HD3.out) 4).trans rfl, (Zc (Zd HZ8.out HD3.out) 0).trans rfl, (Zc (Zd HZ8.out HD3.out) 1).trans rfl, (Zc (Zd HZ8.out HD3.out) 2).trans rfl, (Zc (Zd HZ9.out HD3.out) 0).trans rfl, (Zc (Zd HZ9.out HD3.out) 1).trans rfl, (Zc (Zd HZ9.out HD3.out) 2).trans rfl, (HRR.out.below HD3.out).c0, (HRR.out.below HD3.out).c1⟩ (fun hHeld => ?_)
   clear hK K
   refine n' ?_ ?_ ?_; rotate_left; (show Act.put _ (some 33) _ = _; simp only [Act.put, p1', p2', p3', w1', w2']; rfl)
   refine u' 13 11 (B' 14 16383) ?_ rfl rfl ?_ ?_ ?_ ?_; rotate_left; (intro w'; go_simp; with_reducible rfl); rotate_left; (simp only [Act.put, p1', p2', p3', w1', w2']; rfl)
   refine done_ (by kernel_rfl) ?_
   have hbad : ER ≠ 0 := fun h => by have hz := putErr_zero (q := q) (kd := kd) (P := P) (n := s.st.length) (HER.out.trans h); rw [HQQ.out] at hz; have := hz.2.1.symm.trans HV.out.1; exact absurd this (by decide)
   have e1 : (ER != 0) = true := bne_iff_ne.mpr hbad
   have hR := HR.out
   rw [if_neg hbad] at hR
   subst hR
   clear hbad
   go_wp2_with (fail)
   go_ret
   exact ⟨rfl, (PW.start (At := RefAt) HE.out HS.out HOK.out).below (below_then HB1.out HB1.out.size HD3.out)⟩
 rw [Bool.true_and] at hask
 have HAS := Za hask
 clear hask
 refine start_ (n := 14) (S := fun w' => w'.cell? ⟨b7, 0, none⟩ = some (.int .i64 t) ∧ w'.cell? ⟨b7, 1, none⟩ = some (.int .i64 dx) ∧ w'.cell? ⟨b7, 2, none⟩ = some (.int .i64 dy) ∧ w'.cell? ⟨b7, 3, none⟩ = some (.bool ty) ∧ w'.cell? ⟨b7, 4, none⟩ = some (.int .i64 kd) ∧ w'.cell? ⟨b8, 0, none⟩ = some (.int .i64 W) ∧ w'.cell? ⟨b8, 1, none⟩ = some (.int .i64 H) ∧ w'.cell? ⟨b8, 2, none⟩ = some (.slice AB P.length cB) ∧ w'.cell? ⟨b9, 0, none⟩ = some (.int .i64 RW) ∧ w'.cell? ⟨b9, 1, none⟩ = some (.int .i64 RH) ∧ w'.cell? ⟨b9, 2, none⟩ = some (.slice AR RP.length cR) ∧ w'.cell? ⟨g, 0, none⟩ = some (.int .i64 s.kind) ∧ w'.cell? ⟨g, 1, none⟩ = some (.slice A s.st.length c)) (ds := []) (B' 14 0) (by kernel_rfl) rfl rfl ⟨(Zc (Zd HZ7.out HD0.out) 0).trans rfl, (Zc (Zd HZ7.out HD0.out) 1).trans rfl, (Zc (Zd HZ7.out HD0.out) 2).trans rfl, (Zc (Zd HZ7.out HD0.out) 3).trans rfl, (Zc (Zd HZ7.out HD0.out) 4).trans rfl, (Zc (Zd HZ8.out HD0.out) 0).trans rfl, (Zc (Zd HZ8.out HD0.out) 1).trans rfl, (Zc (Zd HZ8.out HD0.out) 2).trans rfl, (Zc (Zd HZ9.out HD0.out) 0).trans rfl, (Zc (Zd HZ9.out HD0.out) 1).trans rfl, (Zc (Zd HZ9.out HD0.out) 2).trans rfl, (HRR.out.below HD0.out).c0, (HRR.out.below HD0.out).c1⟩ (fun hHeld => ?_)
 refine u' 7 28 (B' 14 128) ?_ rfl rfl ?_ ?_ ?_ ?_; rotate_left; (intro w'; go_simp; with_reducible rfl); rotate_left; (simp only [Act.put, p1', p2', p3', w1', w2']; rfl)
 refine u' 8 29 (B' 14 384) ?_ rfl rfl ?_ ?_ ?_ ?_; rotate_left; (intro w'; go_simp; with_reducible rfl); rotate_left; (simp only [Act.put, p1', p2', p3', w1', w2']; rfl)
 refine u' 9 30 (B' 14 896) ?_ rfl rfl ?_ ?_ ?_ ?_; rotate_left; (intro w'; go_simp; with_reducible rfl); rotate_left; (simp only [Act.put, p1', p2', p3', w1', w2']; rfl)
 refine u' 10 31 (B' 14 1920) ?_ rfl rfl ?_ ?_ ?_ ?_; rotate_left; (intro w'; go_simp; with_reducible rfl); rotate_left; (simp only [Act.put, p1', p2', p3', w1', w2']; rfl)
 refine t' 0 21 (B' 14 1921) ?_ rfl rfl ?_ hHeld ?_ ?_ ?_; rotate_left; (rintro w' ⟨s0, s1, s2, s3, s4, s5, s6, s7, s8, s9, s10, s11, s12⟩; go_simp; with_reducible rfl); rotate_left; (simp only [Act.put, p1', p2', p3', w1', w2']; rfl)
 refine t' 1 22 (B' 14 1923) ?_ rfl rfl ?_ hHeld ?_ ?_ ?_; rotate_left; (rintro w' ⟨s0, s1, s2, s3, s4, s5, s6, s7, s8, s9, s10, s11, s12⟩; go_simp; with_reducible rfl); rotate_left; (simp only [Act.put, p1', p2', p3', w1', w2']; rfl)
 refine t' 11 32 (B' 14 3971) ?_ rfl rfl ?_ hHeld ?_ ?_ ?_; rotate_left; (rintro w' ⟨s0, s1, s2, s3, s4, s5, s6, s7, s8, s9, s10, s11, s12⟩; go_simp; with_reducible rfl); rotate_left; (simp only [Act.put, p1', p2', p3', w1', w2']; rfl)
 refine one_ (i := 2) (N := some 23) (B' 14 3975) rfl rfl (by kernel_rfl) (by decide) (fun K hK => ?_)
 refine goes_ Try.func22 (by kernel_rfl) rfl #[.agg #[.int .i64 W, .int .i64 H, .slice AB P.length cB]] (by rfl) rfl rfl (by simp only [List.map_toArray, List.map_cons, List.map_nil]; rfl) ?_
 with_reducible refine (HIB.out _ HD0.out).mono ?_
 rintro e X1 ⟨rfl, hb⟩
 refine ⟨_, rfl, ?_⟩
 have HD1 := Za (below_then HD0.out HD0.out.size hb)
 clear hb
 refine hK.out _ _ ⟨(Zc (Zd HZ7.out HD1.out) 0).trans rfl, (Zc (Zd HZ7.out HD1.out) 1).trans rfl, (Zc (Zd HZ7.out HD1.out) 2).trans rfl, (Zc (Zd HZ7.out HD1.out) 3).trans rfl, (Zc (Zd HZ7.out HD1.out) 4).trans rfl, (Zc (Zd HZ8.out HD1.out) 0).trans rfl, (Zc (Zd HZ8.out HD1.out) 1).trans rfl, (Zc (Zd HZ8.out HD1.out) 2).trans rfl, (Zc (Zd HZ9.out HD1.out) 0).trans rfl, (Zc (Zd HZ9.out HD1.out) 1).trans rfl, (Zc (Zd HZ9.out HD1.out) 2).trans rfl, (HRR.out.below HD1.out).c0, (HRR.out.below HD1.out).c1⟩ (fun hHeld => ?_)
 clear hK K
 refine n' ?_ ?_ ?_; rotate_left; (show Act.put _ (some 23) _ = _; simp only [Act.put, p1', p2', p3', w1', w2']; rfl)
 refine u' 3 24 (B' 14 3983) ?_ rfl rfl ?_ ?_ ?_ ?_; rotate_left; (intro w'; go_simp; with_reducible rfl); rotate_left; (simp only [Act.put, p1', p2', p3', w1', w2']; rfl)
 refine t' 4 25 (B' 14 3999) ?_ rfl rfl ?_ hHeld ?_ ?_ ?_; rotate_left; (rintro w' ⟨s0, s1, s2, s3, s4, s5, s6, s7, s8, s9, s10, s11, s12⟩; go_simp; with_reducible rfl); rotate_left; (simp only [Act.put, p1', p2', p3', w1', w2']; rfl)
 refine one_ (i := 5) (N := some 26) (B' 14 4031) rfl rfl (by kernel_rfl) (by decide) (fun K hK => ?_)
 refine goes_ Try.func22 (by kernel_rfl) rfl #[.agg #[.int .i64 RW, .int .i64 RH, .slice AR RP.length cR]] (by rfl) rfl rfl (by simp only [List.map_toArray, List.map_cons, List.map_nil]; rfl) ?_
 with_reducible refine (HIR.out _ HD1.out).mono ?_
 rintro e X2 ⟨rfl, hb⟩
 refine ⟨_, rfl, ?_⟩
 have HD2 := Za (below_then HD1.out HD1.out.size hb)
 clear hb
 refine hK.out _ _ ⟨(Zc (Zd HZ7.out HD2.out) 0).trans rfl, (Zc (Zd HZ7.out HD2.out) 1).trans rfl, (Zc (Zd HZ7.out HD2.out) 2).trans rfl, (Zc (Zd HZ7.out HD2.out) 3).trans rfl, (Zc (Zd HZ7.out HD2.out) 4).trans rfl, (Zc (Zd HZ8.out HD2.out) 0).trans rfl, (Zc (Zd HZ8.out HD2.out) 1).trans rfl, (Zc (Zd HZ8.out HD2.out) 2).trans rfl, (Zc (Zd HZ9.out HD2.out) 0).trans rfl, (Zc (Zd HZ9.out HD2.out) 1).trans rfl, (Zc (Zd HZ9.out HD2.out) 2).trans rfl, (HRR.out.below HD2.out).c0, (HRR.out.below HD2.out).c1⟩ (fun hHeld => ?_)
 clear hK K
 refine n' ?_ ?_ ?_; rotate_left; (show Act.put _ (some 26) _ = _; simp only [Act.put, p1', p2', p3', w1', w2']; rfl)
 refine u' 6 27 (B' 14 4095) ?_ rfl rfl ?_ ?_ ?_ ?_; rotate_left; (intro w'; go_simp; with_reducible rfl); rotate_left; (simp only [Act.put, p1', p2', p3', w1', w2']; rfl)
 refine one_ (i := 12) (N := some 33) (B' 14 8191) rfl rfl (by kernel_rfl) (by decide) (fun K hK => ?_)
 refine goes_ Try.func68 (by kernel_rfl) rfl #[.agg #[.int .i64 t, .int .i64 dx, .int .i64 dy, .bool ty, .int .i64 kd], .bool vr, .int .i64 base, .agg #[.int .i64 s.kind, .slice A s.st.length c]] (by rfl) rfl rfl (by simp only [List.map_toArray, List.map_cons, List.map_nil]; rfl) ?_
 with_reducible refine (Hsm.asked_calls t dx dy ty kd vr base s.kind A c s.st hst ER (Option.some.inj ((asked_eq t dx dy ty kd vr base s.kind s.st hst).symm.trans HAS.out)) _).mono ?_
 rintro e X3 ⟨rfl, hb⟩
 refine ⟨_, rfl, ?_⟩
 have HD3 := Za (below_then HD2.out HD2.out.size hb)
 clear hb
 refine hK.out _ _ ⟨(Zc (Zd HZ7.out HD3.out) 0).trans rfl, (Zc (Zd HZ7.out HD3.out) 1).trans rfl, (Zc (Zd HZ7.out HD3.out) 2).trans rfl, (Zc (Zd HZ7.out HD3.out) 3).trans rfl, (Zc (Zd HZ7.out HD3.out) 4).trans rfl, (Zc (Zd HZ8.out HD3.out) 0).trans rfl, (Zc (Zd HZ8.out HD3.out) 1).trans rfl, (Zc (Zd HZ8.out HD3.out) 2).trans rfl, (Zc (Zd HZ9.out HD3.out) 0).trans rfl, (Zc (Zd HZ9.out HD3.out) 1).trans rfl, (Zc (Zd HZ9.out HD3.out) 2).trans rfl, (HRR.out.below HD3.out).c0, (HRR.out.below HD3.out).c1⟩ (fun hHeld => ?_)
 clear hK K
 refine n' ?_ ?_ ?_; rotate_left; (show Act.put _ (some 33) _ = _; simp only [Act.put, p1', p2', p3', w1', w2']; rfl)
 refine u' 13 11 (B' 14 16383) ?_ rfl rfl ?_ ?_ ?_ ?_; rotate_left; (intro w'; go_simp; with_reducible rfl); rotate_left; (simp only [Act.put, p1', p2', p3', w1', w2']; rfl)
 refine done_ (by kernel_rfl) ?_
 by_cases hE0 : ER = 0
 · have e1 : (ER != 0) = false := by simp [hE0]
   have hz := putErr_zero (q := q) (kd := kd) (P := P) (n := s.st.length) (HER.out.trans hE0)
   have hR := HR.out
   rw [if_pos hE0, hE0] at hR
   have HR := Za hR
   rw [HQQ.out] at hz
   have hoo := okO_iff.1 hz.1
   have HBM := Za (okB_bm HbP.out hz.2.1).1
   have HBR := Za (okB_bm HbR.out hz.2.2.1).1
   have HT := Za hoo.1
   have HOO := Za hoo
   have hff := okF_iff.1 hz.2.2.2
   simp only at hff
   have hcx := ctxs_range t
   clear hR hz hE0 hoo
   have q0 : X3.cell? ⟨b7, 0, none⟩ = some (.int .i64 t) := (Zc (Zd HZ7.out HD3.out) 0).trans rfl
   go_wp2_with (fail)
   refine (incunableref08_size.calls t (ctxs t + 1) _ (size_eq t)).mono ?_
   rintro e W8 ⟨rfl, hdr⟩
   have HD8 := Za (below_then HD3.out HD3.out.size hdr.below)
   clear q0 hdr
   have HP8 := Za ((PW.start (At := RefAt) (HE.out.below (below_then HB1.out HB1.out.size HD8.out)) (fun k hk => Nat.lt_of_lt_of_le (HS.out k hk) (Nat.le_trans HB1.out.size HD8.out.size)) HOK.out))
   have HM8 := Za (show ∀ V, Mods W8 V S → Mods w V S from fun V hV => (Mods.of_below (below_then HB1.out HB1.out.size HD8.out) S).then_ hV (fun k hk => .inl hk))
   have HNS := Za (show ∀ b, w.heap.size ≤ b → ¬ S b from fun b h hk => by have := HS.out b hk; omega)
   have HZ7 := Za (show ∀ V, Mods W8 V S → V.heap[b7]? = some (.cells #[.int .i64 t, .int .i64 dx, .int .i64 dy, .bool ty, .int .i64 kd] 23 (0, 0)) from fun V hV => blk_mods (Zd HZ7.out HD8.out) hV (HNS.out _ HGE.out.1))
   have HZ8 := Za (show ∀ V, Mods W8 V S → V.heap[b8]? = some (.cells #[.int .i64 W, .int .i64 H, .slice AB P.length cB] 31 (0, 0)) from fun V hV => blk_mods (Zd HZ8.out HD8.out) hV (HNS.out _ HGE.out.2.1))
   have HZ9 := Za (show ∀ V, Mods W8 V S → V.heap[b9]? = some (.cells #[.int .i64 RW, .int .i64 RH, .slice AR RP.length cR] 31 (0, 0)) from fun V hV => blk_mods (Zd HZ9.out HD8.out) hV (HNS.out _ HGE.out.2.2))
   have HRO := Za (show ∀ V, Mods w V S → ∀ y, (-100000 ≤ y ∧ y ≤ 100000) → Calls Try.prog 69 #[.agg #[.int .i64 t, .int .i64 dx, .int .i64 dy, .bool ty, .int .i64 kd], .agg #[.int .i64 W, .int .i64 H, .slice AB P.length cB], .agg #[.int .i64 RW, .int .i64 RH, .slice AR RP.length cR], .int .i64 y] V fun e V' => e = .returned (.bool (rowP dx dy W H P RW RH RP y W.toNat 0)) ∧ Below V.heap.size V V' from fun V hV y hy => by
    obtain ⟨K1, hK1⟩ := Ev.rounds (row_ev HBM.out HBR.out t dx dy ty kd y hy (by have := HOO.out; omega) (by have := HOO.out; omega))
    exact incunableref08_Row.calls K1 t dx dy ty kd W H AB cB P RW RH AR cR RP y _ V (HB.out V hV) hcB (HA.out V hV) hcR hK1)
   have HAL := Za (show ∀ V, Mods w V S → ∀ x y, (-100000 ≤ x ∧ x ≤ 100000) → (-100000 ≤ y ∧ y ≤ 100000) → Calls Try.prog 41 #[.agg #[.int .i64 t, .int .i64 dx, .int .i64 dy, .bool ty, .int .i64 kd], .agg #[.int .i64 RW, .int .i64 RH, .slice AR RP.length cR], .int .i64 x, .int .i64 y] V fun e V' => e = .returned (.tuple #[.int .u8 (flatP RW RH RP (x - dx) (y - dy)).1, .bool (flatP RW RH RP (x - dx) (y - dy)).2]) ∧ Below V.heap.size V V' from fun V hV x y hx hy => by
    obtain ⟨K1, hK1⟩ := Ev.rounds (alike_ev HBR.out t dx dy ty kd x y hx hy (by have := HOO.out; omega) (by have := HOO.out; omega))
    exact incunableref08_Alike.calls K1 t dx dy ty kd RW RH AR cR RP x y _ _ V (HA.out V hV) hcR hK1)
   have HCT := Za (show ∀ V, Mods w V S → ∀ x y, (-100000 ≤ x ∧ x ≤ 100000) → (-100000 ≤ y ∧ y ≤ 100000) → Calls Try.prog 40 #[.agg #[.int .i64 t, .int .i64 dx, .int .i64 dy, .bool ty, .int .i64 kd], .agg #[.int .i64 W, .int .i64 H, .slice AB P.length cB], .agg #[.int .i64 RW, .int .i64 RH, .slice AR RP.length cR], .int .i64 x, .int .i64 y] V fun e V' => e = .returned (.int .i64 (ctxP t dx dy W H P RW RH RP x y)) ∧ Below V.heap.size V V' from fun V hV x y hx hy => by
    obtain ⟨K1, hK1⟩ := Ev.rounds (context_ev HBM.out HBR.out t dx dy ty kd x y hx hy (by have := HOO.out; omega) (by have := HOO.out; omega))
    exact incunableref08_Context.calls K1 t dx dy ty kd W H AB cB P RW RH AR cR RP x y _ V (HB.out V hV) hcB (HA.out V hV) hcR hK1)
   have HPX := Za (show ∀ V, Mods w V S → ∀ x y, Calls Try.prog 42 #[.agg #[.int .i64 W, .int .i64 H, .slice AB P.length cB], .int .i64 x, .int .i64 y] V fun e V' => e = .returned (.int .u8 (px W H P x y)) ∧ Below V.heap.size V V' from fun V hV x y => incunableref06_Pix.calls W H AB cB P x y _ V (HB.out V hV) hcB (pix_eq HBM.out x y))
   clear HIB HIR HRR HRR0 HD0 HD1 HD2 HD3 HE
   have hw := HBM.out.w
   have hh := HBM.out.h
   have HQE := Za (show evR q P = evY q P H.toNat 0 by rw [HQQ.out]; rfl)
   obtain ⟨R1, hR1⟩ : ∃ x, putsI s (evR q P) = x := ⟨_, rfl⟩
   have hR := HR.out
   rw [hR1] at hR
   subst hR
   rw [HQE.out] at hR1
   have HR1 := Za hR1
   have HL1 := Za (show s.out.length + 4 * (evY q P H.toNat 0).length ≤ 1000200000 by have := evR_len q P (by rw [HQQ.out]; exact hw.2) (by rw [HQQ.out]; exact hh.2); rw [HQE.out] at this; omega)
   clear hR1 HR
   go_wp2_with (fail)
   go_loopw [13] (fun j wr => ∃ (k : Nat) (s1 : ES), k ≤ H.toNat ∧ j = .int .i64 k ∧ Aside0 (putsI s1 (evY q P (H.toNat - k) k) = R1) ∧ Aside0 (s1.out.length + 4 * (evY q P (H.toNat - k) k).length ≤ 1000200000) ∧ Aside0 (PW RefAt W8 S g s1 wr)) (fun j _ => H.toNat - (intOf j).toNat)
   case atStart => exact ⟨0, s, Nat.zero_le _, rfl, HR1, HL1, HP8⟩
   clear HR1 HL1 HP8
   case round =>
    obtain ⟨k, s1, hk, rfl, HY, HL, HP⟩ := hrel
    have z81 : wr.cell? ⟨b8, 1, none⟩ = some (.int .i64 H) := (Zc (HZ8.out _ HP.out.m) 1).trans rfl
    by_cases hlt : k < H.toNat
    · have hltk : (k : Int) < H := by omega
      have hY := HY.out
      rw [show H.toNat - k = (H.toNat - (k + 1)) + 1 by omega] at hY
      unfold evY evH at hY
      have hL := HL.out
      rw [show H.toNat - k = (H.toNat - (k + 1)) + 1 by omega] at hL
      unfold evY evH at hL
      have hqt : q.ty = ty := by rw [HQQ.out]
      have hqW : q.W = W := by rw [HQQ.out]
      have hqty : q.typ P k = (ty && rowP dx dy W H P RW RH RP k W.toNat 0) := by rw [HQQ.out]; rfl
      have hqb : q.base + ctxs q.t = base + ctxs t := by rw [HQQ.out]
      rw [hqt, hqW, hqb] at hY hL
      clear HY HL hqt hqW hqb
      have z70 : wr.cell? ⟨b7, 0, none⟩ = some (.int .i64 t) := (Zc (HZ7.out _ HP.out.m) 0).trans rfl
      have z71 : wr.cell? ⟨b7, 1, none⟩ = some (.int .i64 dx) := (Zc (HZ7.out _ HP.out.m) 1).trans rfl
      have z72 : wr.cell? ⟨b7, 2, none⟩ = some (.int .i64 dy) := (Zc (HZ7.out _ HP.out.m) 2).trans rfl
      have z73 : wr.cell? ⟨b7, 3, none⟩ = some (.bool ty) := (Zc (HZ7.out _ HP.out.m) 3).trans rfl
      have z74 : wr.cell? ⟨b7, 4, none⟩ = some (.int .i64 kd) := (Zc (HZ7.out _ HP.out.m) 4).trans rfl
      have z90 : wr.cell? ⟨b9, 0, none⟩ = some (.int .i64 RW) := (Zc (HZ9.out _ HP.out.m) 0).trans rfl
      have z91 : wr.cell? ⟨b9, 1, none⟩ = some (.int .i64 RH) := (Zc (HZ9.out _ HP.out.m) 1).trans rfl
      have z92 : wr.cell? ⟨b9, 2, none⟩ = some (.slice AR RP.length cR) := (Zc (HZ9.out _ HP.out.m) 2).trans rfl
      have z80 : wr.cell? ⟨b8, 0, none⟩ = some (.int .i64 W) := (Zc (HZ8.out _ HP.out.m) 0).trans rfl
      have z82 : wr.cell? ⟨b8, 2, none⟩ = some (.slice AB P.length cB) := (Zc (HZ8.out _ HP.out.m) 2).trans rfl
      cases ty
      · rw [Bool.false_and] at hqty
        rw [hqty, if_neg (by decide), List.nil_append] at hY hL
        rw [List.length_append] at hL
        have HX := Za hY
        have HL := Za hL
        clear hY hL hqty
        go_wp2_with (fail)
        clear z81 z70 z71 z72 z73 z74 z90 z91 z92 z80 z82
        obtain ⟨V, hV⟩ : ∃ V, V = wr := ⟨_, rfl⟩
        subst hV
        go_loopw [16] (fun i wr => ∃ (m : Nat) (s2 : ES), m ≤ W.toNat ∧ i = .int .i64 m ∧ Aside0 (putsI s2 (evX q P k false (W.toNat - m) m ++ evY q P (H.toNat - (k + 1)) (k + 1)) = R1) ∧ Aside0 (s2.out.length + 4 * ((evX q P k false (W.toNat - m) m).length + (evY q P (H.toNat - (k + 1)) (k + 1)).length) ≤ 1000200000) ∧ Aside0 (PW RefAt W8 S g s2 wr)) (fun i _ => W.toNat - (intOf i).toNat)
        case atStart => exact ⟨0, _, Nat.zero_le _, rfl, HX, HL, HP⟩
        case round =>
         obtain ⟨m, s2, hm, rfl, HX, HL, HQ⟩ := hrel
         have y70 : wr.cell? ⟨b7, 0, none⟩ = some (.int .i64 t) := (Zc (HZ7.out _ HQ.out.m) 0).trans rfl
         have y71 : wr.cell? ⟨b7, 1, none⟩ = some (.int .i64 dx) := (Zc (HZ7.out _ HQ.out.m) 1).trans rfl
         have y72 : wr.cell? ⟨b7, 2, none⟩ = some (.int .i64 dy) := (Zc (HZ7.out _ HQ.out.m) 2).trans rfl
         have y73 : wr.cell? ⟨b7, 3, none⟩ = some (.bool false) := (Zc (HZ7.out _ HQ.out.m) 3).trans rfl
         have y74 : wr.cell? ⟨b7, 4, none⟩ = some (.int .i64 kd) := (Zc (HZ7.out _ HQ.out.m) 4).trans rfl
         have y80 : wr.cell? ⟨b8, 0, none⟩ = some (.int .i64 W) := (Zc (HZ8.out _ HQ.out.m) 0).trans rfl
         have y81 : wr.cell? ⟨b8, 1, none⟩ = some (.int .i64 H) := (Zc (HZ8.out _ HQ.out.m) 1).trans rfl
         have y82 : wr.cell? ⟨b8, 2, none⟩ = some (.slice AB P.length cB) := (Zc (HZ8.out _ HQ.out.m) 2).trans rfl
         have y90 : wr.cell? ⟨b9, 0, none⟩ = some (.int .i64 RW) := (Zc (HZ9.out _ HQ.out.m) 0).trans rfl
         have y91 : wr.cell? ⟨b9, 1, none⟩ = some (.int .i64 RH) := (Zc (HZ9.out _ HQ.out.m) 1).trans rfl
         have y92 : wr.cell? ⟨b9, 2, none⟩ = some (.slice AR RP.length cR) := (Zc (HZ9.out _ HQ.out.m) 2).trans rfl
         by_cases hltm : m < W.toNat
         · have hltm2 : (m : Int) < W := by omega
           go_wp2_with (fail)
           refine (HAL.out _ (HM8.out _ HQ.out.m) (m : Int) (k : Int) (by omega) (by omega)).mono ?_
           rintro e X0 ⟨rfl, hb⟩
           have HQ := Za (HQ.out.below hb)
           clear hb y70 y71 y72 y73 y74 y80 y81 y82 y90 y91 y92
           obtain ⟨⟨fc, is⟩, hF⟩ : ∃ r, flatP RW RH RP ((m : Int) - dx) ((k : Int) - dy) = r := ⟨_, rfl⟩
           rw [hF]
           have HF := Za (show (q.flat (m : Int) (k : Int)).2 = is by rw [HQF.out, hF])
           clear hF
           simp only
           have hX := HX.out
           rw [show W.toNat - m = (W.toNat - (m + 1)) + 1 by omega] at hX
           unfold evX at hX
           rw [if_neg (show ¬ (false = true ∧ (q.flat (m : Int) (k : Int)).2 = true) by simp), List.cons_append, putsI_cons, HQC.out] at hX
           simp only at hX
           have hL := HL.out
           rw [show W.toNat - m = (W.toNat - (m + 1)) + 1 by omega] at hL
           unfold evX at hL
           rw [if_neg (show ¬ (false = true ∧ (q.flat (m : Int) (k : Int)).2 = true) by simp), List.length_cons] at hL
           have HX2 := Za hX
           have HL2 := Za hL
           have HLN := Za (show s2.out.length ≤ 1099511627776 by omega)
           have hpx := px_01 HBM.out (m : Int) (k : Int)
           have hcr := ctxP_range HBM.out HBR.out t dx dy (m : Int) (k : Int) HT.out
           have HQ0 := Za (HQ.out.below (below_drew (Below.refl _ _)))
           clear hX hL
           go_wp2_with (fail)
           refine start_ (n := 15) (S := fun w' => w'.cell? ⟨b7, 0, none⟩ = some (.int .i64 t) ∧ w'.cell? ⟨b7, 1, none⟩ = some (.int .i64 dx) ∧ w'.cell? ⟨b7, 2, none⟩ = some (.int .i64 dy) ∧ w'.cell? ⟨b7, 3, none⟩ = some (.bool false) ∧ w'.cell? ⟨b7, 4, none⟩ = some (.int .i64 kd) ∧ w'.cell? ⟨b8, 0, none⟩ = some (.int .i64 W) ∧ w'.cell? ⟨b8, 1, none⟩ = some (.int .i64 H) ∧ w'.cell? ⟨b8, 2, none⟩ = some (.slice AB P.length cB) ∧ w'.cell? ⟨b9, 0, none⟩ = some (.int .i64 RW) ∧ w'.cell? ⟨b9, 1, none⟩ = some (.int .i64 RH) ∧ w'.cell? ⟨b9, 2, none⟩ = some (.slice AR RP.length cR)) (ds := []) (B' 15 0) (by kernel_rfl) rfl rfl ⟨(Zc (HZ7.out _ HQ0.out.m) 0).trans rfl, (Zc (HZ7.out _ HQ0.out.m) 1).trans rfl, (Zc (HZ7.out _ HQ0.out.m) 2).trans rfl, (Zc (HZ7.out _ HQ0.out.m) 3).trans rfl, (Zc (HZ7.out _ HQ0.out.m) 4).trans rfl, (Zc (HZ8.out _ HQ0.out.m) 0).trans rfl, (Zc (HZ8.out _ HQ0.out.m) 1).trans rfl, (Zc (HZ8.out _ HQ0.out.m) 2).trans rfl, (Zc (HZ9.out _ HQ0.out.m) 0).trans rfl, (Zc (HZ9.out _ HQ0.out.m) 1).trans rfl, (Zc (HZ9.out _ HQ0.out.m) 2).trans rfl⟩ (fun hHeld => ?_)
           refine u' 0 85 (B' 15 1) ?_ rfl rfl ?_ ?_ ?_ ?_; rotate_left; (intro w'; go_simp; with_reducible rfl); rotate_left; (simp only [Act.put, p1', p2', p3', w1', w2']; rfl)
           refine u' 1 86 (B' 15 3) ?_ rfl rfl ?_ ?_ ?_ ?_; rotate_left; (intro w'; go_simp; with_reducible rfl); rotate_left; (simp only [Act.put, p1', p2', p3', w1', w2']; rfl)
           refine u' 5 90 (B' 15 35) ?_ rfl rfl ?_ ?_ ?_ ?_; rotate_left; (intro w'; go_simp; with_reducible rfl); rotate_left; (simp only [Act.put, p1', p2', p3', w1', w2']; rfl)
           refine u' 6 91 (B' 15 99) ?_ rfl rfl ?_ ?_ ?_ ?_; rotate_left; (intro w'; go_simp; with_reducible rfl); rotate_left; (simp only [Act.put, p1', p2', p3', w1', w2']; rfl)
           refine u' 10 95 (B' 15 1123) ?_ rfl rfl ?_ ?_ ?_ ?_; rotate_left; (intro w'; go_simp; with_reducible rfl); rotate_left; (simp only [Act.put, p1', p2', p3', w1', w2']; rfl)
           refine u' 11 96 (B' 15 3171) ?_ rfl rfl ?_ ?_ ?_ ?_; rotate_left; (intro w'; go_simp; with_reducible rfl); rotate_left; (simp only [Act.put, p1', p2', p3', w1', w2']; rfl)
           refine t' 2 87 (B' 15 3175) ?_ rfl rfl ?_ hHeld ?_ ?_ ?_; rotate_left; (rintro w' ⟨s0, s1, s2, s3, s4, s5, s6, s7, s8, s9, s10⟩; go_simp; with_reducible rfl); rotate_left; (simp only [Act.put, p1', p2', p3', w1', w2']; rfl)
           refine t' 3 88 (B' 15 3183) ?_ rfl rfl ?_ hHeld ?_ ?_ ?_; rotate_left; (rintro w' ⟨s0, s1, s2, s3, s4, s5, s6, s7, s8, s9, s10⟩; go_simp; with_reducible rfl); rotate_left; (simp only [Act.put, p1', p2', p3', w1', w2']; rfl)
           refine t' 4 89 (B' 15 3199) ?_ rfl rfl ?_ hHeld ?_ ?_ ?_; rotate_left; (rintro w' ⟨s0, s1, s2, s3, s4, s5, s6, s7, s8, s9, s10⟩; go_simp; with_reducible rfl); rotate_left; (simp only [Act.put, p1', p2', p3', w1', w2']; rfl)
           refine t' 9 94 (B' 15 3711) ?_ rfl rfl ?_ hHeld ?_ ?_ ?_; rotate_left; (rintro w' ⟨s0, s1, s2, s3, s4, s5, s6, s7, s8, s9, s10⟩; go_simp; with_reducible rfl); rotate_left; (simp only [Act.put, p1', p2', p3', w1', w2']; rfl)
           refine one_ (i := 7) (N := some 92) (B' 15 3839) rfl rfl (by kernel_rfl) (by decide) (fun K hK => ?_)
           refine goes_ Try.func40 (by kernel_rfl) rfl #[.agg #[.int .i64 t, .int .i64 dx, .int .i64 dy, .bool false, .int .i64 kd], .agg #[.int .i64 W, .int .i64 H, .slice AB P.length cB], .agg #[.int .i64 RW, .int .i64 RH, .slice AR RP.length cR], .int .i64 (m : Int), .int .i64 (k : Int)] (by rfl) rfl rfl (by simp only [List.map_toArray, List.map_cons, List.map_nil]; rfl) ?_
           with_reducible refine (HCT.out _ (HM8.out _ HQ0.out.m) (m : Int) (k : Int) (by omega) (by omega)).mono ?_
           rintro e X1 ⟨rfl, hb⟩
           refine ⟨_, rfl, ?_⟩
           have HQ1 := Za (HQ0.out.below hb)
           clear hb
           refine hK.out _ _ ⟨(Zc (HZ7.out _ HQ1.out.m) 0).trans rfl, (Zc (HZ7.out _ HQ1.out.m) 1).trans rfl, (Zc (HZ7.out _ HQ1.out.m) 2).trans rfl, (Zc (HZ7.out _ HQ1.out.m) 3).trans rfl, (Zc (HZ7.out _ HQ1.out.m) 4).trans rfl, (Zc (HZ8.out _ HQ1.out.m) 0).trans rfl, (Zc (HZ8.out _ HQ1.out.m) 1).trans rfl, (Zc (HZ8.out _ HQ1.out.m) 2).trans rfl, (Zc (HZ9.out _ HQ1.out.m) 0).trans rfl, (Zc (HZ9.out _ HQ1.out.m) 1).trans rfl, (Zc (HZ9.out _ HQ1.out.m) 2).trans rfl⟩ (fun hHeld => ?_)
           clear hK K
           refine n' ?_ ?_ ?_; rotate_left; (show Act.put _ (some 92) _ = _; simp only [Act.put, p1', p2', p3', w1', w2']; rfl)
           refine u' 8 93 (B' 15 4095) ?_ rfl rfl ?_ ?_ ?_ ?_; rotate_left; (intro w'; go_simp; with_reducible rfl); rotate_left; (simp only [Act.put, p1', p2', p3', w1', w2']; rfl)
           refine one_ (i := 12) (N := some 97) (B' 15 8191) rfl rfl (by kernel_rfl) (by decide) (fun K hK => ?_)
           refine goes_ Try.func42 (by kernel_rfl) rfl #[.agg #[.int .i64 W, .int .i64 H, .slice AB P.length cB], .int .i64 (m : Int), .int .i64 (k : Int)] (by rfl) rfl rfl (by simp only [List.map_toArray, List.map_cons, List.map_nil]; rfl) ?_
           with_reducible refine (HPX.out _ (HM8.out _ HQ1.out.m) (m : Int) (k : Int)).mono ?_
           rintro e X2 ⟨rfl, hb⟩
           refine ⟨_, rfl, ?_⟩
           have HQ2 := Za (HQ1.out.below hb)
           clear hb
           refine hK.out _ _ ⟨(Zc (HZ7.out _ HQ2.out.m) 0).trans rfl, (Zc (HZ7.out _ HQ2.out.m) 1).trans rfl, (Zc (HZ7.out _ HQ2.out.m) 2).trans rfl, (Zc (HZ7.out _ HQ2.out.m) 3).trans rfl, (Zc (HZ7.out _ HQ2.out.m) 4).trans rfl, (Zc (HZ8.out _ HQ2.out.m) 0).trans rfl, (Zc (HZ8.out _ HQ2.out.m) 1).trans rfl, (Zc (HZ8.out _ HQ2.out.m) 2).trans rfl, (Zc (HZ9.out _ HQ2.out.m) 0).trans rfl, (Zc (HZ9.out _ HQ2.out.m) 1).trans rfl, (Zc (HZ9.out _ HQ2.out.m) 2).trans rfl⟩ (fun hHeld => ?_)
           clear hK K
           refine n' ?_ ?_ ?_; rotate_left; (show Act.put _ (some 97) _ = _; simp only [Act.put, p1', p2', p3', w1', w2']; rfl)
           refine u' 13 98 (B' 15 16383) ?_ rfl rfl ?_ ?_ ?_ ?_; rotate_left; (intro w'; go_simp; with_reducible rfl); rotate_left; (simp only [Act.put, p1', p2', p3', w1', w2']; rfl)
           refine one_ (i := 14) (N := some 99) (B' 15 32767) rfl rfl (by kernel_rfl) (by decide) (fun K hK => ?_)
           refine goes_ Try.func26 (by kernel_rfl) rfl #[.pointer (some ⟨g, 0, none⟩), .int .i64 (wrap64 (base + ctxP t dx dy W H P RW RH RP (m : Int) (k : Int))), .int .i64 (wrap64 (px W H P (m : Int) (k : Int)))] (by rfl) rfl rfl (by simp only [List.map_toArray, List.map_cons, List.map_nil]; rfl) ?_
           with_reducible refine (HQ2.out.rput_eq HLN.out (base + ctxP t dx dy W H P RW RH RP (m : Int) (k : Int)) (px W H P (m : Int) (k : Int)) (by rw [wrap_id] <;> omega) (by rw [wrap_id] <;> omega)).mono ?_
           rintro e X3 ⟨rfl, hP⟩
           refine ⟨_, rfl, ?_⟩
           have HQ3 := Za hP
           clear hP
           refine hK.out _ _ ⟨(Zc (HZ7.out _ HQ3.out.m) 0).trans rfl, (Zc (HZ7.out _ HQ3.out.m) 1).trans rfl, (Zc (HZ7.out _ HQ3.out.m) 2).trans rfl, (Zc (HZ7.out _ HQ3.out.m) 3).trans rfl, (Zc (HZ7.out _ HQ3.out.m) 4).trans rfl, (Zc (HZ8.out _ HQ3.out.m) 0).trans rfl, (Zc (HZ8.out _ HQ3.out.m) 1).trans rfl, (Zc (HZ8.out _ HQ3.out.m) 2).trans rfl, (Zc (HZ9.out _ HQ3.out.m) 0).trans rfl, (Zc (HZ9.out _ HQ3.out.m) 1).trans rfl, (Zc (HZ9.out _ HQ3.out.m) 2).trans rfl⟩ (fun hHeld => ?_)
           clear hK K
           refine n' ?_ ?_ ?_; rotate_left; (show Act.put _ (some 99) _ = _; simp only [Act.put, p1', p2', p3', w1', w2']; rfl)
           refine done_ (by kernel_rfl) ?_
           go_wp2_with (fail)
           refine ⟨⟨m + 1, _, by omega, by go_num, HX2, ⟨?_⟩, HQ3⟩, by simp [intOf]; omega⟩
           have h1 := (ES.putI_len s2 (base + ctxP t dx dy W H P RW RH RP (m : Int) (k : Int)) (px W H P (m : Int) (k : Int))).1
           have h2 := HL2.out
           omega
         · have hX := HX.out
           rw [show W.toNat - m = 0 by omega] at hX
           simp only [evX, List.nil_append] at hX
           have hL := HL.out
           rw [show W.toNat - m = 0 by omega] at hL
           simp only [evX, List.length_nil, Nat.zero_add] at hL
           have HX2 := Za hX
           have HL2 := Za hL
           clear hX hL
           go_wp2_with (fail)
           exact ⟨⟨k + 1, _, by omega, by go_num, HX2, HL2, HQ⟩, by simp [intOf]; omega⟩
      · rw [Bool.true_and] at hqty
        rw [if_pos rfl] at hY hL
        go_wp2_with (fail)
        refine (HRO.out _ (HM8.out _ HP.out.m) (k : Int) (by omega)).mono ?_
        rintro e V1 ⟨rfl, hb⟩
        have HP := Za (HP.out.below hb)
        clear hb z81 z70 z71 z72 z73 z74 z90 z91 z92 z80 z82
        obtain ⟨vt, hvt⟩ : ∃ x, rowP dx dy W H P RW RH RP k W.toNat 0 = x := ⟨_, rfl⟩
        rw [hvt] at hqty ⊢
        rw [hqty, List.cons_append, List.nil_append, putsI_cons] at hY
        rw [hqty, List.cons_append, List.nil_append, List.length_cons, List.length_append] at hL
        simp only at hY
        have HX0 := Za hY
        have HL0 := Za hL
        clear hvt hqty hY hL
        have z73 : V1.cell? ⟨b7, 3, none⟩ = some (.bool true) := (Zc (HZ7.out _ HP.out.m) 3).trans rfl
        cases vt
        · rw [show bit1 false = 0 from rfl] at HX0
          have hln : s1.out.length ≤ 1099511627776 := by have := HL0.out; omega
          go_wp2_with (fail)
          refine (HP.out.rput_eq hln (base + ctxs t) 0 (by first | rfl | omega | (rw [wrap_id] <;> omega)) rfl).mono ?_
          rintro e V3 ⟨rfl, hP⟩
          have HP := Za hP
          have HX := Za HX0.out
          have HL := Za (show (s1.putI (base + ctxs t) 0).out.length + 4 * ((evX q P k false W.toNat 0).length + (evY q P (H.toNat - (k + 1)) (k + 1)).length) ≤ 1000200000 by have h1 := (ES.putI_len s1 (base + ctxs t) 0).1; have h2 := HL0.out; omega)
          clear hP hln HX0 HL0 z73
          go_wp2_with (fail)
          go_loopw [16] (fun i wr => ∃ (m : Nat) (s2 : ES), m ≤ W.toNat ∧ i = .int .i64 m ∧ Aside0 (putsI s2 (evX q P k false (W.toNat - m) m ++ evY q P (H.toNat - (k + 1)) (k + 1)) = R1) ∧ Aside0 (s2.out.length + 4 * ((evX q P k false (W.toNat - m) m).length + (evY q P (H.toNat - (k + 1)) (k + 1)).length) ≤ 1000200000) ∧ Aside0 (PW RefAt W8 S g s2 wr)) (fun i _ => W.toNat - (intOf i).toNat)
          case atStart => exact ⟨0, _, Nat.zero_le _, rfl, HX, HL, HP⟩
          case round =>
           obtain ⟨m, s2, hm, rfl, HX, HL, HQ⟩ := hrel
           have y70 : wr.cell? ⟨b7, 0, none⟩ = some (.int .i64 t) := (Zc (HZ7.out _ HQ.out.m) 0).trans rfl
           have y71 : wr.cell? ⟨b7, 1, none⟩ = some (.int .i64 dx) := (Zc (HZ7.out _ HQ.out.m) 1).trans rfl
           have y72 : wr.cell? ⟨b7, 2, none⟩ = some (.int .i64 dy) := (Zc (HZ7.out _ HQ.out.m) 2).trans rfl
           have y73 : wr.cell? ⟨b7, 3, none⟩ = some (.bool true) := (Zc (HZ7.out _ HQ.out.m) 3).trans rfl
           have y74 : wr.cell? ⟨b7, 4, none⟩ = some (.int .i64 kd) := (Zc (HZ7.out _ HQ.out.m) 4).trans rfl
           have y80 : wr.cell? ⟨b8, 0, none⟩ = some (.int .i64 W) := (Zc (HZ8.out _ HQ.out.m) 0).trans rfl
           have y81 : wr.cell? ⟨b8, 1, none⟩ = some (.int .i64 H) := (Zc (HZ8.out _ HQ.out.m) 1).trans rfl
           have y82 : wr.cell? ⟨b8, 2, none⟩ = some (.slice AB P.length cB) := (Zc (HZ8.out _ HQ.out.m) 2).trans rfl
           have y90 : wr.cell? ⟨b9, 0, none⟩ = some (.int .i64 RW) := (Zc (HZ9.out _ HQ.out.m) 0).trans rfl
           have y91 : wr.cell? ⟨b9, 1, none⟩ = some (.int .i64 RH) := (Zc (HZ9.out _ HQ.out.m) 1).trans rfl
           have y92 : wr.cell? ⟨b9, 2, none⟩ = some (.slice AR RP.length cR) := (Zc (HZ9.out _ HQ.out.m) 2).trans rfl
           by_cases hltm : m < W.toNat
           · have hltm2 : (m : Int) < W := by omega
             go_wp2_with (fail)
             refine (HAL.out _ (HM8.out _ HQ.out.m) (m : Int) (k : Int) (by omega) (by omega)).mono ?_
             rintro e X0 ⟨rfl, hb⟩
             have HQ := Za (HQ.out.below hb)
             clear hb y70 y71 y72 y73 y74 y80 y81 y82 y90 y91 y92
             obtain ⟨⟨fc, is⟩, hF⟩ : ∃ r, flatP RW RH RP ((m : Int) - dx) ((k : Int) - dy) = r := ⟨_, rfl⟩
             rw [hF]
             have HF := Za (show (q.flat (m : Int) (k : Int)).2 = is by rw [HQF.out, hF])
             clear hF
             simp only
             have hX := HX.out
             rw [show W.toNat - m = (W.toNat - (m + 1)) + 1 by omega] at hX
             unfold evX at hX
             rw [if_neg (show ¬ (false = true ∧ (q.flat (m : Int) (k : Int)).2 = true) by simp), List.cons_append, putsI_cons, HQC.out] at hX
             simp only at hX
             have hL := HL.out
             rw [show W.toNat - m = (W.toNat - (m + 1)) + 1 by omega] at hL
             unfold evX at hL
             rw [if_neg (show ¬ (false = true ∧ (q.flat (m : Int) (k : Int)).2 = true) by simp), List.length_cons] at hL
             have HX2 := Za hX
             have HL2 := Za hL
             have HLN := Za (show s2.out.length ≤ 1099511627776 by omega)
             have hpx := px_01 HBM.out (m : Int) (k : Int)
             have hcr := ctxP_range HBM.out HBR.out t dx dy (m : Int) (k : Int) HT.out
             have HQ0 := Za (HQ.out.below (below_drew (Below.refl _ _)))
             clear hX hL
             go_wp2_with (fail)
             refine start_ (n := 15) (S := fun w' => w'.cell? ⟨b7, 0, none⟩ = some (.int .i64 t) ∧ w'.cell? ⟨b7, 1, none⟩ = some (.int .i64 dx) ∧ w'.cell? ⟨b7, 2, none⟩ = some (.int .i64 dy) ∧ w'.cell? ⟨b7, 3, none⟩ = some (.bool true) ∧ w'.cell? ⟨b7, 4, none⟩ = some (.int .i64 kd) ∧ w'.cell? ⟨b8, 0, none⟩ = some (.int .i64 W) ∧ w'.cell? ⟨b8, 1, none⟩ = some (.int .i64 H) ∧ w'.cell? ⟨b8, 2, none⟩ = some (.slice AB P.length cB) ∧ w'.cell? ⟨b9, 0, none⟩ = some (.int .i64 RW) ∧ w'.cell? ⟨b9, 1, none⟩ = some (.int .i64 RH) ∧ w'.cell? ⟨b9, 2, none⟩ = some (.slice AR RP.length cR)) (ds := []) (B' 15 0) (by kernel_rfl) rfl rfl ⟨(Zc (HZ7.out _ HQ0.out.m) 0).trans rfl, (Zc (HZ7.out _ HQ0.out.m) 1).trans rfl, (Zc (HZ7.out _ HQ0.out.m) 2).trans rfl, (Zc (HZ7.out _ HQ0.out.m) 3).trans rfl, (Zc (HZ7.out _ HQ0.out.m) 4).trans rfl, (Zc (HZ8.out _ HQ0.out.m) 0).trans rfl, (Zc (HZ8.out _ HQ0.out.m) 1).trans rfl, (Zc (HZ8.out _ HQ0.out.m) 2).trans rfl, (Zc (HZ9.out _ HQ0.out.m) 0).trans rfl, (Zc (HZ9.out _ HQ0.out.m) 1).trans rfl, (Zc (HZ9.out _ HQ0.out.m) 2).trans rfl⟩ (fun hHeld => ?_)
             refine u' 0 85 (B' 15 1) ?_ rfl rfl ?_ ?_ ?_ ?_; rotate_left; (intro w'; go_simp; with_reducible rfl); rotate_left; (simp only [Act.put, p1', p2', p3', w1', w2']; rfl)
             refine u' 1 86 (B' 15 3) ?_ rfl rfl ?_ ?_ ?_ ?_; rotate_left; (intro w'; go_simp; with_reducible rfl); rotate_left; (simp only [Act.put, p1', p2', p3', w1', w2']; rfl)
             refine u' 5 90 (B' 15 35) ?_ rfl rfl ?_ ?_ ?_ ?_; rotate_left; (intro w'; go_simp; with_reducible rfl); rotate_left; (simp only [Act.put, p1', p2', p3', w1', w2']; rfl)
             refine u' 6 91 (B' 15 99) ?_ rfl rfl ?_ ?_ ?_ ?_; rotate_left; (intro w'; go_simp; with_reducible rfl); rotate_left; (simp only [Act.put, p1', p2', p3', w1', w2']; rfl)
             refine u' 10 95 (B' 15 1123) ?_ rfl rfl ?_ ?_ ?_ ?_; rotate_left; (intro w'; go_simp; with_reducible rfl); rotate_left; (simp only [Act.put, p1', p2', p3', w1', w2']; rfl)
             refine u' 11 96 (B' 15 3171) ?_ rfl rfl ?_ ?_ ?_ ?_; rotate_left; (intro w'; go_simp; with_reducible rfl); rotate_left; (simp only [Act.put, p1', p2', p3', w1', w2']; rfl)
             refine t' 2 87 (B' 15 3175) ?_ rfl rfl ?_ hHeld ?_ ?_ ?_; rotate_left; (rintro w' ⟨s0, s1, s2, s3, s4, s5, s6, s7, s8, s9, s10⟩; go_simp; with_reducible rfl); rotate_left; (simp only [Act.put, p1', p2', p3', w1', w2']; rfl)
             refine t' 3 88 (B' 15 3183) ?_ rfl rfl ?_ hHeld ?_ ?_ ?_; rotate_left; (rintro w' ⟨s0, s1, s2, s3, s4, s5, s6, s7, s8, s9, s10⟩; go_simp; with_reducible rfl); rotate_left; (simp only [Act.put, p1', p2', p3', w1', w2']; rfl)
             refine t' 4 89 (B' 15 3199) ?_ rfl rfl ?_ hHeld ?_ ?_ ?_; rotate_left; (rintro w' ⟨s0, s1, s2, s3, s4, s5, s6, s7, s8, s9, s10⟩; go_simp; with_reducible rfl); rotate_left; (simp only [Act.put, p1', p2', p3', w1', w2']; rfl)
             refine t' 9 94 (B' 15 3711) ?_ rfl rfl ?_ hHeld ?_ ?_ ?_; rotate_left; (rintro w' ⟨s0, s1, s2, s3, s4, s5, s6, s7, s8, s9, s10⟩; go_simp; with_reducible rfl); rotate_left; (simp only [Act.put, p1', p2', p3', w1', w2']; rfl)
             refine one_ (i := 7) (N := some 92) (B' 15 3839) rfl rfl (by kernel_rfl) (by decide) (fun K hK => ?_)
             refine goes_ Try.func40 (by kernel_rfl) rfl #[.agg #[.int .i64 t, .int .i64 dx, .int .i64 dy, .bool true, .int .i64 kd], .agg #[.int .i64 W, .int .i64 H, .slice AB P.length cB], .agg #[.int .i64 RW, .int .i64 RH, .slice AR RP.length cR], .int .i64 (m : Int), .int .i64 (k : Int)] (by rfl) rfl rfl (by simp only [List.map_toArray, List.map_cons, List.map_nil]; rfl) ?_
             with_reducible refine (HCT.out _ (HM8.out _ HQ0.out.m) (m : Int) (k : Int) (by omega) (by omega)).mono ?_
             rintro e X1 ⟨rfl, hb⟩
             refine ⟨_, rfl, ?_⟩
             have HQ1 := Za (HQ0.out.below hb)
             clear hb
             refine hK.out _ _ ⟨(Zc (HZ7.out _ HQ1.out.m) 0).trans rfl, (Zc (HZ7.out _ HQ1.out.m) 1).trans rfl, (Zc (HZ7.out _ HQ1.out.m) 2).trans rfl, (Zc (HZ7.out _ HQ1.out.m) 3).trans rfl, (Zc (HZ7.out _ HQ1.out.m) 4).trans rfl, (Zc (HZ8.out _ HQ1.out.m) 0).trans rfl, (Zc (HZ8.out _ HQ1.out.m) 1).trans rfl, (Zc (HZ8.out _ HQ1.out.m) 2).trans rfl, (Zc (HZ9.out _ HQ1.out.m) 0).trans rfl, (Zc (HZ9.out _ HQ1.out.m) 1).trans rfl, (Zc (HZ9.out _ HQ1.out.m) 2).trans rfl⟩ (fun hHeld => ?_)
             clear hK K
             refine n' ?_ ?_ ?_; rotate_left; (show Act.put _ (some 92) _ = _; simp only [Act.put, p1', p2', p3', w1', w2']; rfl)
             refine u' 8 93 (B' 15 4095) ?_ rfl rfl ?_ ?_ ?_ ?_; rotate_left; (intro w'; go_simp; with_reducible rfl); rotate_left; (simp only [Act.put, p1', p2', p3', w1', w2']; rfl)
             refine one_ (i := 12) (N := some 97) (B' 15 8191) rfl rfl (by kernel_rfl) (by decide) (fun K hK => ?_)
             refine goes_ Try.func42 (by kernel_rfl) rfl #[.agg #[.int .i64 W, .int .i64 H, .slice AB P.length cB], .int .i64 (m : Int), .int .i64 (k : Int)] (by rfl) rfl rfl (by simp only [List.map_toArray, List.map_cons, List.map_nil]; rfl) ?_
             with_reducible refine (HPX.out _ (HM8.out _ HQ1.out.m) (m : Int) (k : Int)).mono ?_
             rintro e X2 ⟨rfl, hb⟩
             refine ⟨_, rfl, ?_⟩
             have HQ2 := Za (HQ1.out.below hb)
             clear hb
             refine hK.out _ _ ⟨(Zc (HZ7.out _ HQ2.out.m) 0).trans rfl, (Zc (HZ7.out _ HQ2.out.m) 1).trans rfl, (Zc (HZ7.out _ HQ2.out.m) 2).trans rfl, (Zc (HZ7.out _ HQ2.out.m) 3).trans rfl, (Zc (HZ7.out _ HQ2.out.m) 4).trans rfl, (Zc (HZ8.out _ HQ2.out.m) 0).trans rfl, (Zc (HZ8.out _ HQ2.out.m) 1).trans rfl, (Zc (HZ8.out _ HQ2.out.m) 2).trans rfl, (Zc (HZ9.out _ HQ2.out.m) 0).trans rfl, (Zc (HZ9.out _ HQ2.out.m) 1).trans rfl, (Zc (HZ9.out _ HQ2.out.m) 2).trans rfl⟩ (fun hHeld => ?_)
             clear hK K
             refine n' ?_ ?_ ?_; rotate_left; (show Act.put _ (some 97) _ = _; simp only [Act.put, p1', p2', p3', w1', w2']; rfl)
             refine u' 13 98 (B' 15 16383) ?_ rfl rfl ?_ ?_ ?_ ?_; rotate_left; (intro w'; go_simp; with_reducible rfl); rotate_left; (simp only [Act.put, p1', p2', p3', w1', w2']; rfl)
             refine one_ (i := 14) (N := some 99) (B' 15 32767) rfl rfl (by kernel_rfl) (by decide) (fun K hK => ?_)
             refine goes_ Try.func26 (by kernel_rfl) rfl #[.pointer (some ⟨g, 0, none⟩), .int .i64 (wrap64 (base + ctxP t dx dy W H P RW RH RP (m : Int) (k : Int))), .int .i64 (wrap64 (px W H P (m : Int) (k : Int)))] (by rfl) rfl rfl (by simp only [List.map_toArray, List.map_cons, List.map_nil]; rfl) ?_
             with_reducible refine (HQ2.out.rput_eq HLN.out (base + ctxP t dx dy W H P RW RH RP (m : Int) (k : Int)) (px W H P (m : Int) (k : Int)) (by rw [wrap_id] <;> omega) (by rw [wrap_id] <;> omega)).mono ?_
             rintro e X3 ⟨rfl, hP⟩
             refine ⟨_, rfl, ?_⟩
             have HQ3 := Za hP
             clear hP
             refine hK.out _ _ ⟨(Zc (HZ7.out _ HQ3.out.m) 0).trans rfl, (Zc (HZ7.out _ HQ3.out.m) 1).trans rfl, (Zc (HZ7.out _ HQ3.out.m) 2).trans rfl, (Zc (HZ7.out _ HQ3.out.m) 3).trans rfl, (Zc (HZ7.out _ HQ3.out.m) 4).trans rfl, (Zc (HZ8.out _ HQ3.out.m) 0).trans rfl, (Zc (HZ8.out _ HQ3.out.m) 1).trans rfl, (Zc (HZ8.out _ HQ3.out.m) 2).trans rfl, (Zc (HZ9.out _ HQ3.out.m) 0).trans rfl, (Zc (HZ9.out _ HQ3.out.m) 1).trans rfl, (Zc (HZ9.out _ HQ3.out.m) 2).trans rfl⟩ (fun hHeld => ?_)
             clear hK K
             refine n' ?_ ?_ ?_; rotate_left; (show Act.put _ (some 99) _ = _; simp only [Act.put, p1', p2', p3', w1', w2']; rfl)
             refine done_ (by kernel_rfl) ?_
             go_wp2_with (fail)
             refine ⟨⟨m + 1, _, by omega, by go_num, HX2, ⟨?_⟩, HQ3⟩, by simp [intOf]; omega⟩
             have h1 := (ES.putI_len s2 (base + ctxP t dx dy W H P RW RH RP (m : Int) (k : Int)) (px W H P (m : Int) (k : Int))).1
             have h2 := HL2.out
             omega
           · have hX := HX.out
             rw [show W.toNat - m = 0 by omega] at hX
             simp only [evX, List.nil_append] at hX
             have hL := HL.out
             rw [show W.toNat - m = 0 by omega] at hL
             simp only [evX, List.length_nil, Nat.zero_add] at hL
             have HX2 := Za hX
             have HL2 := Za hL
             clear hX hL
             go_wp2_with (fail)
             exact ⟨⟨k + 1, _, by omega, by go_num, HX2, HL2, HQ⟩, by simp [intOf]; omega⟩
        · rw [show bit1 true = 1 from rfl] at HX0
          have hln : s1.out.length ≤ 1099511627776 := by have := HL0.out; omega
          go_wp2_with (fail)
          refine (HP.out.rput_eq hln (base + ctxs t) 1 (by first | rfl | omega | (rw [wrap_id] <;> omega)) rfl).mono ?_
          rintro e V3 ⟨rfl, hP⟩
          have HP := Za hP
          have HX := Za HX0.out
          have HL := Za (show (s1.putI (base + ctxs t) 1).out.length + 4 * ((evX q P k true W.toNat 0).length + (evY q P (H.toNat - (k + 1)) (k + 1)).length) ≤ 1000200000 by have h1 := (ES.putI_len s1 (base + ctxs t) 1).1; have h2 := HL0.out; omega)
          clear hP hln HX0 HL0 z73
          go_wp2_with (fail)
          go_loopw [16] (fun i wr => ∃ (m : Nat) (s2 : ES), m ≤ W.toNat ∧ i = .int .i64 m ∧ Aside0 (putsI s2 (evX q P k true (W.toNat - m) m ++ evY q P (H.toNat - (k + 1)) (k + 1)) = R1) ∧ Aside0 (s2.out.length + 4 * ((evX q P k true (W.toNat - m) m).length + (evY q P (H.toNat - (k + 1)) (k + 1)).length) ≤ 1000200000) ∧ Aside0 (PW RefAt W8 S g s2 wr)) (fun i _ => W.toNat - (intOf i).toNat)
          case atStart => exact ⟨0, _, Nat.zero_le _, rfl, HX, HL, HP⟩
          case round =>
           obtain ⟨m, s2, hm, rfl, HX, HL, HQ⟩ := hrel
           have y70 : wr.cell? ⟨b7, 0, none⟩ = some (.int .i64 t) := (Zc (HZ7.out _ HQ.out.m) 0).trans rfl
           have y71 : wr.cell? ⟨b7, 1, none⟩ = some (.int .i64 dx) := (Zc (HZ7.out _ HQ.out.m) 1).trans rfl
           have y72 : wr.cell? ⟨b7, 2, none⟩ = some (.int .i64 dy) := (Zc (HZ7.out _ HQ.out.m) 2).trans rfl
           have y73 : wr.cell? ⟨b7, 3, none⟩ = some (.bool true) := (Zc (HZ7.out _ HQ.out.m) 3).trans rfl
           have y74 : wr.cell? ⟨b7, 4, none⟩ = some (.int .i64 kd) := (Zc (HZ7.out _ HQ.out.m) 4).trans rfl
           have y80 : wr.cell? ⟨b8, 0, none⟩ = some (.int .i64 W) := (Zc (HZ8.out _ HQ.out.m) 0).trans rfl
           have y81 : wr.cell? ⟨b8, 1, none⟩ = some (.int .i64 H) := (Zc (HZ8.out _ HQ.out.m) 1).trans rfl
           have y82 : wr.cell? ⟨b8, 2, none⟩ = some (.slice AB P.length cB) := (Zc (HZ8.out _ HQ.out.m) 2).trans rfl
           have y90 : wr.cell? ⟨b9, 0, none⟩ = some (.int .i64 RW) := (Zc (HZ9.out _ HQ.out.m) 0).trans rfl
           have y91 : wr.cell? ⟨b9, 1, none⟩ = some (.int .i64 RH) := (Zc (HZ9.out _ HQ.out.m) 1).trans rfl
           have y92 : wr.cell? ⟨b9, 2, none⟩ = some (.slice AR RP.length cR) := (Zc (HZ9.out _ HQ.out.m) 2).trans rfl
           by_cases hltm : m < W.toNat
           · have hltm2 : (m : Int) < W := by omega
             go_wp2_with (fail)
             refine (HAL.out _ (HM8.out _ HQ.out.m) (m : Int) (k : Int) (by omega) (by omega)).mono ?_
             rintro e X0 ⟨rfl, hb⟩
             have HQ := Za (HQ.out.below hb)
             clear hb y70 y71 y72 y73 y74 y80 y81 y82 y90 y91 y92
             obtain ⟨⟨fc, is⟩, hF⟩ : ∃ r, flatP RW RH RP ((m : Int) - dx) ((k : Int) - dy) = r := ⟨_, rfl⟩
             rw [hF]
             have HF := Za (show (q.flat (m : Int) (k : Int)).2 = is by rw [HQF.out, hF])
             clear hF
             simp only
             cases is
             · have hX := HX.out
               rw [show W.toNat - m = (W.toNat - (m + 1)) + 1 by omega] at hX
               unfold evX at hX
               rw [if_neg (show ¬ (true = true ∧ (q.flat (m : Int) (k : Int)).2 = true) by rw [HF.out]; simp), List.cons_append, putsI_cons, HQC.out] at hX
               simp only at hX
               have hL := HL.out
               rw [show W.toNat - m = (W.toNat - (m + 1)) + 1 by omega] at hL
               unfold evX at hL
               rw [if_neg (show ¬ (true = true ∧ (q.flat (m : Int) (k : Int)).2 = true) by rw [HF.out]; simp), List.length_cons] at hL
               have HX2 := Za hX
               have HL2 := Za hL
               have HLN := Za (show s2.out.length ≤ 1099511627776 by omega)
               have hpx := px_01 HBM.out (m : Int) (k : Int)
               have hcr := ctxP_range HBM.out HBR.out t dx dy (m : Int) (k : Int) HT.out
               have HQ0 := Za (HQ.out.below (below_drew (Below.refl _ _)))
               clear hX hL
               go_wp2_with (fail)
               refine start_ (n := 15) (S := fun w' => w'.cell? ⟨b7, 0, none⟩ = some (.int .i64 t) ∧ w'.cell? ⟨b7, 1, none⟩ = some (.int .i64 dx) ∧ w'.cell? ⟨b7, 2, none⟩ = some (.int .i64 dy) ∧ w'.cell? ⟨b7, 3, none⟩ = some (.bool true) ∧ w'.cell? ⟨b7, 4, none⟩ = some (.int .i64 kd) ∧ w'.cell? ⟨b8, 0, none⟩ = some (.int .i64 W) ∧ w'.cell? ⟨b8, 1, none⟩ = some (.int .i64 H) ∧ w'.cell? ⟨b8, 2, none⟩ = some (.slice AB P.length cB) ∧ w'.cell? ⟨b9, 0, none⟩ = some (.int .i64 RW) ∧ w'.cell? ⟨b9, 1, none⟩ = some (.int .i64 RH) ∧ w'.cell? ⟨b9, 2, none⟩ = some (.slice AR RP.length cR)) (ds := []) (B' 15 0) (by kernel_rfl) rfl rfl ⟨(Zc (HZ7.out _ HQ0.out.m) 0).trans rfl, (Zc (HZ7.out _ HQ0.out.m) 1).trans rfl, (Zc (HZ7.out _ HQ0.out.m) 2).trans rfl, (Zc (HZ7.out _ HQ0.out.m) 3).trans rfl, (Zc (HZ7.out _ HQ0.out.m) 4).trans rfl, (Zc (HZ8.out _ HQ0.out.m) 0).trans rfl, (Zc (HZ8.out _ HQ0.out.m) 1).trans rfl, (Zc (HZ8.out _ HQ0.out.m) 2).trans rfl, (Zc (HZ9.out _ HQ0.out.m) 0).trans rfl, (Zc (HZ9.out _ HQ0.out.m) 1).trans rfl, (Zc (HZ9.out _ HQ0.out.m) 2).trans rfl⟩ (fun hHeld => ?_)
               refine u' 0 85 (B' 15 1) ?_ rfl rfl ?_ ?_ ?_ ?_; rotate_left; (intro w'; go_simp; with_reducible rfl); rotate_left; (simp only [Act.put, p1', p2', p3', w1', w2']; rfl)
               refine u' 1 86 (B' 15 3) ?_ rfl rfl ?_ ?_ ?_ ?_; rotate_left; (intro w'; go_simp; with_reducible rfl); rotate_left; (simp only [Act.put, p1', p2', p3', w1', w2']; rfl)
               refine u' 5 90 (B' 15 35) ?_ rfl rfl ?_ ?_ ?_ ?_; rotate_left; (intro w'; go_simp; with_reducible rfl); rotate_left; (simp only [Act.put, p1', p2', p3', w1', w2']; rfl)
               refine u' 6 91 (B' 15 99) ?_ rfl rfl ?_ ?_ ?_ ?_; rotate_left; (intro w'; go_simp; with_reducible rfl); rotate_left; (simp only [Act.put, p1', p2', p3', w1', w2']; rfl)
               refine u' 10 95 (B' 15 1123) ?_ rfl rfl ?_ ?_ ?_ ?_; rotate_left; (intro w'; go_simp; with_reducible rfl); rotate_left; (simp only [Act.put, p1', p2', p3', w1', w2']; rfl)
               refine u' 11 96 (B' 15 3171) ?_ rfl rfl ?_ ?_ ?_ ?_; rotate_left; (intro w'; go_simp; with_reducible rfl); rotate_left; (simp only [Act.put, p1', p2', p3', w1', w2']; rfl)
               refine t' 2 87 (B' 15 3175) ?_ rfl rfl ?_ hHeld ?_ ?_ ?_; rotate_left; (rintro w' ⟨s0, s1, s2, s3, s4, s5, s6, s7, s8, s9, s10⟩; go_simp; with_reducible rfl); rotate_left; (simp only [Act.put, p1', p2', p3', w1', w2']; rfl)
               refine t' 3 88 (B' 15 3183) ?_ rfl rfl ?_ hHeld ?_ ?_ ?_; rotate_left; (rintro w' ⟨s0, s1, s2, s3, s4, s5, s6, s7, s8, s9, s10⟩; go_simp; with_reducible rfl); rotate_left; (simp only [Act.put, p1', p2', p3', w1', w2']; rfl)
               refine t' 4 89 (B' 15 3199) ?_ rfl rfl ?_ hHeld ?_ ?_ ?_; rotate_left; (rintro w' ⟨s0, s1, s2, s3, s4, s5, s6, s7, s8, s9, s10⟩; go_simp; with_reducible rfl); rotate_left; (simp only [Act.put, p1', p2', p3', w1', w2']; rfl)
               refine t' 9 94 (B' 15 3711) ?_ rfl rfl ?_ hHeld ?_ ?_ ?_; rotate_left; (rintro w' ⟨s0, s1, s2, s3, s4, s5, s6, s7, s8, s9, s10⟩; go_simp; with_reducible rfl); rotate_left; (simp only [Act.put, p1', p2', p3', w1', w2']; rfl)
               refine one_ (i := 7) (N := some 92) (B' 15 3839) rfl rfl (by kernel_rfl) (by decide) (fun K hK => ?_)
               refine goes_ Try.func40 (by kernel_rfl) rfl #[.agg #[.int .i64 t, .int .i64 dx, .int .i64 dy, .bool true, .int .i64 kd], .agg #[.int .i64 W, .int .i64 H, .slice AB P.length cB], .agg #[.int .i64 RW, .int .i64 RH, .slice AR RP.length cR], .int .i64 (m : Int), .int .i64 (k : Int)] (by rfl) rfl rfl (by simp only [List.map_toArray, List.map_cons, List.map_nil]; rfl) ?_
               with_reducible refine (HCT.out _ (HM8.out _ HQ0.out.m) (m : Int) (k : Int) (by omega) (by omega)).mono ?_
               rintro e X1 ⟨rfl, hb⟩
               refine ⟨_, rfl, ?_⟩
               have HQ1 := Za (HQ0.out.below hb)
               clear hb
               refine hK.out _ _ ⟨(Zc (HZ7.out _ HQ1.out.m) 0).trans rfl, (Zc (HZ7.out _ HQ1.out.m) 1).trans rfl, (Zc (HZ7.out _ HQ1.out.m) 2).trans rfl, (Zc (HZ7.out _ HQ1.out.m) 3).trans rfl, (Zc (HZ7.out _ HQ1.out.m) 4).trans rfl, (Zc (HZ8.out _ HQ1.out.m) 0).trans rfl, (Zc (HZ8.out _ HQ1.out.m) 1).trans rfl, (Zc (HZ8.out _ HQ1.out.m) 2).trans rfl, (Zc (HZ9.out _ HQ1.out.m) 0).trans rfl, (Zc (HZ9.out _ HQ1.out.m) 1).trans rfl, (Zc (HZ9.out _ HQ1.out.m) 2).trans rfl⟩ (fun hHeld => ?_)
               clear hK K
               refine n' ?_ ?_ ?_; rotate_left; (show Act.put _ (some 92) _ = _; simp only [Act.put, p1', p2', p3', w1', w2']; rfl)
               refine u' 8 93 (B' 15 4095) ?_ rfl rfl ?_ ?_ ?_ ?_; rotate_left; (intro w'; go_simp; with_reducible rfl); rotate_left; (simp only [Act.put, p1', p2', p3', w1', w2']; rfl)
               refine one_ (i := 12) (N := some 97) (B' 15 8191) rfl rfl (by kernel_rfl) (by decide) (fun K hK => ?_)
               refine goes_ Try.func42 (by kernel_rfl) rfl #[.agg #[.int .i64 W, .int .i64 H, .slice AB P.length cB], .int .i64 (m : Int), .int .i64 (k : Int)] (by rfl) rfl rfl (by simp only [List.map_toArray, List.map_cons, List.map_nil]; rfl) ?_
               with_reducible refine (HPX.out _ (HM8.out _ HQ1.out.m) (m : Int) (k : Int)).mono ?_
               rintro e X2 ⟨rfl, hb⟩
               refine ⟨_, rfl, ?_⟩
               have HQ2 := Za (HQ1.out.below hb)
               clear hb
               refine hK.out _ _ ⟨(Zc (HZ7.out _ HQ2.out.m) 0).trans rfl, (Zc (HZ7.out _ HQ2.out.m) 1).trans rfl, (Zc (HZ7.out _ HQ2.out.m) 2).trans rfl, (Zc (HZ7.out _ HQ2.out.m) 3).trans rfl, (Zc (HZ7.out _ HQ2.out.m) 4).trans rfl, (Zc (HZ8.out _ HQ2.out.m) 0).trans rfl, (Zc (HZ8.out _ HQ2.out.m) 1).trans rfl, (Zc (HZ8.out _ HQ2.out.m) 2).trans rfl, (Zc (HZ9.out _ HQ2.out.m) 0).trans rfl, (Zc (HZ9.out _ HQ2.out.m) 1).trans rfl, (Zc (HZ9.out _ HQ2.out.m) 2).trans rfl⟩ (fun hHeld => ?_)
               clear hK K
               refine n' ?_ ?_ ?_; rotate_left; (show Act.put _ (some 97) _ = _; simp only [Act.put, p1', p2', p3', w1', w2']; rfl)
               refine u' 13 98 (B' 15 16383) ?_ rfl rfl ?_ ?_ ?_ ?_; rotate_left; (intro w'; go_simp; with_reducible rfl); rotate_left; (simp only [Act.put, p1', p2', p3', w1', w2']; rfl)
               refine one_ (i := 14) (N := some 99) (B' 15 32767) rfl rfl (by kernel_rfl) (by decide) (fun K hK => ?_)
               refine goes_ Try.func26 (by kernel_rfl) rfl #[.pointer (some ⟨g, 0, none⟩), .int .i64 (wrap64 (base + ctxP t dx dy W H P RW RH RP (m : Int) (k : Int))), .int .i64 (wrap64 (px W H P (m : Int) (k : Int)))] (by rfl) rfl rfl (by simp only [List.map_toArray, List.map_cons, List.map_nil]; rfl) ?_
               with_reducible refine (HQ2.out.rput_eq HLN.out (base + ctxP t dx dy W H P RW RH RP (m : Int) (k : Int)) (px W H P (m : Int) (k : Int)) (by rw [wrap_id] <;> omega) (by rw [wrap_id] <;> omega)).mono ?_
               rintro e X3 ⟨rfl, hP⟩
               refine ⟨_, rfl, ?_⟩
               have HQ3 := Za hP
               clear hP
               refine hK.out _ _ ⟨(Zc (HZ7.out _ HQ3.out.m) 0).trans rfl, (Zc (HZ7.out _ HQ3.out.m) 1).trans rfl, (Zc (HZ7.out _ HQ3.out.m) 2).trans rfl, (Zc (HZ7.out _ HQ3.out.m) 3).trans rfl, (Zc (HZ7.out _ HQ3.out.m) 4).trans rfl, (Zc (HZ8.out _ HQ3.out.m) 0).trans rfl, (Zc (HZ8.out _ HQ3.out.m) 1).trans rfl, (Zc (HZ8.out _ HQ3.out.m) 2).trans rfl, (Zc (HZ9.out _ HQ3.out.m) 0).trans rfl, (Zc (HZ9.out _ HQ3.out.m) 1).trans rfl, (Zc (HZ9.out _ HQ3.out.m) 2).trans rfl⟩ (fun hHeld => ?_)
               clear hK K
               refine n' ?_ ?_ ?_; rotate_left; (show Act.put _ (some 99) _ = _; simp only [Act.put, p1', p2', p3', w1', w2']; rfl)
               refine done_ (by kernel_rfl) ?_
               go_wp2_with (fail)
               refine ⟨⟨m + 1, _, by omega, by go_num, HX2, ⟨?_⟩, HQ3⟩, by simp [intOf]; omega⟩
               have h1 := (ES.putI_len s2 (base + ctxP t dx dy W H P RW RH RP (m : Int) (k : Int)) (px W H P (m : Int) (k : Int))).1
               have h2 := HL2.out
               omega
             · have hX := HX.out
               rw [show W.toNat - m = (W.toNat - (m + 1)) + 1 by omega] at hX
               unfold evX at hX
               rw [if_pos ⟨rfl, HF.out⟩] at hX
               have hL := HL.out
               rw [show W.toNat - m = (W.toNat - (m + 1)) + 1 by omega] at hL
               unfold evX at hL
               rw [if_pos ⟨rfl, HF.out⟩] at hL
               have HX2 := Za hX
               have HL2 := Za hL
               clear hX hL
               go_wp2_with (fail)
               exact ⟨⟨m + 1, _, by omega, by go_num, HX2, HL2, HQ⟩, by simp [intOf]; omega⟩
           · have hX := HX.out
             rw [show W.toNat - m = 0 by omega] at hX
             simp only [evX, List.nil_append] at hX
             have hL := HL.out
             rw [show W.toNat - m = 0 by omega] at hL
             simp only [evX, List.length_nil, Nat.zero_add] at hL
             have HX2 := Za hX
             have HL2 := Za hL
             clear hX hL
             go_wp2_with (fail)
             exact ⟨⟨k + 1, _, by omega, by go_num, HX2, HL2, HQ⟩, by simp [intOf]; omega⟩
    · have hY := HY.out
      rw [show H.toNat - k = 0 by omega] at hY
      simp only [evY] at hY
      have hY2 : s1 = R1 := hY
      subst hY2
      clear hY
      go_wp2_with (fail)
      go_ret
      exact ⟨rfl, HP.out.rebase (Mods.of_below (below_then HB1.out HB1.out.size HD8.out) S) (fun k hk => .inl hk)⟩
 · have hbad : ER ≠ 0 := hE0
   have e1 : (ER != 0) = true := bne_iff_ne.mpr hbad
   have hR := HR.out
   rw [if_neg hbad] at hR
   subst hR
   clear hbad
   go_wp2_with (fail)
   go_ret
   exact ⟨rfl, (PW.start (At := RefAt) HE.out HS.out HOK.out).below (below_then HB1.out HB1.out.size HD3.out)⟩
end Go.Proofs.Ytkfejicdjpffcaa.Rrp
namespace Go.Proofs.Ytkfejicdjpffcaa.Ren
open Go Go.RowKit YtkfejicdjpffcaaW PrintWords PrintLast PrintMore U Aid HandAid Cod1 Cod2 Cod3 Ytkfejicdjpffcaa.Mod NewRef Enc Mods EncAt Put End Snc RefAt RefPut RefEnd Pse Pwk Rpx Rva Rfl Rcx Rty Rev Rpt Rrp
/-- What Encode answers. -/
def encB (q : RQ) (kd : Int) (P : List Int) : List Int × Int := if okO q.t q.dx q.dy kd = true then (if okB q.W q.H P = true ∧ okB q.RW q.RH q.RP = true then ((putsI (newES kd (List.replicate (ctxs q.t + 1).toNat 0)) (evR q P)).end_, 0) else ([], 30)) else ([], 2)
/-- Bytes and an error are returned, the bytes in a row of their own. -/
def EBytes (w : World) (R : List Int × Int) (e : Ending) (W : World) : Prop := ∃ A c, e = .returned (.tuple #[.slice A R.1.length c, .int .i64 R.2]) ∧ Kd.R (Kd.int .u8) 5 W w.heap.size (fun _ => True) (.slice A R.1.length c) R.1 ∧ Below w.heap.size w W
theorem EBytes.bad (w W : World) (err : Int) (hb : Below w.heap.size w W) : EBytes w ([], err) (.returned (.tuple #[.slice none 0 0, .int .i64 err])) W := ⟨none, 0, rfl, Kd.R_nil _ _ W w.heap.size (fun _ => True), hb⟩
theorem stN_ok (t kd : Int) (hk : kd = 0 ∨ kd = 1) : okModel kd (List.replicate (ctxs t + 1).toNat 0) := by
 have hr := ctxs_range t
 have h := new_ok kd (ctxs t + 1) (by unfold newModel; rw [if_pos ⟨hk, by omega, by omega⟩])
 unfold newModel at h
 rw [if_pos ⟨hk, by omega, by omega⟩] at h
 exact h
theorem stN_fits (t : Int) : okF (List.replicate (ctxs t + 1).toNat (0 : Int)).length 0 t = true := by
 have hr := ctxs_range t
 rw [okF_iff, List.length_replicate]
 omega
set_option maxHeartbeats 2000000 in
set_option maxRecDepth 100000 in
theorem rencode_calls (w : World) (t dx dy : Int) (ty : Bool) (kd W H : Int) (AB : Option Addr) (cB : Nat) (P : List Int) (RW RH : Int) (AR : Option Addr) (cR : Nat) (RP : List Int) (hdx : -9223372036854775808 ≤ dx ∧ dx ≤ 9223372036854775807) (hdy : -9223372036854775808 ≤ dy ∧ dy ≤ 9223372036854775807) (hB : Kd.C (Kd.int .u8) w AB P.length P) (hcB : P.length ≤ cB) (hA : Kd.C (Kd.int .u8) w AR RP.length RP) (hcR : RP.length ≤ cR) (hbP : Bytes P) (hbR : Bytes RP) (R : List Int × Int) (hR : encB ⟨t, dx, dy, ty, W, H, RW, RH, RP, 0⟩ kd P = R) :
 Calls Try.prog 16 #[.agg #[.int .i64 t, .int .i64 dx, .int .i64 dy, .bool ty, .int .i64 kd], .agg #[.int .i64 W, .int .i64 H, .slice AB P.length cB], .agg #[.int .i64 RW, .int .i64 RH, .slice AR RP.length cR]] w (EBytes w R) := by
 have HB := Za hB
 have HA := Za hA
 have HbP := Za hbP
 have HbR := Za hbR
 have hmP : P.length ≤ 9223372036854775807 := Kd.C_max hB
 have hmR : RP.length ≤ 9223372036854775807 := Kd.C_max hA
 obtain ⟨q, hq⟩ : ∃ q : RQ, q = ⟨t, dx, dy, ty, W, H, RW, RH, RP, 0⟩ := ⟨_, rfl⟩
 rw [← hq] at hR
 have HQQ := Za hq
 unfold encB at hR
 have e1 : okO q.t q.dx q.dy kd = okO t dx dy kd := by rw [hq]
 have e2 : okB q.W q.H P = okB W H P := by rw [hq]
 have e3 : okB q.RW q.RH q.RP = okB RW RH RP := by rw [hq]
 have e4 : ctxs q.t = ctxs t := by rw [hq]
 rw [e1, e2, e3, e4] at hR
 have HR := Za hR
 have hu3 := Try.underlying23
 have hu4 := Try.underlying31
 have hu5 := Try.underlying45
 clear hB hA hbP hbR hR hq e1 e2 e3 e4
 go_enter Try.func16, Try.ntmps16
 go_wp2_with (fail)
 obtain ⟨b5, hb5⟩ : ∃ x, w.heap.size + 1 + 1 = x := ⟨_, rfl⟩
 obtain ⟨b4, hb4⟩ : ∃ x, w.heap.size + 1 = x := ⟨_, rfl⟩
 obtain ⟨b3, hb3⟩ : ∃ x, w.heap.size = x := ⟨_, rfl⟩
 obtain ⟨W1, hW1⟩ : ∃ x, ((w.alloc (.cells #[.int .i64 t, .int .i64 dx, .int .i64 dy, .bool ty, .int .i64 kd] 23)).alloc (.cells #[.int .i64 W, .int .i64 H, .slice AB P.length cB] 31)).alloc (.cells #[.int .i64 RW, .int .i64 RH, .slice AR RP.length cR] 31) = x := ⟨_, rfl⟩
 have HB1 := Za (show Below w.heap.size w W1 from hW1 ▸ b1' (b1' (b1' (Below.refl _ _) _) _) _)
 have HZ5 := Za (show W1.heap[b5]? = some (.cells #[.int .i64 RW, .int .i64 RH, .slice AR RP.length cR] 31 (0, 0)) by
  have h := heap_new ((w.alloc (.cells #[.int .i64 t, .int .i64 dx, .int .i64 dy, .bool ty, .int .i64 kd] 23)).alloc (.cells #[.int .i64 W, .int .i64 H, .slice AB P.length cB] 31)) (.cells #[.int .i64 RW, .int .i64 RH, .slice AR RP.length cR] 31)
  rw [World.size_alloc, World.size_alloc, hb5, hW1] at h
  exact h)
 have HZ4 := Za (show W1.heap[b4]? = some (.cells #[.int .i64 W, .int .i64 H, .slice AB P.length cB] 31 (0, 0)) by
  have h := heap_new (w.alloc (.cells #[.int .i64 t, .int .i64 dx, .int .i64 dy, .bool ty, .int .i64 kd] 23)) (.cells #[.int .i64 W, .int .i64 H, .slice AB P.length cB] 31)
  rw [World.size_alloc, hb4] at h
  rw [← hW1]
  exact k3' h _)
 have HZ3 := Za (show W1.heap[b3]? = some (.cells #[.int .i64 t, .int .i64 dx, .int .i64 dy, .bool ty, .int .i64 kd] 23 (0, 0)) by
  have h := heap_new w (.cells #[.int .i64 t, .int .i64 dx, .int .i64 dy, .bool ty, .int .i64 kd] 23)
  rw [hb3] at h
  rw [← hW1]
  exact k3' (k3' h _) _)
 have HLT := Za (show b3 < W1.heap.size ∧ b4 < W1.heap.size ∧ b5 < W1.heap.size from ⟨blk_lt HZ3.out, blk_lt HZ4.out, blk_lt HZ5.out⟩)
 rw [hb5, hb4, hb3, hW1]
 have HD1 := Za (Below.refl W1.heap.size W1)
 clear hb3 hb4 hb5 hW1
 refine (refine_Valid.calls t dx dy ty kd _ _ (valid_eq t dx dy ty kd hdx hdy)).mono ?_
 rintro e W3 ⟨rfl, hb⟩
 have HD3 := Za hb
 clear hb
 have hR := HR.out
 clear HR
 obtain ⟨vo, hvo⟩ : ∃ x, okO t dx dy kd = x := ⟨_, rfl⟩
 rw [hvo] at hR ⊢
 cases vo
 · rw [if_neg (show ¬ (false = true) by decide)] at hR
   subst hR
   clear hvo
   go_wp2_with (fail)
   go_ret2
   exact EBytes.bad _ _ _ (below_then HB1.out HB1.out.size HD3.out)
 rw [if_pos (show true = true from rfl)] at hR
 have hk := (okO_iff.1 hvo).2.1
 have HMO := Za (model_eq t dx dy ty kd hvo)
 have HVO := Za hvo
 have HK := Za (stN_ok t kd hk)
 have HFT := Za (stN_fits t)
 clear hvo hk
 generalize List.replicate (ctxs t + 1).toNat (0 : Int) = st at hR HMO HK HFT
 have HR := Za hR
 clear hR
 have q30 : W3.cell? ⟨b3, 0, none⟩ = some (.int .i64 t) := (Zc (Zd HZ3.out HD3.out) 0).trans rfl
 have q31 : W3.cell? ⟨b3, 1, none⟩ = some (.int .i64 dx) := (Zc (Zd HZ3.out HD3.out) 1).trans rfl
 have q32 : W3.cell? ⟨b3, 2, none⟩ = some (.int .i64 dy) := (Zc (Zd HZ3.out HD3.out) 2).trans rfl
 have q33 : W3.cell? ⟨b3, 3, none⟩ = some (.bool ty) := (Zc (Zd HZ3.out HD3.out) 3).trans rfl
 have q34 : W3.cell? ⟨b3, 4, none⟩ = some (.int .i64 kd) := (Zc (Zd HZ3.out HD3.out) 4).trans rfl
 go_wp2_with (fail)
 refine (refine_model.calls t dx dy ty kd kd st _ HMO.out).mono ?_
 rintro e W4 ⟨v, rfl, hRv, hb⟩
 obtain ⟨Am, cm, rfl⟩ := Kd.R_slice hRv
 have HD4 := Za (below_then HD3.out HD3.out.size hb)
 have hcm := (Kd.R_reads' hRv).2.1
 have HCM := Za (Kd.R_reads' hRv).2.2
 clear hRv hb q30 q31 q32 q33 q34
 go_wp2_with (fail)
 refine (new_enc Am cm kd st _ HCM.out hcm HK.out).mono ?_
 rintro e W5 ⟨g, rfl, hE, hb⟩
 have HD5 := Za (below_then HD4.out HD4.out.size hb)
 have HE := Za hE
 have HSI := Za (show ∀ k, Since W4.heap.size W5 k → w.heap.size ≤ k from fun k hk => Nat.le_trans (Nat.le_trans HB1.out.size HD4.out.size) hk.1)
 have HSL := Za (show ∀ k, Since W4.heap.size W5 k → k < W5.heap.size from fun k hk => hk.2)
 have HBV := Za (show ∀ V, Mods W5 V (Since W4.heap.size W5) → Below w.heap.size w V from fun V hV => below_mods (below_then HB1.out HB1.out.size HD5.out) hV HSI.out (Nat.le_trans HB1.out.size HD5.out.size))
 generalize Since W4.heap.size W5 = S at HE HSI HSL HBV
 clear hE hb HCM hcm
 have q30 : W5.cell? ⟨b3, 0, none⟩ = some (.int .i64 t) := (Zc (Zd HZ3.out HD5.out) 0).trans rfl
 have q31 : W5.cell? ⟨b3, 1, none⟩ = some (.int .i64 dx) := (Zc (Zd HZ3.out HD5.out) 1).trans rfl
 have q32 : W5.cell? ⟨b3, 2, none⟩ = some (.int .i64 dy) := (Zc (Zd HZ3.out HD5.out) 2).trans rfl
 have q33 : W5.cell? ⟨b3, 3, none⟩ = some (.bool ty) := (Zc (Zd HZ3.out HD5.out) 3).trans rfl
 have q34 : W5.cell? ⟨b3, 4, none⟩ = some (.int .i64 kd) := (Zc (Zd HZ3.out HD5.out) 4).trans rfl
 have q40 : W5.cell? ⟨b4, 0, none⟩ = some (.int .i64 W) := (Zc (Zd HZ4.out HD5.out) 0).trans rfl
 have q41 : W5.cell? ⟨b4, 1, none⟩ = some (.int .i64 H) := (Zc (Zd HZ4.out HD5.out) 1).trans rfl
 have q42 : W5.cell? ⟨b4, 2, none⟩ = some (.slice AB P.length cB) := (Zc (Zd HZ4.out HD5.out) 2).trans rfl
 have q50 : W5.cell? ⟨b5, 0, none⟩ = some (.int .i64 RW) := (Zc (Zd HZ5.out HD5.out) 0).trans rfl
 have q51 : W5.cell? ⟨b5, 1, none⟩ = some (.int .i64 RH) := (Zc (Zd HZ5.out HD5.out) 1).trans rfl
 have q52 : W5.cell? ⟨b5, 2, none⟩ = some (.slice AR RP.length cR) := (Zc (Zd HZ5.out HD5.out) 2).trans rfl
 go_wp2_with (fail)
 refine (rput_calls W5 S g (newES kd st) 0 t dx dy ty kd W H AB cB P RW RH AR cR RP HE.out HSL.out (newES_ok HK.out) (by show (0 : Nat) ≤ _; omega) hdx hdy (fun V hV => Kd.C_below HB.out (HBV.out V hV)) hcB (fun V hV => Kd.C_below HA.out (HBV.out V hV)) hcR HbP.out HbR.out q HQQ.out _ rfl).mono ?_
 rintro e W6 ⟨rfl, hP⟩
 have HP := Za hP
 clear hP HE q30 q31 q32 q33 q34 q40 q41 q42 q50 q51 q52
 have hpe : putErr q kd P (newES kd st).st.length = if okB W H P = true ∧ okB RW RH RP = true then 0 else 30 := by
  unfold putErr
  rw [HQQ.out]
  simp only
  rw [if_pos HVO.out, if_pos (show okF (newES kd st).st.length 0 t = true from HFT.out)]
 have hR := HR.out
 clear HR
 by_cases hbb : okB W H P = true ∧ okB RW RH RP = true
 · rw [if_pos hbb] at hR hpe
   have hpr : putR q kd P (newES kd st) = (putsI (newES kd st) (evR q P), 0) := by unfold putR; rw [hpe, if_pos rfl]
   rw [hpr] at HP ⊢
   have hbm := (okB_bm HbP.out hbb.1).1
   have hlo : (putsI (newES kd st) (evR q P)).out.length ≤ 1099511627880 := by
    have h1 := putsI_out (evR q P) (newES kd st)
    have h2 := evR_len q P (by rw [HQQ.out]; exact hbm.w.2) (by rw [HQQ.out]; exact hbm.h.2)
    have h3 : (newES kd st).out.length = 0 := rfl
    omega
   generalize putsI (newES kd st) (evR q P) = s6 at hR HP hlo ⊢
   subst hR
   clear hpr hpe hbb hbm
   simp only
   go_wp2_with (fail)
   refine (end_calls W6 _ g s6 HP.out.e HP.out.ok hlo).mono ?_
   rintro e W7 ⟨A7, c7, rfl, hR7, hb7⟩
   have HB6 := Za (HBV.out _ HP.out.m)
   have HR7 := Za (Kd.R_lower hR7 HB6.out.size)
   have HB7 := Za (below_then HB6.out HB6.out.size hb7)
   clear hR7 hb7
   go_wp2_with (fail)
   go_ret2
   exact ⟨A7, c7, rfl, HR7.out, HB7.out⟩
 · rw [if_neg hbb] at hR hpe
   have hpr : putR q kd P (newES kd st) = (newES kd st, 30) := by unfold putR; rw [hpe, if_neg (by decide)]
   rw [hpr] at HP ⊢
   subst hR
   clear hpr hpe hbb
   simp only
   go_wp2_with (fail)
   go_ret2
   exact EBytes.bad _ _ _ (HBV.out _ HP.out.m)
end Go.Proofs.Ytkfejicdjpffcaa.Ren
namespace Go.Proofs.Ytkfejicdjpffcaa.Rdv
open Go Go.RowKit YtkfejicdjpffcaaW PrintWords PrintLast PrintMore U Aid HandAid Cod1 Cod2 Cod3 Ytkfejicdjpffcaa.Mod NewRef Enc Mods EncAt Put End Snc Dec Get DecNew RefAt RDec RDecNew Isk Pse Rpx Rva Rfl Rcx Rty Rev
/-- A row's pixels are told, from pixel i on: the decoder, the pixels, the error. -/
def rowD (q : RQ) (y : Int) (typ : Int) : Nat → Nat → DS → List Int → DS × List Int × Int
 | 0, _, s, P => (s, P, 0)
 | d + 1, i, s, P =>
   if typ = 1 ∧ (q.flat i y).2 = true then rowD q y typ d (i + 1) s (P.set (y * q.W + i).toNat (q.flat i y).1)
   else if (s.getI (q.base + q.ctx P i y)).2.2 = 0 then rowD q y typ d (i + 1) (s.getI (q.base + q.ctx P i y)).1 (P.set (y * q.W + i).toNat (s.getI (q.base + q.ctx P i y)).2.1)
   else ((s.getI (q.base + q.ctx P i y)).1, P, (s.getI (q.base + q.ctx P i y)).2.2)
/-- A row, with what stands ahead of it. -/
def rowH (q : RQ) (y : Int) (s : DS) (P : List Int) : DS × List Int × Int :=
 if q.ty = true then (if (s.getI (q.base + ctxs q.t)).2.2 = 0 then rowD q y (s.getI (q.base + ctxs q.t)).2.1 q.W.toNat 0 (s.getI (q.base + ctxs q.t)).1 P else ((s.getI (q.base + ctxs q.t)).1, P, (s.getI (q.base + ctxs q.t)).2.2))
 else rowD q y 0 q.W.toNat 0 s P
/-- The rows from j on. -/
def rowsD (q : RQ) : Nat → Nat → DS → List Int → DS × List Int × Int
 | 0, _, s, P => (s, P, 0)
 | d + 1, j, s, P => if (rowH q j s P).2.2 = 0 then rowsD q d (j + 1) (rowH q j s P).1 (rowH q j s P).2.1 else rowH q j s P
def getErr (q : RQ) (kd : Int) (n : Nat) : Int := if okO q.t q.dx q.dy kd = true then (if okS q.W q.H = true ∧ okB q.RW q.RH q.RP = true then (if okF n q.base q.t = true then 0 else 2) else 30) else 2
/-- What Get answers: the decoder, sides and pixels, the error. -/
def getD (q : RQ) (kd : Int) (s : DS) : DS × (Int × Int × List Int) × Int :=
 if getErr q kd s.st.length = 0 then
  (if (rowsD q q.H.toNat 0 s (List.replicate (q.W * q.H).toNat 0)).2.2 = 0 then ((rowsD q q.H.toNat 0 s (List.replicate (q.W * q.H).toNat 0)).1, (q.W, q.H, (rowsD q q.H.toNat 0 s (List.replicate (q.W * q.H).toNat 0)).2.1), 0)
   else ((rowsD q q.H.toNat 0 s (List.replicate (q.W * q.H).toNat 0)).1, (0, 0, []), (rowsD q q.H.toNat 0 s (List.replicate (q.W * q.H).toNat 0)).2.2))
 else (s, (0, 0, []), getErr q kd s.st.length)
theorem getErr_zero {q : RQ} {kd : Int} {n : Nat} (h : getErr q kd n = 0) : okO q.t q.dx q.dy kd = true ∧ okS q.W q.H = true ∧ okB q.RW q.RH q.RP = true ∧ okF n q.base q.t = true := by
 unfold getErr at h
 split at h
 · split at h
   · split at h
     · rename_i a b c
       exact ⟨a, b.1, b.2, c⟩
     · exact absurd h (by decide)
   · exact absurd h (by decide)
 · exact absurd h (by decide)
theorem bm_set {W H : Int} {P : List Int} (b : Bm W H P) (i : Nat) {x : Int} (hx : x = 0 ∨ x = 1) : Bm W H (P.set i x) :=
 ⟨b.w, b.h, by rw [List.length_set]; exact b.n, fun v hv => by
   rcases List.mem_or_eq_of_mem_set hv with h | h
   · exact b.p v h
   · rw [h]; exact hx⟩
theorem bm_new {W H : Int} (h : okS W H = true) : Bm W H (List.replicate (W * H).toNat 0) := by
 have hs := okS_iff.1 h
 have ha := area hs.1 hs.2.1 hs.2.2.1 hs.2.2.2.1
 exact ⟨⟨hs.1, hs.2.1⟩, ⟨hs.2.2.1, hs.2.2.2.1⟩, by rw [List.length_replicate]; omega, fun v hv => .inl (List.eq_of_mem_replicate hv)⟩
/-- A decoder and the row of pixels that is being written. -/
structure GX (At : World → (Nat → Prop) → Nat → DS → Prop) (w0 : World) (S T : Nat → Prop) (B : Nat) (gd : Nat) (s : DS) (v : Value) (P : List Int) (W : World) : Prop where
 d : At W S gd s
 p : Kd.R (Kd.int .u8) 5 W B T v P
 m : Mods w0 W (fun k => S k ∨ T k)
 ok : s.ok
section
variable {At : World → (Nat → Prop) → Nat → DS → Prop} [AtL At] {w0 W W' : World} {S T : Nat → Prop} {B gd : Nat} {s s' : DS} {v : Value} {P : List Int}
theorem GX.below (H : GX At w0 S T B gd s v P W) (hb : Below W.heap.size W W') : GX At w0 S T B gd s v P W' := ⟨AtL.below H.d hb, Kd.R_below H.p hb, H.m.below hb, H.ok⟩
omit [AtL At] in
theorem GX.next (H : GX At w0 S T B gd s v P W) (hST : ∀ k, T k → ¬ S k) (hE : At W' S gd s') (hM : Mods W W' S) (ok' : s'.ok) : GX At w0 S T B gd s' v P W' :=
 ⟨hE, Kd.R_kept H.p hM.kept hST, H.m.then_ hM (fun k hk => .inl (.inl hk)), ok'⟩
omit [AtL At] in
theorem GX.form (H : GX At w0 S T B gd s v P W) (hp : 0 < P.length) : ∃ g c, v = .slice (some ⟨g, 0, none⟩) P.length c ∧ T g ∧ g < W.heap.size := by
 obtain ⟨g, c, he, _, hl, _⟩ := Kd.R_form H.p hp
 exact ⟨g, c, he, H.p.1 g (by rw [he]; simp [Value.ownBlock]), hl⟩
end
theorem GX.get {w0 W : World} {S T : Nat → Prop} {B gd : Nat} {s : DS} {v : Value} {P : List Int} (H : GX DecAt w0 S T B gd s v P W) (hS : ∀ k, S k → k < w0.heap.size) (hST : ∀ k, T k → ¬ S k) (i : Int) {i' : Int} (hi : i' = i) :
 Calls Try.prog 35 #[.pointer (some ⟨gd, 0, none⟩), .int .i64 i'] W fun e W' => e = .returned (.tuple #[.int .i64 (s.getI i).2.1, .int .i64 (s.getI i).2.2]) ∧ GX DecAt w0 S T B gd (s.getI i).1 v P W' := by
 subst hi
 refine (get_calls W S gd s _ H.d (fun k hk => Nat.lt_of_lt_of_le (hS k hk) H.m.size) H.ok).mono ?_
 rintro e W' ⟨he, hE, hM⟩
 exact ⟨he, H.next hST hE hM (DS.getI_ok H.ok _)⟩
theorem GX.rget {w0 W : World} {S T : Nat → Prop} {B gd : Nat} {s : DS} {v : Value} {P : List Int} (H : GX RDecAt w0 S T B gd s v P W) (hS : ∀ k, S k → k < w0.heap.size) (hST : ∀ k, T k → ¬ S k) (i : Int) {i' : Int} (hi : i' = i) :
 Calls Try.prog 84 #[.pointer (some ⟨gd, 0, none⟩), .int .i64 i'] W fun e W' => e = .returned (.tuple #[.int .i64 (s.getI i).2.1, .int .i64 (s.getI i).2.2]) ∧ GX RDecAt w0 S T B gd (s.getI i).1 v P W' := by
 subst hi
 refine (rget_calls W S gd s _ H.d (fun k hk => Nat.lt_of_lt_of_le (hS k hk) H.m.size) H.ok).mono ?_
 rintro e W' ⟨he, hE, hM⟩
 exact ⟨he, H.next hST hE hM (DS.getI_ok H.ok _)⟩
/-- A pixel is written. -/
theorem GX.set {At : World → (Nat → Prop) → Nat → DS → Prop} [AtL At] {w0 W : World} {S T : Nat → Prop} {B gd g c n : Nat} {s : DS} {P : List Int} (H : GX At w0 S T B gd s (.slice (some ⟨g, 0, none⟩) n c) P W) (hn : n = P.length) (hST : ∀ k, T k → ¬ S k) (hT : T g) (i : Nat) (x : Int) : GX At w0 S T B gd s (.slice (some ⟨g, 0, none⟩) n c) (P.set i x) (W.setCell ⟨g, i, none⟩ (.int .u8 x)) := by
 subst hn
 have h2 : Mods W (W.setCell ⟨g, i, none⟩ (.int .u8 x)) (fun k => k = g) := (Mods.refl W (fun k => k = g)).setCell (p := ⟨g, i, none⟩) (.inl rfl) _
 have h3 := (Kd.R_put (enc := Value.int .u8) H.p (i : Int) x).1
 rw [Int.toNat_natCast] at h3
 exact ⟨AtL.kept H.d h2 (fun k hk hk2 => hST g hT (hk2 ▸ hk)), h3, H.m.then_ h2 (fun k hk => .inl (.inr (hk ▸ hT))), H.ok⟩
theorem GX.cell {At : World → (Nat → Prop) → Nat → DS → Prop} {w0 W : World} {S T : Nat → Prop} {B gd g c n : Nat} {s : DS} {P : List Int} (H : GX At w0 S T B gd s (.slice (some ⟨g, 0, none⟩) n c) P W) (hn : n = P.length) (i : Nat) (hi : i < P.length) : W.cell? ⟨g, i, none⟩ = some (.int .u8 (rdOf 0 P (i : Int))) ∧ W.frozen? ⟨g, i, none⟩ = false := by
 subst hn
 have h1 := Kd.R_cell (0 : Int) H.p (i : Int) (by omega) (by omega)
 rw [Int.toNat_natCast] at h1
 exact h1
theorem rowD_len (q : RQ) (y typ : Int) : ∀ (d i : Nat) (s : DS) (P : List Int), (rowD q y typ d i s P).2.1.length = P.length ∧ (rowD q y typ d i s P).1.st.length = s.st.length
 | 0, i, s, P => ⟨rfl, rfl⟩
 | d + 1, i, s, P => by
   unfold rowD
   split
   · have h := rowD_len q y typ d (i + 1) s (P.set (y * q.W + i).toNat (q.flat i y).1)
     rw [List.length_set] at h
     exact h
   · split
     · have h := rowD_len q y typ d (i + 1) (s.getI (q.base + q.ctx P i y)).1 (P.set (y * q.W + i).toNat (s.getI (q.base + q.ctx P i y)).2.1)
       rw [List.length_set, getI_len] at h
       exact h
     · exact ⟨rfl, getI_len _ _⟩
theorem flatF_01 {W H : Int} {P : List Int} (b : Bm W H P) (x y c : Int) (hc : c = 0 ∨ c = 1) : ∀ d i, (flatF W H P x y c d i).1 = 0 ∨ (flatF W H P x y c d i).1 = 1
 | 0, i => hc
 | d + 1, i => by
   unfold flatF
   split
   · exact flatF_01 b x y c hc d (i + 1)
   · exact .inl rfl
theorem flatP_01 {W H : Int} {P : List Int} (b : Bm W H P) (x y : Int) : (flatP W H P x y).1 = 0 ∨ (flatP W H P x y).1 = 1 := flatF_01 b x y _ (px_01 b x y) 9 0
theorem rowD_bm (q : RQ) (br : Bm q.RW q.RH q.RP) (y typ : Int) : ∀ (d i : Nat) (s : DS) (P : List Int), Bm q.W q.H P → Bm q.W q.H (rowD q y typ d i s P).2.1
 | 0, i, s, P, b => b
 | d + 1, i, s, P, b => by
   unfold rowD
   split
   · exact rowD_bm q br y typ d (i + 1) s _ (bm_set b _ (flatP_01 br _ _))
   · split
     · have := bit_range s (q.base + q.ctx P i y)
       exact rowD_bm q br y typ d (i + 1) _ _ (bm_set b _ (by omega))
     · exact b
theorem rowH_bm (q : RQ) (br : Bm q.RW q.RH q.RP) (y : Int) (s : DS) (P : List Int) (b : Bm q.W q.H P) : Bm q.W q.H (rowH q y s P).2.1 := by
 unfold rowH
 split
 · split
   · exact rowD_bm q br y _ _ _ _ _ b
   · exact b
 · exact rowD_bm q br y _ _ _ _ _ b
theorem rowH_len (q : RQ) (y : Int) (s : DS) (P : List Int) : (rowH q y s P).2.1.length = P.length ∧ (rowH q y s P).1.st.length = s.st.length := by
 unfold rowH
 split
 · split
   · have h := rowD_len q y (s.getI (q.base + ctxs q.t)).2.1 q.W.toNat 0 (s.getI (q.base + ctxs q.t)).1 P
     rw [getI_len] at h
     exact h
   · exact ⟨rfl, getI_len _ _⟩
 · exact rowD_len q y 0 q.W.toNat 0 s P
end Go.Proofs.Ytkfejicdjpffcaa.Rdv
