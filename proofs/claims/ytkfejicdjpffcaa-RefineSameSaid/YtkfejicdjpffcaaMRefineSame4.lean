import Derived.Test.YtkfejicdjpffcaaMRefineSame1
import Derived.Test.YtkfejicdjpffcaaMRefineSame2
import Derived.Test.YtkfejicdjpffcaaMRefineSame3
import Derived.Laws.ResultCell
set_option linter.unusedVariables false
set_option linter.unusedSimpArgs false
namespace Go.Proofs.Ytkfejicdjpffcaa.Rpt
open Go Go.RowKit Go.Proofs.YtkfejicdjpffcaaW.PrintWords Go.Proofs.YtkfejicdjpffcaaW.PrintLast Go.Proofs.YtkfejicdjpffcaaW.PrintMore Go.Proofs.Ytkfejicdjpffcaa.U Go.Proofs.Ytkfejicdjpffcaa.Aid Go.Proofs.Ytkfejicdjpffcaa.HandAid Go.Proofs.Ytkfejicdjpffcaa.Cod1 Go.Proofs.Ytkfejicdjpffcaa.Cod2 Go.Proofs.Ytkfejicdjpffcaa.Cod3 Go.Proofs.Ytkfejicdjpffcaa.Mod Go.Proofs.Ytkfejicdjpffcaa.NewRef Go.Proofs.Ytkfejicdjpffcaa.Enc Go.Proofs.Ytkfejicdjpffcaa.Mods Go.Proofs.Ytkfejicdjpffcaa.EncAt Go.Proofs.Ytkfejicdjpffcaa.Put Go.Proofs.Ytkfejicdjpffcaa.End Go.Proofs.Ytkfejicdjpffcaa.Snc Go.Proofs.Ytkfejicdjpffcaa.RefAt Go.Proofs.Ytkfejicdjpffcaa.RefPut Go.Proofs.Ytkfejicdjpffcaa.RefEnd Go.Proofs.Ytkfejicdjpffcaa.Pse Go.Proofs.Ytkfejicdjpffcaa.Pwk Go.Proofs.Ytkfejicdjpffcaa.Rpx Go.Proofs.Ytkfejicdjpffcaa.Rva Go.Proofs.Ytkfejicdjpffcaa.Rfl Go.Proofs.Ytkfejicdjpffcaa.Rcx Go.Proofs.Ytkfejicdjpffcaa.Rty Go.Proofs.Ytkfejicdjpffcaa.Rev
theorem _root_.Go.Proofs.Ytkfejicdjpffcaa.Pwk.PW.rebase {At : World → (Nat → Prop) → Nat → ES → Prop} [EnL At] {w W8 V : World} {S S8 : Nat → Prop} {g : Nat} {s : ES} (h : PW At W8 S8 g s V) (hm : Mods w W8 S) (hsub : ∀ k, S8 k → S k ∨ w.heap.size ≤ k) : PW At w S g s V :=
  ⟨EnL.mono h.e (fun k hk => ⟨hk.1.elim (hsub k) (fun h => .inr (Nat.le_trans hm.size h)), hk.2⟩), hm.then_ h.m hsub, h.ok⟩
theorem _root_.Go.Proofs.Ytkfejicdjpffcaa.Pwk.PW.put_eq {w W : World} {S : Nat → Prop} {g : Nat} {s : ES} (H : PW EncAt w S g s W) (hlen : s.out.length ≤ 1099511627776) (i bit : Int) {i' bit' : Int} (hi : i' = i) (hb : bit' = bit) :
    Calls Try.prog 28 #[.pointer (some ⟨g, 0, none⟩), .int .i64 i', .int .i64 bit'] W fun e W' => e = .returned (.int .i64 (s.err i bit)) ∧ PW EncAt w S g (s.putI i bit) W' := by
  subst hi hb
  exact H.put hlen _ _
theorem put_none (s : ES) : s.err (-1) 0 = 2 ∧ s.putI (-1) 0 = s := by
  have h : s.good (-1) 0 = false := by simp [ES.good]
  unfold ES.err ES.putI
  rw [h]
  exact ⟨rfl, rfl⟩
set_option maxHeartbeats 8000000 in
set_option maxRecDepth 100000 in
theorem rput_calls (w : World) (S : Nat → Prop) (g : Nat) (s : ES) (base t dx dy : Int) (ty : Bool) (kd W H : Int) (AB : Option Addr) (cB : Nat) (P : List Int) (RW RH : Int) (AR : Option Addr) (cR : Nat) (RP : List Int) (hE : EncAt w S g s) (hS : ∀ k, S k → k < w.heap.size) (hok : s.ok) (hlen : s.out.length ≤ 1000000000) (hdx : -9223372036854775808 ≤ dx ∧ dx ≤ 9223372036854775807) (hdy : -9223372036854775808 ≤ dy ∧ dy ≤ 9223372036854775807) (hB : ∀ V, Mods w V S → Kd.C (Kd.int .u8) V AB P.length P) (hcB : P.length ≤ cB) (hA : ∀ V, Mods w V S → Kd.C (Kd.int .u8) V AR RP.length RP) (hcR : RP.length ≤ cR) (hbP : Bytes P) (hbR : Bytes RP) (q : RQ) (hq : q = ⟨t, dx, dy, ty, W, H, RW, RH, RP, base⟩) (R : ES × Int) (hR : putR q kd P s = R) :
    Calls Try.prog 25 #[.pointer (some ⟨g, 0, none⟩), .int .i64 base, .agg #[.int .i64 t, .int .i64 dx, .int .i64 dy, .bool ty, .int .i64 kd], .agg #[.int .i64 W, .int .i64 H, .slice AB P.length cB], .agg #[.int .i64 RW, .int .i64 RH, .slice AR RP.length cR]] w fun e V => e = .returned (.int .i64 R.2) ∧ PW EncAt w S g R.1 V := by
  have HB := Aside0.mk hB
  have HA := Aside0.mk hA
  have HS := Aside0.mk hS
  have HbP := Aside0.mk hbP
  have HbR := Aside0.mk hbR
  have HE := Aside0.mk hE
  have HQF := Aside0.mk (show ∀ x y, q.flat x y = flatP RW RH RP (x - dx) (y - dy) from fun x y => by rw [hq]; rfl)
  have HQC := Aside0.mk (show ∀ x y, (⟨q.base + q.ctx P x y, px q.W q.H P x y⟩ : S72) = ⟨base + ctxP t dx dy W H P RW RH RP x y, px W H P x y⟩ from fun x y => by rw [hq]; rfl)
  have HQQ := Aside0.mk hq
  have hst : s.st.length ≤ 8192 := hok.m.2.1
  have hmP : P.length ≤ 9223372036854775807 := Kd.C_max (hB w (Mods.refl w S))
  have hmR : RP.length ≤ 9223372036854775807 := Kd.C_max (hA w (Mods.refl w S))
  have HOK := Aside0.mk hok
  unfold putR at hR
  have hE1 : putErr q kd P s.st.length = if okO t dx dy kd = true then (if okB W H P = true ∧ okB RW RH RP = true then (if okF s.st.length base t = true then 0 else 2) else 30) else 2 := by rw [hq]; rfl
  rw [hE1] at hR
  have HR := Aside0.mk hR
  have hu1 := Try.underlying109
  have hu2 := Try.underlying107
  have hu3 := Try.underlying23
  have hu4 := Try.underlying31
  have hu5 := Try.underlying45
  clear hB hA hS hbP hbR hE hok hR hE1 hq
  go_enter Try.func25, Try.ntmps25
  go_wp2_with (fail)
  obtain ⟨b9, hb9⟩ : ∃ x, w.heap.size + 1 + 1 = x := ⟨_, rfl⟩
  obtain ⟨b8, hb8⟩ : ∃ x, w.heap.size + 1 = x := ⟨_, rfl⟩
  obtain ⟨b7, hb7⟩ : ∃ x, w.heap.size = x := ⟨_, rfl⟩
  obtain ⟨W1, hW1⟩ : ∃ x, ((w.alloc (.cells #[.int .i64 t, .int .i64 dx, .int .i64 dy, .bool ty, .int .i64 kd] 23)).alloc (.cells #[.int .i64 W, .int .i64 H, .slice AB P.length cB] 31)).alloc (.cells #[.int .i64 RW, .int .i64 RH, .slice AR RP.length cR] 31) = x := ⟨_, rfl⟩
  have HB1 := Aside0.mk (show Below w.heap.size w W1 from hW1 ▸ below_alloc (below_alloc (below_alloc (Below.refl _ _) _) _) _)
  have HZ9 := Aside0.mk (show W1.heap[b9]? = some (.cells #[.int .i64 RW, .int .i64 RH, .slice AR RP.length cR] 31 (0, 0)) by
    have h := heap_new ((w.alloc (.cells #[.int .i64 t, .int .i64 dx, .int .i64 dy, .bool ty, .int .i64 kd] 23)).alloc (.cells #[.int .i64 W, .int .i64 H, .slice AB P.length cB] 31)) (.cells #[.int .i64 RW, .int .i64 RH, .slice AR RP.length cR] 31)
    rw [World.size_alloc, World.size_alloc, hb9, hW1] at h
    exact h)
  have HZ8 := Aside0.mk (show W1.heap[b8]? = some (.cells #[.int .i64 W, .int .i64 H, .slice AB P.length cB] 31 (0, 0)) by
    have h := heap_new (w.alloc (.cells #[.int .i64 t, .int .i64 dx, .int .i64 dy, .bool ty, .int .i64 kd] 23)) (.cells #[.int .i64 W, .int .i64 H, .slice AB P.length cB] 31)
    rw [World.size_alloc, hb8] at h
    rw [← hW1]
    exact blk_alloc h _)
  have HZ7 := Aside0.mk (show W1.heap[b7]? = some (.cells #[.int .i64 t, .int .i64 dx, .int .i64 dy, .bool ty, .int .i64 kd] 23 (0, 0)) by
    have h := heap_new w (.cells #[.int .i64 t, .int .i64 dx, .int .i64 dy, .bool ty, .int .i64 kd] 23)
    rw [hb7] at h
    rw [← hW1]
    exact blk_alloc (blk_alloc h _) _)
  have HLT := Aside0.mk (show b7 < W1.heap.size ∧ b8 < W1.heap.size ∧ b9 < W1.heap.size from ⟨blk_lt HZ7.out, blk_lt HZ8.out, blk_lt HZ9.out⟩)
  have HGE := Aside0.mk (show w.heap.size ≤ b7 ∧ w.heap.size ≤ b8 ∧ w.heap.size ≤ b9 by omega)
  rw [hb9, hb8, hb7, hW1]
  clear hb9 hb8 hb7 hW1
  have HP1 := Aside0.mk (PW.start (At := EncAt) (HE.out.below HB1.out) (fun k hk => Nat.lt_of_lt_of_le (HS.out k hk) HB1.out.size) HOK.out)
  have hp1 := HP1.out.put (by omega) (-1) 0
  rw [(put_none s).1, (put_none s).2] at hp1
  refine hp1.mono ?_
  rintro e W2 ⟨rfl, hP⟩
  have HM2 := Aside0.mk ((Mods.of_below HB1.out S).then_ hP.m (fun k hk => .inl hk))
  have HP2 := Aside0.mk hP
  have HZ7 := Aside0.mk (blk_mods HZ7.out hP.m (fun hk => by have := HS.out _ hk; have := HGE.out; omega))
  have HZ8 := Aside0.mk (blk_mods HZ8.out hP.m (fun hk => by have := HS.out _ hk; have := HGE.out; omega))
  have HZ9 := Aside0.mk (blk_mods HZ9.out hP.m (fun hk => by have := HS.out _ hk; have := HGE.out; omega))
  clear hP hp1
  have q0 : W2.cell? ⟨b7, 0, none⟩ = some (.int .i64 t) := (blk_cell HZ7.out 0).trans rfl
  have q1 : W2.cell? ⟨b7, 1, none⟩ = some (.int .i64 dx) := (blk_cell HZ7.out 1).trans rfl
  have q2 : W2.cell? ⟨b7, 2, none⟩ = some (.int .i64 dy) := (blk_cell HZ7.out 2).trans rfl
  have q3 : W2.cell? ⟨b7, 3, none⟩ = some (.bool ty) := (blk_cell HZ7.out 3).trans rfl
  have q4 : W2.cell? ⟨b7, 4, none⟩ = some (.int .i64 kd) := (blk_cell HZ7.out 4).trans rfl
  go_wp2_with (fail)
  refine (refine_Valid.calls t dx dy ty kd _ _ (valid_eq t dx dy ty kd hdx hdy)).mono ?_
  rintro e W3 ⟨rfl, hb⟩
  have HD3 := Aside0.mk hb
  have HP3 := Aside0.mk (HP2.out.below hb)
  clear hb q0 q1 q2 q3 q4
  have fin : ∀ V, PW EncAt W1 S g s V → PW EncAt w S g s V := fun V hV => hV.rebase (Mods.of_below HB1.out S) (fun k hk => .inl hk)
  have FIN := Aside0.mk fin
  clear fin
  obtain ⟨vo, hvo⟩ : ∃ x, okO t dx dy kd = x := ⟨_, rfl⟩
  have hR := HR.out
  clear HR
  rw [hvo] at hR ⊢
  cases vo
  · rw [if_neg (show ¬ (false = true) by decide), if_neg (show ¬ ((2 : Int) = 0) by decide)] at hR
    subst hR
    clear hvo
    go_wp2_with (fail)
    go_ret
    exact ⟨rfl, FIN.out _ HP3.out⟩
  rw [if_pos (show true = true from rfl)] at hR
  have hoo := okO_iff.1 hvo
  have HOO := Aside0.mk hoo
  have HR := Aside0.mk hR
  have HT := Aside0.mk hoo.1
  clear hvo hR hoo
  have hMk : ∀ V, Below W2.heap.size W2 V → Mods w V S := fun V hV => HM2.out.below hV
  have HMk := Aside0.mk hMk
  clear hMk
  have q0 : W3.cell? ⟨b8, 0, none⟩ = some (.int .i64 W) := (blk_cell (blk_below HZ8.out HD3.out) 0).trans rfl
  have q1 : W3.cell? ⟨b8, 1, none⟩ = some (.int .i64 H) := (blk_cell (blk_below HZ8.out HD3.out) 1).trans rfl
  have q2 : W3.cell? ⟨b8, 2, none⟩ = some (.slice AB P.length cB) := (blk_cell (blk_below HZ8.out HD3.out) 2).trans rfl
  go_wp2_with (fail)
  obtain ⟨K1, hK1⟩ := Ev.rounds (bvalid_ev W H P hmP)
  refine (bitmap_Valid.calls K1 W H AB cB P _ _ (HB.out _ (HMk.out _ HD3.out)) hcB hK1).mono ?_
  rintro e W4 ⟨rfl, hb⟩
  have HD4 := Aside0.mk (below_then HD3.out HD3.out.size hb)
  have HP4 := Aside0.mk (HP3.out.below hb)
  clear hb q0 q1 q2 hK1
  obtain ⟨vb, hvb⟩ : ∃ x, okB W H P = x := ⟨_, rfl⟩
  have hR := HR.out
  clear HR
  rw [hvb] at hR ⊢
  cases vb
  · rw [if_neg (show ¬ (false = true ∧ okB RW RH RP = true) by simp), if_neg (show ¬ ((30 : Int) = 0) by decide)] at hR
    subst hR
    clear hvb
    go_wp2_with (fail)
    go_ret
    exact ⟨rfl, FIN.out _ HP4.out⟩
  have HBM := Aside0.mk (okB_bm HbP.out hvb).1
  clear hvb
  have HR := Aside0.mk hR
  clear hR
  have q0 : W4.cell? ⟨b9, 0, none⟩ = some (.int .i64 RW) := (blk_cell (blk_below HZ9.out HD4.out) 0).trans rfl
  have q1 : W4.cell? ⟨b9, 1, none⟩ = some (.int .i64 RH) := (blk_cell (blk_below HZ9.out HD4.out) 1).trans rfl
  have q2 : W4.cell? ⟨b9, 2, none⟩ = some (.slice AR RP.length cR) := (blk_cell (blk_below HZ9.out HD4.out) 2).trans rfl
  go_wp2_with (fail)
  obtain ⟨K2, hK2⟩ := Ev.rounds (bvalid_ev RW RH RP hmR)
  refine (bitmap_Valid.calls K2 RW RH AR cR RP _ _ (HA.out _ (HMk.out _ HD4.out)) hcR hK2).mono ?_
  rintro e W5 ⟨rfl, hb⟩
  have HD5 := Aside0.mk (below_drew (below_then HD4.out HD4.out.size hb))
  have HP5 := Aside0.mk (HP4.out.below hb)
  have HD5' := Aside0.mk (below_then HD4.out HD4.out.size hb)
  clear hb q0 q1 q2 hK2
  obtain ⟨vr, hvr⟩ : ∃ x, okB RW RH RP = x := ⟨_, rfl⟩
  have hR := HR.out
  clear HR
  rw [hvr] at hR ⊢
  cases vr
  · rw [if_neg (show ¬ (True ∧ false = true) by simp), if_neg (show ¬ ((30 : Int) = 0) by decide)] at hR
    subst hR
    clear hvr
    go_wp2_with (fail)
    go_ret
    exact ⟨rfl, FIN.out _ HP5.out⟩
  have HBR := Aside0.mk (okB_bm HbR.out hvr).1
  clear hvr
  rw [if_pos (show True ∧ true = true from ⟨trivial, rfl⟩)] at hR
  obtain ⟨FT, hFT⟩ : ∃ x, okF s.st.length base t = x := ⟨_, rfl⟩
  rw [hFT] at hR
  have HR := Aside0.mk hR
  have HFF := Aside0.mk hFT
  clear hR hFT
  go_wp2_with (fail)
  refine start_ (n := 7) (S := fun w' => w'.cell? ⟨b7, 0, none⟩ = some (.int .i64 t) ∧ w'.cell? ⟨b7, 1, none⟩ = some (.int .i64 dx) ∧ w'.cell? ⟨b7, 2, none⟩ = some (.int .i64 dy) ∧ w'.cell? ⟨b7, 3, none⟩ = some (.bool ty) ∧ w'.cell? ⟨b7, 4, none⟩ = some (.int .i64 kd)) (ds := []) #[N',N',N',N',N',N',N'] (by kernel_rfl) rfl rfl ⟨(blk_cell (blk_below HZ7.out HD5.out) 0).trans rfl, (blk_cell (blk_below HZ7.out HD5.out) 1).trans rfl, (blk_cell (blk_below HZ7.out HD5.out) 2).trans rfl, (blk_cell (blk_below HZ7.out HD5.out) 3).trans rfl, (blk_cell (blk_below HZ7.out HD5.out) 4).trans rfl⟩ (fun hHeld => ?_)
  refine pure_ (i := 0) (N := some 36) (v := ?_) (a' := ?_) #[Y',N',N',N',N',N',N'] rfl rfl (by kernel_rfl) (fun _ _ _ h => h) (Or.inl ⟨by rfl, ?_⟩) ?_ ?_; rotate_left; (intro w'; go_simp; with_reducible rfl); rotate_left; (simp only [Act.put, p1', p2', p3', i64_w, i32_w]; rfl)
  refine pure_ (i := 2) (N := some 38) (v := ?_) (a' := ?_) #[Y',N',Y',N',N',N',N'] rfl rfl (by kernel_rfl) (fun _ _ _ h => h) (Or.inl ⟨by rfl, ?_⟩) ?_ ?_; rotate_left; (intro w'; go_simp; with_reducible rfl); rotate_left; (simp only [Act.put, p1', p2', p3', i64_w, i32_w]; rfl)
  refine take_ (i := 3) (N := some 39) (v := ?_) (a' := ?_) #[Y',N',Y',Y',N',N',N'] rfl rfl (by kernel_rfl) (fun _ _ _ h => h) (Or.inl ⟨by rfl, ?_⟩) hHeld ?_ ?_; rotate_left; (rintro w' ⟨s0, s1, s2, s3, s4⟩; go_simp; with_reducible rfl); rotate_left; (simp only [Act.put, p1', p2', p3', i64_w, i32_w]; rfl)
  refine one_ (i := 1) (N := some 37) #[Y',Y',Y',Y',N',N',N'] rfl rfl (by kernel_rfl) (by decide) (fun K hK => ?_)
  refine goes_ Try.func32 (by kernel_rfl) rfl #[.pointer (some ⟨g, 0, none⟩)] (by rfl) rfl rfl (by simp only [List.map_toArray, List.map_cons, List.map_nil]; rfl) ?_
  with_reducible refine (model_calls _ _ _ _ (HP5.out.below (below_drew (Below.refl _ _))).e (HP5.out.below (below_drew (Below.refl _ _))).ok).mono ?_
  rintro e W6 ⟨A6, c6, rfl, hM6, hb⟩
  refine ⟨_, rfl, ?_⟩
  have HD6 := Aside0.mk (below_then HD5.out HD5.out.size hb)
  have HP6 := Aside0.mk ((HP5.out.below (below_drew (Below.refl _ _))).below hb)
  have hc6 := (Kd.R_reads' hM6).2.1
  have HM6 := Aside0.mk (Kd.R_reads' hM6).2.2
  clear hb hM6
  refine hK.out _ _ ⟨(blk_cell (blk_below HZ7.out HD6.out) 0).trans rfl, (blk_cell (blk_below HZ7.out HD6.out) 1).trans rfl, (blk_cell (blk_below HZ7.out HD6.out) 2).trans rfl, (blk_cell (blk_below HZ7.out HD6.out) 3).trans rfl, (blk_cell (blk_below HZ7.out HD6.out) 4).trans rfl⟩ (fun hHeld => ?_)
  clear hK K
  refine norm_ (a' := ?_) ?_ ?_; rotate_left; (show Act.put _ (some 37) _ = _; simp only [Act.put, p1', p2', p3', i64_w, i32_w]; rfl)
  refine one_ (i := 4) (N := some 40) #[Y',Y',Y',Y',Y',N',N'] rfl rfl (by kernel_rfl) (by decide) (fun K hK => ?_)
  refine goes_ Try.func57 (by kernel_rfl) rfl #[.agg #[.int .i64 s.kind, .slice A6 s.st.length c6], .int .i64 base, .agg #[.int .i64 t, .int .i64 dx, .int .i64 dy, .bool ty, .int .i64 kd]] (by rfl) rfl rfl (by simp only [List.map_toArray, List.map_cons, List.map_nil]; rfl) ?_
  with_reducible refine (Hsm.fits_calls s.kind A6 c6 s.st hst base t dx dy ty kd FT HFF.out _).mono ?_
  rintro e W7 ⟨rfl, hb⟩
  refine ⟨_, rfl, ?_⟩
  have HD7 := Aside0.mk (below_then HD6.out HD6.out.size hb)
  have HP7 := Aside0.mk (HP6.out.below hb)
  clear hb
  refine hK.out _ _ ⟨(blk_cell (blk_below HZ7.out HD7.out) 0).trans rfl, (blk_cell (blk_below HZ7.out HD7.out) 1).trans rfl, (blk_cell (blk_below HZ7.out HD7.out) 2).trans rfl, (blk_cell (blk_below HZ7.out HD7.out) 3).trans rfl, (blk_cell (blk_below HZ7.out HD7.out) 4).trans rfl⟩ (fun hHeld => ?_)
  clear hK K
  refine norm_ (a' := ?_) ?_ ?_; rotate_left; (show Act.put _ (some 40) _ = _; simp only [Act.put, p1', p2', p3', i64_w, i32_w]; rfl)
  refine pure_ (i := 5) (N := some 41) (v := ?_) (a' := ?_) #[Y',Y',Y',Y',Y',Y',N'] rfl rfl (by kernel_rfl) (fun _ _ _ h => h) (Or.inl ⟨by rfl, ?_⟩) ?_ ?_; rotate_left; (intro w'; go_simp; with_reducible rfl); rotate_left; (simp only [Act.put, p1', p2', p3', i64_w, i32_w]; rfl)
  refine pure_ (i := 6) (N := some 35) (v := ?_) (a' := ?_) #[Y',Y',Y',Y',Y',Y',Y'] rfl rfl (by kernel_rfl) (fun _ _ _ h => h) (Or.inl ⟨by rfl, ?_⟩) ?_ ?_; rotate_left; (intro w'; go_simp; with_reducible rfl); rotate_left; (simp only [Act.put, p1', p2', p3', i64_w, i32_w]; rfl)
  refine done_ (by kernel_rfl) ?_
  have hR := HR.out
  clear HR
  cases FT
  · rw [if_neg (show ¬ (false = true) by decide), if_neg (show ¬ ((2 : Int) = 0) by decide)] at hR
    subst hR
    go_wp2_with (fail)
    go_ret
    exact ⟨rfl, FIN.out _ HP7.out⟩
  rw [if_pos (show true = true from rfl), if_pos (show (0 : Int) = 0 from rfl)] at hR
  have hff := okF_iff.1 HFF.out
  have HR := Aside0.mk hR
  clear hR
  have q0 : W7.cell? ⟨b7, 0, none⟩ = some (.int .i64 t) := (blk_cell (blk_below HZ7.out HD7.out) 0).trans rfl
  have q1 : W7.cell? ⟨b7, 1, none⟩ = some (.int .i64 dx) := (blk_cell (blk_below HZ7.out HD7.out) 1).trans rfl
  have q2 : W7.cell? ⟨b7, 2, none⟩ = some (.int .i64 dy) := (blk_cell (blk_below HZ7.out HD7.out) 2).trans rfl
  have q3 : W7.cell? ⟨b7, 3, none⟩ = some (.bool ty) := (blk_cell (blk_below HZ7.out HD7.out) 3).trans rfl
  have q4 : W7.cell? ⟨b7, 4, none⟩ = some (.int .i64 kd) := (blk_cell (blk_below HZ7.out HD7.out) 4).trans rfl
  have q5 : W7.cell? ⟨b8, 0, none⟩ = some (.int .i64 W) := (blk_cell (blk_below HZ8.out HD7.out) 0).trans rfl
  have q6 : W7.cell? ⟨b8, 1, none⟩ = some (.int .i64 H) := (blk_cell (blk_below HZ8.out HD7.out) 1).trans rfl
  have q7 : W7.cell? ⟨b8, 2, none⟩ = some (.slice AB P.length cB) := (blk_cell (blk_below HZ8.out HD7.out) 2).trans rfl
  have q8 : W7.cell? ⟨b9, 0, none⟩ = some (.int .i64 RW) := (blk_cell (blk_below HZ9.out HD7.out) 0).trans rfl
  have q9 : W7.cell? ⟨b9, 1, none⟩ = some (.int .i64 RH) := (blk_cell (blk_below HZ9.out HD7.out) 1).trans rfl
  have q10 : W7.cell? ⟨b9, 2, none⟩ = some (.slice AR RP.length cR) := (blk_cell (blk_below HZ9.out HD7.out) 2).trans rfl
  go_wp2_with (fail)
  refine (newRegion_calls _ t dx dy ty kd W H _ RW RH _ AB P.length cB AR RP.length cR rfl rfl).mono ?_
  rintro e W8 ⟨gr, rfl, hgr, hZg, hb⟩
  have HD8 := Aside0.mk (below_then HD7.out HD7.out.size hb)
  clear q0 q1 q2 q3 q4 q5 q6 q7 q8 q9 q10
  obtain ⟨S8, hS8⟩ : ∃ S8 : Nat → Prop, (fun k => (S k ∨ W1.heap.size ≤ k) ∧ k < W2.heap.size) = S8 := ⟨_, rfl⟩
  have HS8 := Aside0.mk (show ∀ k, S8 k → (S k ∨ W1.heap.size ≤ k) ∧ k < W2.heap.size from hS8 ▸ fun k hk => hk)
  have HP8 := Aside0.mk (PW.start (At := EncAt) (w := W8) (S := S8) (hS8 ▸ HP2.out.e.below HD8.out) (fun k hk => Nat.lt_of_lt_of_le (HS8.out k hk).2 HD8.out.size) HOK.out)
  have HSZ := Aside0.mk (show ∀ b, w.heap.size ≤ b → b < W1.heap.size → ¬ S8 b from fun b h1 h2 hk => by rcases (HS8.out b hk).1 with h | h; (have := HS.out b h; omega); omega)
  have HM8 := Aside0.mk (show ∀ V, Mods W8 V S8 → Mods w V S from fun V hV => (HMk.out _ HD8.out).then_ hV (fun k hk => ((HS8.out k hk).1).imp id (fun h => Nat.le_trans HB1.out.size h)))
  have HRG := Aside0.mk (show ∀ V, Mods W8 V S8 → Reg V gr t dx dy ty kd W H AB cB P RW RH AR cR RP from fun V hV => ⟨blk_mods hZg hV (fun hk => by have := (HS8.out _ hk).2; have := HD7.out.size; omega), HB.out _ (HM8.out _ hV), hcB, HA.out _ (HM8.out _ hV), hcR, HBM.out, HBR.out, HT.out, by have := HOO.out; omega, by have := HOO.out; omega⟩)
  have hlt7 := HGE.out
  have HZ7 := Aside0.mk (show ∀ V, Mods W8 V S8 → V.heap[b7]? = some (.cells #[.int .i64 t, .int .i64 dx, .int .i64 dy, .bool ty, .int .i64 kd] 23 (0, 0)) from fun V hV => blk_mods (blk_below HZ7.out HD8.out) hV (HSZ.out _ hlt7.1 HLT.out.1))
  have HZ8 := Aside0.mk (show ∀ V, Mods W8 V S8 → V.heap[b8]? = some (.cells #[.int .i64 W, .int .i64 H, .slice AB P.length cB] 31 (0, 0)) from fun V hV => blk_mods (blk_below HZ8.out HD8.out) hV (HSZ.out _ hlt7.2.1 HLT.out.2.1))
  clear HP1 HP2 HP3 HP4 HP5 HP6 HP7 HD3 HD4 HD5 HD5' HD6 HD7 HM6 HZ9 hgr hZg hb hS8 HE hlt7
  have hw := HBM.out.w
  have hh := HBM.out.h
  have HQE := Aside0.mk (show evR q P = evY q P H.toNat 0 by rw [HQQ.out]; rfl)
  obtain ⟨R1, hR1⟩ : ∃ x, putsI s (evR q P) = x := ⟨_, rfl⟩
  have hR := HR.out
  rw [hR1] at hR
  subst hR
  rw [HQE.out] at hR1
  have HR1 := Aside0.mk hR1
  have HL1 := Aside0.mk (show s.out.length + 4 * (evY q P H.toNat 0).length ≤ 1000200000 by have := evR_len q P (by rw [HQQ.out]; exact hw.2) (by rw [HQQ.out]; exact hh.2); rw [HQE.out] at this; omega)
  clear hR1 HR
  have p0 : W8.cell? ⟨b8, 1, none⟩ = some (.int .i64 H) := (blk_cell (HZ8.out _ (Mods.refl _ _)) 1).trans rfl
  go_wp2_with (fail)
  clear p0
  go_loopw [53] (fun j wr => ∃ (k : Nat) (s1 : ES), k ≤ H.toNat ∧ j = .int .i64 k ∧ Aside0 (putsI s1 (evY q P (H.toNat - k) k) = R1) ∧ Aside0 (s1.out.length + 4 * (evY q P (H.toNat - k) k).length ≤ 1000200000) ∧ Aside0 (PW EncAt W8 S8 g s1 wr)) (fun j _ => H.toNat - (intOf j).toNat)
  case atStart => exact ⟨0, s, Nat.zero_le _, rfl, HR1, HL1, HP8⟩
  clear HR1 HL1 HP8
  case round =>
    obtain ⟨k, s1, hk, rfl, HY, HL, HP⟩ := hrel
    by_cases hlt : k < H.toNat
    · have hltk : (k : Int) < H := by omega
      have hY := HY.out
      rw [show H.toNat - k = (H.toNat - (k + 1)) + 1 by omega] at hY
      unfold evY evH at hY
      have hL := HL.out
      rw [show H.toNat - k = (H.toNat - (k + 1)) + 1 by omega] at hL
      unfold evY evH at hL
      have hqt : q.ty = ty := by rw [HQQ.out]
      have hqW : q.W = W := by rw [HQQ.out]
      have hqty : q.typ P k = (ty && rowP dx dy W H P RW RH RP k W.toNat 0) := by rw [HQQ.out]; rfl
      have hqb : q.base + ctxs q.t = base + ctxs t := by rw [HQQ.out]
      rw [hqt, hqW, hqb] at hY hL
      clear HY HL hqt hqW hqb
      have z0 : wr.cell? ⟨b7, 0, none⟩ = some (.int .i64 t) := (blk_cell (HZ7.out _ HP.out.m) 0).trans rfl
      have z3 : wr.cell? ⟨b7, 3, none⟩ = some (.bool ty) := (blk_cell (HZ7.out _ HP.out.m) 3).trans rfl
      have z8 : wr.cell? ⟨b8, 0, none⟩ = some (.int .i64 W) := (blk_cell (HZ8.out _ HP.out.m) 0).trans rfl
      cases ty
      · rw [Bool.false_and] at hqty
        rw [hqty, if_neg (by decide), List.nil_append] at hY hL
        rw [List.length_append] at hL
        have HX := Aside0.mk hY
        have HL := Aside0.mk hL
        clear hY hL hqty
        go_wp2_with (fail)
        clear z0 z3 z8
        obtain ⟨V, hV⟩ : ∃ V, V = wr := ⟨_, rfl⟩
        subst hV
        go_loopw [76] (fun i wr => ∃ (m : Nat) (s2 : ES), m ≤ W.toNat ∧ i = .int .i64 m ∧ Aside0 (putsI s2 (evX q P k false (W.toNat - m) m ++ evY q P (H.toNat - (k + 1)) (k + 1)) = R1) ∧ Aside0 (s2.out.length + 4 * ((evX q P k false (W.toNat - m) m).length + (evY q P (H.toNat - (k + 1)) (k + 1)).length) ≤ 1000200000) ∧ Aside0 (PW EncAt W8 S8 g s2 wr)) (fun i _ => W.toNat - (intOf i).toNat)
        case atStart => exact ⟨0, _, Nat.zero_le _, rfl, HX, HL, HP⟩
        case round =>
          obtain ⟨m, s2, hm, rfl, HX, HL, HQ⟩ := hrel
          by_cases hltm : m < W.toNat
          · have hltm2 : (m : Int) < W := by omega
            go_wp2_with (fail)
            refine ((HRG.out _ HQ.out.m).flat (m : Int) (k : Int) (by omega) (by omega)).mono ?_
            rintro e X0 ⟨rfl, hb⟩
            have HQ := Aside0.mk (HQ.out.below hb)
            clear hb
            obtain ⟨⟨fc, is⟩, hF⟩ : ∃ r, flatP RW RH RP ((m : Int) - dx) ((k : Int) - dy) = r := ⟨_, rfl⟩
            rw [hF]
            have HF := Aside0.mk (show (q.flat (m : Int) (k : Int)).2 = is by rw [HQF.out, hF])
            clear hF
            simp only
            have hfx : ¬ (false = true ∧ true = true) := by simp
            have hX := HX.out
            rw [show W.toNat - m = (W.toNat - (m + 1)) + 1 by omega] at hX
            unfold evX at hX
            rw [if_neg (show ¬ (false = true ∧ (q.flat (m : Int) (k : Int)).2 = true) by simp), List.cons_append, putsI_cons, HQC.out] at hX
            simp only at hX
            have hL := HL.out
            rw [show W.toNat - m = (W.toNat - (m + 1)) + 1 by omega] at hL
            unfold evX at hL
            rw [if_neg (show ¬ (false = true ∧ (q.flat (m : Int) (k : Int)).2 = true) by simp), List.length_cons] at hL
            have HX2 := Aside0.mk hX
            have HL2 := Aside0.mk hL
            have HLN := Aside0.mk (show s2.out.length ≤ 1099511627776 by omega)
            have hpx := px_01 HBM.out (m : Int) (k : Int)
            have hcr := ctxP_range HBM.out HBR.out t dx dy (m : Int) (k : Int) HT.out
            have HQ0 := Aside0.mk (HQ.out.below (below_drew (Below.refl _ _)))
            clear hX hL hfx
            go_wp2_with (fail)
            refine start_ (n := 16) (S := fun w' => w'.cell? ⟨gr, 5, none⟩ = some (.int .i64 W) ∧ w'.cell? ⟨gr, 6, none⟩ = some (.int .i64 H) ∧ w'.cell? ⟨gr, 7, none⟩ = some (.slice AB P.length cB)) (ds := []) #[N',N',N',N',N',N',N',N',N',N',N',N',N',N',N',N'] (by kernel_rfl) rfl rfl ⟨(blk_cell (HRG.out _ HQ0.out.m).z 5).trans rfl, (blk_cell (HRG.out _ HQ0.out.m).z 6).trans rfl, (blk_cell (HRG.out _ HQ0.out.m).z 7).trans rfl⟩ (fun hHeld => ?_)
            refine pure_ (i := 0) (N := some 92) (v := ?_) (a' := ?_) #[Y',N',N',N',N',N',N',N',N',N',N',N',N',N',N',N'] rfl rfl (by kernel_rfl) (fun _ _ _ h => h) (Or.inl ⟨by rfl, ?_⟩) ?_ ?_; rotate_left; (intro w'; go_simp; with_reducible rfl); rotate_left; (simp only [Act.put, p1', p2', p3', i64_w, i32_w]; rfl)
            refine pure_ (i := 1) (N := some 93) (v := ?_) (a' := ?_) #[Y',Y',N',N',N',N',N',N',N',N',N',N',N',N',N',N'] rfl rfl (by kernel_rfl) (fun _ _ _ h => h) (Or.inl ⟨by rfl, ?_⟩) ?_ ?_; rotate_left; (intro w'; go_simp; with_reducible rfl); rotate_left; (simp only [Act.put, p1', p2', p3', i64_w, i32_w]; rfl)
            refine pure_ (i := 2) (N := some 94) (v := ?_) (a' := ?_) #[Y',Y',Y',N',N',N',N',N',N',N',N',N',N',N',N',N'] rfl rfl (by kernel_rfl) (fun _ _ _ h => h) (Or.inl ⟨by rfl, ?_⟩) ?_ ?_; rotate_left; (intro w'; go_simp; with_reducible rfl); rotate_left; (simp only [Act.put, p1', p2', p3', i64_w, i32_w]; rfl)
            refine pure_ (i := 3) (N := some 95) (v := ?_) (a' := ?_) #[Y',Y',Y',Y',N',N',N',N',N',N',N',N',N',N',N',N'] rfl rfl (by kernel_rfl) (fun _ _ _ h => h) (Or.inl ⟨by rfl, ?_⟩) ?_ ?_; rotate_left; (intro w'; go_simp; with_reducible rfl); rotate_left; (simp only [Act.put, p1', p2', p3', i64_w, i32_w]; rfl)
            refine pure_ (i := 4) (N := some 96) (v := ?_) (a' := ?_) #[Y',Y',Y',Y',Y',N',N',N',N',N',N',N',N',N',N',N'] rfl rfl (by kernel_rfl) (fun _ _ _ h => h) (Or.inl ⟨by rfl, ?_⟩) ?_ ?_; rotate_left; (intro w'; go_simp; with_reducible rfl); rotate_left; (simp only [Act.put, p1', p2', p3', i64_w, i32_w]; rfl)
            refine pure_ (i := 7) (N := some 99) (v := ?_) (a' := ?_) #[Y',Y',Y',Y',Y',N',N',Y',N',N',N',N',N',N',N',N'] rfl rfl (by kernel_rfl) (fun _ _ _ h => h) (Or.inl ⟨by rfl, ?_⟩) ?_ ?_; rotate_left; (intro w'; go_simp; with_reducible rfl); rotate_left; (simp only [Act.put, p1', p2', p3', i64_w, i32_w]; rfl)
            refine pure_ (i := 8) (N := some 100) (v := ?_) (a' := ?_) #[Y',Y',Y',Y',Y',N',N',Y',Y',N',N',N',N',N',N',N'] rfl rfl (by kernel_rfl) (fun _ _ _ h => h) (Or.inl ⟨by rfl, ?_⟩) ?_ ?_; rotate_left; (intro w'; go_simp; with_reducible rfl); rotate_left; (simp only [Act.put, p1', p2', p3', i64_w, i32_w]; rfl)
            refine pure_ (i := 9) (N := some 101) (v := ?_) (a' := ?_) #[Y',Y',Y',Y',Y',N',N',Y',Y',Y',N',N',N',N',N',N'] rfl rfl (by kernel_rfl) (fun _ _ _ h => h) (Or.inl ⟨by rfl, ?_⟩) ?_ ?_; rotate_left; (intro w'; go_simp; with_reducible rfl); rotate_left; (simp only [Act.put, p1', p2', p3', i64_w, i32_w]; rfl)
            refine pure_ (i := 11) (N := some 103) (v := ?_) (a' := ?_) #[Y',Y',Y',Y',Y',N',N',Y',Y',Y',N',Y',N',N',N',N'] rfl rfl (by kernel_rfl) (fun _ _ _ h => h) (Or.inl ⟨by rfl, ?_⟩) ?_ ?_; rotate_left; (intro w'; go_simp; with_reducible rfl); rotate_left; (simp only [Act.put, p1', p2', p3', i64_w, i32_w]; rfl)
            refine pure_ (i := 12) (N := some 104) (v := ?_) (a' := ?_) #[Y',Y',Y',Y',Y',N',N',Y',Y',Y',N',Y',Y',N',N',N'] rfl rfl (by kernel_rfl) (fun _ _ _ h => h) (Or.inl ⟨by rfl, ?_⟩) ?_ ?_; rotate_left; (intro w'; go_simp; with_reducible rfl); rotate_left; (simp only [Act.put, p1', p2', p3', i64_w, i32_w]; rfl)
            refine take_ (i := 10) (N := some 102) (v := ?_) (a' := ?_) #[Y',Y',Y',Y',Y',N',N',Y',Y',Y',Y',Y',Y',N',N',N'] rfl rfl (by kernel_rfl) (fun _ _ _ h => h) (Or.inl ⟨by rfl, ?_⟩) hHeld ?_ ?_; rotate_left; (rintro w' ⟨s0, s1, s2⟩; go_simp; with_reducible rfl); rotate_left; (simp only [Act.put, p1', p2', p3', i64_w, i32_w]; rfl)
            refine one_ (i := 5) (N := some 97) #[Y',Y',Y',Y',Y',Y',N',Y',Y',Y',Y',Y',Y',N',N',N'] rfl rfl (by kernel_rfl) (by decide) (fun K hK => ?_)
            refine goes_ Try.func61 (by kernel_rfl) rfl #[.pointer (some ⟨gr, 0, none⟩), .int .i64 (m : Int), .int .i64 (k : Int)] (by rfl) rfl rfl (by simp only [List.map_toArray, List.map_cons, List.map_nil]; rfl) ?_
            with_reducible refine ((HRG.out _ HQ0.out.m).context (m : Int) (k : Int) (by omega) (by omega)).mono ?_
            rintro e X1 ⟨rfl, hb⟩
            refine ⟨_, rfl, ?_⟩
            have HQ1 := Aside0.mk (HQ0.out.below hb)
            clear hb
            refine hK.out _ _ ⟨(blk_cell (HRG.out _ HQ1.out.m).z 5).trans rfl, (blk_cell (HRG.out _ HQ1.out.m).z 6).trans rfl, (blk_cell (HRG.out _ HQ1.out.m).z 7).trans rfl⟩ (fun hHeld => ?_)
            clear hK K
            refine norm_ (a' := ?_) ?_ ?_; rotate_left; (show Act.put _ (some 97) _ = _; simp only [Act.put, p1', p2', p3', i64_w, i32_w]; rfl)
            refine pure_ (i := 6) (N := some 98) (v := ?_) (a' := ?_) #[Y',Y',Y',Y',Y',Y',Y',Y',Y',Y',Y',Y',Y',N',N',N'] rfl rfl (by kernel_rfl) (fun _ _ _ h => h) (Or.inl ⟨by rfl, ?_⟩) ?_ ?_; rotate_left; (intro w'; go_simp; with_reducible rfl); rotate_left; (simp only [Act.put, p1', p2', p3', i64_w, i32_w]; rfl)
            refine one_ (i := 13) (N := some 105) #[Y',Y',Y',Y',Y',Y',Y',Y',Y',Y',Y',Y',Y',Y',N',N'] rfl rfl (by kernel_rfl) (by decide) (fun K hK => ?_)
            refine goes_ Try.func62 (by kernel_rfl) rfl #[.agg #[.int .i64 W, .int .i64 H, .slice AB P.length cB], .int .i64 (m : Int), .int .i64 (k : Int)] (by rfl) rfl rfl (by simp only [List.map_toArray, List.map_cons, List.map_nil]; rfl) ?_
            with_reducible refine ((HRG.out _ HQ1.out.m).at_ (m : Int) (k : Int)).mono ?_
            rintro e X2 ⟨rfl, hb⟩
            refine ⟨_, rfl, ?_⟩
            have HQ2 := Aside0.mk (HQ1.out.below hb)
            clear hb
            refine hK.out _ _ ⟨(blk_cell (HRG.out _ HQ2.out.m).z 5).trans rfl, (blk_cell (HRG.out _ HQ2.out.m).z 6).trans rfl, (blk_cell (HRG.out _ HQ2.out.m).z 7).trans rfl⟩ (fun hHeld => ?_)
            clear hK K
            refine norm_ (a' := ?_) ?_ ?_; rotate_left; (show Act.put _ (some 105) _ = _; simp only [Act.put, p1', p2', p3', i64_w, i32_w]; rfl)
            refine pure_ (i := 14) (N := some 106) (v := ?_) (a' := ?_) #[Y',Y',Y',Y',Y',Y',Y',Y',Y',Y',Y',Y',Y',Y',Y',N'] rfl rfl (by kernel_rfl) (fun _ _ _ h => h) (Or.inl ⟨by rfl, ?_⟩) ?_ ?_; rotate_left; (intro w'; go_simp; with_reducible rfl); rotate_left; (simp only [Act.put, p1', p2', p3', i64_w, i32_w]; rfl)
            refine one_ (i := 15) (N := some 107) #[Y',Y',Y',Y',Y',Y',Y',Y',Y',Y',Y',Y',Y',Y',Y',Y'] rfl rfl (by kernel_rfl) (by decide) (fun K hK => ?_)
            refine goes_ Try.func28 (by kernel_rfl) rfl #[.pointer (some ⟨g, 0, none⟩), .int .i64 (wrap64 (base + ctxP t dx dy W H P RW RH RP (m : Int) (k : Int))), .int .i64 (wrap64 (px W H P (m : Int) (k : Int)))] (by rfl) rfl rfl (by simp only [List.map_toArray, List.map_cons, List.map_nil]; rfl) ?_
            with_reducible refine (HQ2.out.put_eq HLN.out (base + ctxP t dx dy W H P RW RH RP (m : Int) (k : Int)) (px W H P (m : Int) (k : Int)) (by rw [wrap_id] <;> omega) (by rw [wrap_id] <;> omega)).mono ?_
            rintro e X3 ⟨rfl, hP⟩
            refine ⟨_, rfl, ?_⟩
            have HQ3 := Aside0.mk hP
            clear hP
            refine hK.out _ _ ⟨(blk_cell (HRG.out _ HQ3.out.m).z 5).trans rfl, (blk_cell (HRG.out _ HQ3.out.m).z 6).trans rfl, (blk_cell (HRG.out _ HQ3.out.m).z 7).trans rfl⟩ (fun hHeld => ?_)
            clear hK K
            refine norm_ (a' := ?_) ?_ ?_; rotate_left; (show Act.put _ (some 107) _ = _; simp only [Act.put, p1', p2', p3', i64_w, i32_w]; rfl)
            refine done_ (by kernel_rfl) ?_
            go_wp2_with (fail)
            refine ⟨⟨m + 1, _, by omega, by go_num, HX2, ⟨?_⟩, HQ3⟩, by simp [intOf]; omega⟩
            have h1 := (ES.putI_len s2 (base + ctxP t dx dy W H P RW RH RP (m : Int) (k : Int)) (px W H P (m : Int) (k : Int))).1
            have h2 := HL2.out
            omega
          · have hX := HX.out
            rw [show W.toNat - m = 0 by omega] at hX
            simp only [evX, List.nil_append] at hX
            have hL := HL.out
            rw [show W.toNat - m = 0 by omega] at hL
            simp only [evX, List.length_nil, Nat.zero_add] at hL
            have HX2 := Aside0.mk hX
            have HL2 := Aside0.mk hL
            clear hX hL
            go_wp2_with (fail)
            exact ⟨⟨k + 1, _, by omega, by go_num, HX2, HL2, HQ⟩, by simp [intOf]; omega⟩
      · rw [Bool.true_and] at hqty
        rw [if_pos rfl] at hY hL
        go_wp2_with (fail)
        refine (typical_calls _ gr t dx dy true kd W H AB cB P RW RH AR cR RP (k : Int) (HRG.out _ HP.out.m) (by omega)).mono ?_
        rintro e V1 ⟨rfl, hb⟩
        have HP := Aside0.mk (HP.out.below hb)
        clear hb z0 z3 z8
        obtain ⟨vt, hvt⟩ : ∃ x, rowP dx dy W H P RW RH RP k W.toNat 0 = x := ⟨_, rfl⟩
        rw [hvt] at hqty ⊢
        rw [hqty, List.cons_append, List.nil_append, putsI_cons] at hY
        rw [hqty, List.cons_append, List.nil_append, List.length_cons, List.length_append] at hL
        simp only at hY
        have HX0 := Aside0.mk hY
        have HL0 := Aside0.mk hL
        clear hvt hqty hY hL
        have z0 : V1.cell? ⟨b7, 0, none⟩ = some (.int .i64 t) := (blk_cell (HZ7.out _ HP.out.m) 0).trans rfl
        have z3 : V1.cell? ⟨b7, 3, none⟩ = some (.bool true) := (blk_cell (HZ7.out _ HP.out.m) 3).trans rfl
        have hcx := ctxs_range t
        cases vt
        · rw [show bit1 false = 0 from rfl] at HX0
          go_wp2_with (fail)
          refine (refine_contexts.calls t (ctxs t) _ (contexts_eq t)).mono ?_
          rintro e V2 ⟨rfl, hb⟩
          have HP := Aside0.mk (HP.out.below hb)
          clear hb z0 z3
          have hln : s1.out.length ≤ 1099511627776 := by have := HL0.out; omega
          go_wp2_with (fail)
          refine (HP.out.put_eq hln (base + ctxs t) 0 (by first | rfl | (rw [wrap_id] <;> omega)) rfl).mono ?_
          rintro e V3 ⟨rfl, hP⟩
          have HP := Aside0.mk hP
          have HX := Aside0.mk HX0.out
          have HL := Aside0.mk (show (s1.putI (base + ctxs t) 0).out.length + 4 * ((evX q P k false W.toNat 0).length + (evY q P (H.toNat - (k + 1)) (k + 1)).length) ≤ 1000200000 by have h1 := (ES.putI_len s1 (base + ctxs t) 0).1; have h2 := HL0.out; omega)
          clear hP hln HX0 HL0
          have z8 : V3.cell? ⟨b8, 0, none⟩ = some (.int .i64 W) := (blk_cell (HZ8.out _ HP.out.m) 0).trans rfl
          go_wp2_with (fail)
          clear z8
          go_loopw [76] (fun i wr => ∃ (m : Nat) (s2 : ES), m ≤ W.toNat ∧ i = .int .i64 m ∧ Aside0 (putsI s2 (evX q P k false (W.toNat - m) m ++ evY q P (H.toNat - (k + 1)) (k + 1)) = R1) ∧ Aside0 (s2.out.length + 4 * ((evX q P k false (W.toNat - m) m).length + (evY q P (H.toNat - (k + 1)) (k + 1)).length) ≤ 1000200000) ∧ Aside0 (PW EncAt W8 S8 g s2 wr)) (fun i _ => W.toNat - (intOf i).toNat)
          case atStart => exact ⟨0, _, Nat.zero_le _, rfl, HX, HL, HP⟩
          case round =>
            obtain ⟨m, s2, hm, rfl, HX, HL, HQ⟩ := hrel
            by_cases hltm : m < W.toNat
            · have hltm2 : (m : Int) < W := by omega
              go_wp2_with (fail)
              refine ((HRG.out _ HQ.out.m).flat (m : Int) (k : Int) (by omega) (by omega)).mono ?_
              rintro e X0 ⟨rfl, hb⟩
              have HQ := Aside0.mk (HQ.out.below hb)
              clear hb
              obtain ⟨⟨fc, is⟩, hF⟩ : ∃ r, flatP RW RH RP ((m : Int) - dx) ((k : Int) - dy) = r := ⟨_, rfl⟩
              rw [hF]
              have HF := Aside0.mk (show (q.flat (m : Int) (k : Int)).2 = is by rw [HQF.out, hF])
              clear hF
              simp only
              have hfx : ¬ (false = true ∧ true = true) := by simp
              have hX := HX.out
              rw [show W.toNat - m = (W.toNat - (m + 1)) + 1 by omega] at hX
              unfold evX at hX
              rw [if_neg (show ¬ (false = true ∧ (q.flat (m : Int) (k : Int)).2 = true) by simp), List.cons_append, putsI_cons, HQC.out] at hX
              simp only at hX
              have hL := HL.out
              rw [show W.toNat - m = (W.toNat - (m + 1)) + 1 by omega] at hL
              unfold evX at hL
              rw [if_neg (show ¬ (false = true ∧ (q.flat (m : Int) (k : Int)).2 = true) by simp), List.length_cons] at hL
              have HX2 := Aside0.mk hX
              have HL2 := Aside0.mk hL
              have HLN := Aside0.mk (show s2.out.length ≤ 1099511627776 by omega)
              have hpx := px_01 HBM.out (m : Int) (k : Int)
              have hcr := ctxP_range HBM.out HBR.out t dx dy (m : Int) (k : Int) HT.out
              have HQ0 := Aside0.mk (HQ.out.below (below_drew (Below.refl _ _)))
              clear hX hL hfx
              go_wp2_with (fail)
              refine start_ (n := 16) (S := fun w' => w'.cell? ⟨gr, 5, none⟩ = some (.int .i64 W) ∧ w'.cell? ⟨gr, 6, none⟩ = some (.int .i64 H) ∧ w'.cell? ⟨gr, 7, none⟩ = some (.slice AB P.length cB)) (ds := []) #[N',N',N',N',N',N',N',N',N',N',N',N',N',N',N',N'] (by kernel_rfl) rfl rfl ⟨(blk_cell (HRG.out _ HQ0.out.m).z 5).trans rfl, (blk_cell (HRG.out _ HQ0.out.m).z 6).trans rfl, (blk_cell (HRG.out _ HQ0.out.m).z 7).trans rfl⟩ (fun hHeld => ?_)
              refine pure_ (i := 0) (N := some 92) (v := ?_) (a' := ?_) #[Y',N',N',N',N',N',N',N',N',N',N',N',N',N',N',N'] rfl rfl (by kernel_rfl) (fun _ _ _ h => h) (Or.inl ⟨by rfl, ?_⟩) ?_ ?_; rotate_left; (intro w'; go_simp; with_reducible rfl); rotate_left; (simp only [Act.put, p1', p2', p3', i64_w, i32_w]; rfl)
              refine pure_ (i := 1) (N := some 93) (v := ?_) (a' := ?_) #[Y',Y',N',N',N',N',N',N',N',N',N',N',N',N',N',N'] rfl rfl (by kernel_rfl) (fun _ _ _ h => h) (Or.inl ⟨by rfl, ?_⟩) ?_ ?_; rotate_left; (intro w'; go_simp; with_reducible rfl); rotate_left; (simp only [Act.put, p1', p2', p3', i64_w, i32_w]; rfl)
              refine pure_ (i := 2) (N := some 94) (v := ?_) (a' := ?_) #[Y',Y',Y',N',N',N',N',N',N',N',N',N',N',N',N',N'] rfl rfl (by kernel_rfl) (fun _ _ _ h => h) (Or.inl ⟨by rfl, ?_⟩) ?_ ?_; rotate_left; (intro w'; go_simp; with_reducible rfl); rotate_left; (simp only [Act.put, p1', p2', p3', i64_w, i32_w]; rfl)
              refine pure_ (i := 3) (N := some 95) (v := ?_) (a' := ?_) #[Y',Y',Y',Y',N',N',N',N',N',N',N',N',N',N',N',N'] rfl rfl (by kernel_rfl) (fun _ _ _ h => h) (Or.inl ⟨by rfl, ?_⟩) ?_ ?_; rotate_left; (intro w'; go_simp; with_reducible rfl); rotate_left; (simp only [Act.put, p1', p2', p3', i64_w, i32_w]; rfl)
              refine pure_ (i := 4) (N := some 96) (v := ?_) (a' := ?_) #[Y',Y',Y',Y',Y',N',N',N',N',N',N',N',N',N',N',N'] rfl rfl (by kernel_rfl) (fun _ _ _ h => h) (Or.inl ⟨by rfl, ?_⟩) ?_ ?_; rotate_left; (intro w'; go_simp; with_reducible rfl); rotate_left; (simp only [Act.put, p1', p2', p3', i64_w, i32_w]; rfl)
              refine pure_ (i := 7) (N := some 99) (v := ?_) (a' := ?_) #[Y',Y',Y',Y',Y',N',N',Y',N',N',N',N',N',N',N',N'] rfl rfl (by kernel_rfl) (fun _ _ _ h => h) (Or.inl ⟨by rfl, ?_⟩) ?_ ?_; rotate_left; (intro w'; go_simp; with_reducible rfl); rotate_left; (simp only [Act.put, p1', p2', p3', i64_w, i32_w]; rfl)
              refine pure_ (i := 8) (N := some 100) (v := ?_) (a' := ?_) #[Y',Y',Y',Y',Y',N',N',Y',Y',N',N',N',N',N',N',N'] rfl rfl (by kernel_rfl) (fun _ _ _ h => h) (Or.inl ⟨by rfl, ?_⟩) ?_ ?_; rotate_left; (intro w'; go_simp; with_reducible rfl); rotate_left; (simp only [Act.put, p1', p2', p3', i64_w, i32_w]; rfl)
              refine pure_ (i := 9) (N := some 101) (v := ?_) (a' := ?_) #[Y',Y',Y',Y',Y',N',N',Y',Y',Y',N',N',N',N',N',N'] rfl rfl (by kernel_rfl) (fun _ _ _ h => h) (Or.inl ⟨by rfl, ?_⟩) ?_ ?_; rotate_left; (intro w'; go_simp; with_reducible rfl); rotate_left; (simp only [Act.put, p1', p2', p3', i64_w, i32_w]; rfl)
              refine pure_ (i := 11) (N := some 103) (v := ?_) (a' := ?_) #[Y',Y',Y',Y',Y',N',N',Y',Y',Y',N',Y',N',N',N',N'] rfl rfl (by kernel_rfl) (fun _ _ _ h => h) (Or.inl ⟨by rfl, ?_⟩) ?_ ?_; rotate_left; (intro w'; go_simp; with_reducible rfl); rotate_left; (simp only [Act.put, p1', p2', p3', i64_w, i32_w]; rfl)
              refine pure_ (i := 12) (N := some 104) (v := ?_) (a' := ?_) #[Y',Y',Y',Y',Y',N',N',Y',Y',Y',N',Y',Y',N',N',N'] rfl rfl (by kernel_rfl) (fun _ _ _ h => h) (Or.inl ⟨by rfl, ?_⟩) ?_ ?_; rotate_left; (intro w'; go_simp; with_reducible rfl); rotate_left; (simp only [Act.put, p1', p2', p3', i64_w, i32_w]; rfl)
              refine take_ (i := 10) (N := some 102) (v := ?_) (a' := ?_) #[Y',Y',Y',Y',Y',N',N',Y',Y',Y',Y',Y',Y',N',N',N'] rfl rfl (by kernel_rfl) (fun _ _ _ h => h) (Or.inl ⟨by rfl, ?_⟩) hHeld ?_ ?_; rotate_left; (rintro w' ⟨s0, s1, s2⟩; go_simp; with_reducible rfl); rotate_left; (simp only [Act.put, p1', p2', p3', i64_w, i32_w]; rfl)
              refine one_ (i := 5) (N := some 97) #[Y',Y',Y',Y',Y',Y',N',Y',Y',Y',Y',Y',Y',N',N',N'] rfl rfl (by kernel_rfl) (by decide) (fun K hK => ?_)
              refine goes_ Try.func61 (by kernel_rfl) rfl #[.pointer (some ⟨gr, 0, none⟩), .int .i64 (m : Int), .int .i64 (k : Int)] (by rfl) rfl rfl (by simp only [List.map_toArray, List.map_cons, List.map_nil]; rfl) ?_
              with_reducible refine ((HRG.out _ HQ0.out.m).context (m : Int) (k : Int) (by omega) (by omega)).mono ?_
              rintro e X1 ⟨rfl, hb⟩
              refine ⟨_, rfl, ?_⟩
              have HQ1 := Aside0.mk (HQ0.out.below hb)
              clear hb
              refine hK.out _ _ ⟨(blk_cell (HRG.out _ HQ1.out.m).z 5).trans rfl, (blk_cell (HRG.out _ HQ1.out.m).z 6).trans rfl, (blk_cell (HRG.out _ HQ1.out.m).z 7).trans rfl⟩ (fun hHeld => ?_)
              clear hK K
              refine norm_ (a' := ?_) ?_ ?_; rotate_left; (show Act.put _ (some 97) _ = _; simp only [Act.put, p1', p2', p3', i64_w, i32_w]; rfl)
              refine pure_ (i := 6) (N := some 98) (v := ?_) (a' := ?_) #[Y',Y',Y',Y',Y',Y',Y',Y',Y',Y',Y',Y',Y',N',N',N'] rfl rfl (by kernel_rfl) (fun _ _ _ h => h) (Or.inl ⟨by rfl, ?_⟩) ?_ ?_; rotate_left; (intro w'; go_simp; with_reducible rfl); rotate_left; (simp only [Act.put, p1', p2', p3', i64_w, i32_w]; rfl)
              refine one_ (i := 13) (N := some 105) #[Y',Y',Y',Y',Y',Y',Y',Y',Y',Y',Y',Y',Y',Y',N',N'] rfl rfl (by kernel_rfl) (by decide) (fun K hK => ?_)
              refine goes_ Try.func62 (by kernel_rfl) rfl #[.agg #[.int .i64 W, .int .i64 H, .slice AB P.length cB], .int .i64 (m : Int), .int .i64 (k : Int)] (by rfl) rfl rfl (by simp only [List.map_toArray, List.map_cons, List.map_nil]; rfl) ?_
              with_reducible refine ((HRG.out _ HQ1.out.m).at_ (m : Int) (k : Int)).mono ?_
              rintro e X2 ⟨rfl, hb⟩
              refine ⟨_, rfl, ?_⟩
              have HQ2 := Aside0.mk (HQ1.out.below hb)
              clear hb
              refine hK.out _ _ ⟨(blk_cell (HRG.out _ HQ2.out.m).z 5).trans rfl, (blk_cell (HRG.out _ HQ2.out.m).z 6).trans rfl, (blk_cell (HRG.out _ HQ2.out.m).z 7).trans rfl⟩ (fun hHeld => ?_)
              clear hK K
              refine norm_ (a' := ?_) ?_ ?_; rotate_left; (show Act.put _ (some 105) _ = _; simp only [Act.put, p1', p2', p3', i64_w, i32_w]; rfl)
              refine pure_ (i := 14) (N := some 106) (v := ?_) (a' := ?_) #[Y',Y',Y',Y',Y',Y',Y',Y',Y',Y',Y',Y',Y',Y',Y',N'] rfl rfl (by kernel_rfl) (fun _ _ _ h => h) (Or.inl ⟨by rfl, ?_⟩) ?_ ?_; rotate_left; (intro w'; go_simp; with_reducible rfl); rotate_left; (simp only [Act.put, p1', p2', p3', i64_w, i32_w]; rfl)
              refine one_ (i := 15) (N := some 107) #[Y',Y',Y',Y',Y',Y',Y',Y',Y',Y',Y',Y',Y',Y',Y',Y'] rfl rfl (by kernel_rfl) (by decide) (fun K hK => ?_)
              refine goes_ Try.func28 (by kernel_rfl) rfl #[.pointer (some ⟨g, 0, none⟩), .int .i64 (wrap64 (base + ctxP t dx dy W H P RW RH RP (m : Int) (k : Int))), .int .i64 (wrap64 (px W H P (m : Int) (k : Int)))] (by rfl) rfl rfl (by simp only [List.map_toArray, List.map_cons, List.map_nil]; rfl) ?_
              with_reducible refine (HQ2.out.put_eq HLN.out (base + ctxP t dx dy W H P RW RH RP (m : Int) (k : Int)) (px W H P (m : Int) (k : Int)) (by rw [wrap_id] <;> omega) (by rw [wrap_id] <;> omega)).mono ?_
              rintro e X3 ⟨rfl, hP⟩
              refine ⟨_, rfl, ?_⟩
              have HQ3 := Aside0.mk hP
              clear hP
              refine hK.out _ _ ⟨(blk_cell (HRG.out _ HQ3.out.m).z 5).trans rfl, (blk_cell (HRG.out _ HQ3.out.m).z 6).trans rfl, (blk_cell (HRG.out _ HQ3.out.m).z 7).trans rfl⟩ (fun hHeld => ?_)
              clear hK K
              refine norm_ (a' := ?_) ?_ ?_; rotate_left; (show Act.put _ (some 107) _ = _; simp only [Act.put, p1', p2', p3', i64_w, i32_w]; rfl)
              refine done_ (by kernel_rfl) ?_
              go_wp2_with (fail)
              refine ⟨⟨m + 1, _, by omega, by go_num, HX2, ⟨?_⟩, HQ3⟩, by simp [intOf]; omega⟩
              have h1 := (ES.putI_len s2 (base + ctxP t dx dy W H P RW RH RP (m : Int) (k : Int)) (px W H P (m : Int) (k : Int))).1
              have h2 := HL2.out
              omega
            · have hX := HX.out
              rw [show W.toNat - m = 0 by omega] at hX
              simp only [evX, List.nil_append] at hX
              have hL := HL.out
              rw [show W.toNat - m = 0 by omega] at hL
              simp only [evX, List.length_nil, Nat.zero_add] at hL
              have HX2 := Aside0.mk hX
              have HL2 := Aside0.mk hL
              clear hX hL
              go_wp2_with (fail)
              exact ⟨⟨k + 1, _, by omega, by go_num, HX2, HL2, HQ⟩, by simp [intOf]; omega⟩
        · rw [show bit1 true = 1 from rfl] at HX0
          go_wp2_with (fail)
          refine (refine_contexts.calls t (ctxs t) _ (contexts_eq t)).mono ?_
          rintro e V2 ⟨rfl, hb⟩
          have HP := Aside0.mk (HP.out.below hb)
          clear hb z0 z3
          have hln : s1.out.length ≤ 1099511627776 := by have := HL0.out; omega
          go_wp2_with (fail)
          refine (HP.out.put_eq hln (base + ctxs t) 1 (by first | rfl | (rw [wrap_id] <;> omega)) rfl).mono ?_
          rintro e V3 ⟨rfl, hP⟩
          have HP := Aside0.mk hP
          have HX := Aside0.mk HX0.out
          have HL := Aside0.mk (show (s1.putI (base + ctxs t) 1).out.length + 4 * ((evX q P k true W.toNat 0).length + (evY q P (H.toNat - (k + 1)) (k + 1)).length) ≤ 1000200000 by have h1 := (ES.putI_len s1 (base + ctxs t) 1).1; have h2 := HL0.out; omega)
          clear hP hln HX0 HL0
          have z8 : V3.cell? ⟨b8, 0, none⟩ = some (.int .i64 W) := (blk_cell (HZ8.out _ HP.out.m) 0).trans rfl
          go_wp2_with (fail)
          clear z8
          go_loopw [76] (fun i wr => ∃ (m : Nat) (s2 : ES), m ≤ W.toNat ∧ i = .int .i64 m ∧ Aside0 (putsI s2 (evX q P k true (W.toNat - m) m ++ evY q P (H.toNat - (k + 1)) (k + 1)) = R1) ∧ Aside0 (s2.out.length + 4 * ((evX q P k true (W.toNat - m) m).length + (evY q P (H.toNat - (k + 1)) (k + 1)).length) ≤ 1000200000) ∧ Aside0 (PW EncAt W8 S8 g s2 wr)) (fun i _ => W.toNat - (intOf i).toNat)
          case atStart => exact ⟨0, _, Nat.zero_le _, rfl, HX, HL, HP⟩
          case round =>
            obtain ⟨m, s2, hm, rfl, HX, HL, HQ⟩ := hrel
            by_cases hltm : m < W.toNat
            · have hltm2 : (m : Int) < W := by omega
              go_wp2_with (fail)
              refine ((HRG.out _ HQ.out.m).flat (m : Int) (k : Int) (by omega) (by omega)).mono ?_
              rintro e X0 ⟨rfl, hb⟩
              have HQ := Aside0.mk (HQ.out.below hb)
              clear hb
              obtain ⟨⟨fc, is⟩, hF⟩ : ∃ r, flatP RW RH RP ((m : Int) - dx) ((k : Int) - dy) = r := ⟨_, rfl⟩
              rw [hF]
              have HF := Aside0.mk (show (q.flat (m : Int) (k : Int)).2 = is by rw [HQF.out, hF])
              clear hF
              simp only
              cases is
              · have hfx : ¬ (true = true ∧ false = true) := by simp
                have hX := HX.out
                rw [show W.toNat - m = (W.toNat - (m + 1)) + 1 by omega] at hX
                unfold evX at hX
                rw [if_neg (show ¬ (true = true ∧ (q.flat (m : Int) (k : Int)).2 = true) by rw [HF.out]; simp), List.cons_append, putsI_cons, HQC.out] at hX
                simp only at hX
                have hL := HL.out
                rw [show W.toNat - m = (W.toNat - (m + 1)) + 1 by omega] at hL
                unfold evX at hL
                rw [if_neg (show ¬ (true = true ∧ (q.flat (m : Int) (k : Int)).2 = true) by rw [HF.out]; simp), List.length_cons] at hL
                have HX2 := Aside0.mk hX
                have HL2 := Aside0.mk hL
                have HLN := Aside0.mk (show s2.out.length ≤ 1099511627776 by omega)
                have hpx := px_01 HBM.out (m : Int) (k : Int)
                have hcr := ctxP_range HBM.out HBR.out t dx dy (m : Int) (k : Int) HT.out
                have HQ0 := Aside0.mk (HQ.out.below (below_drew (Below.refl _ _)))
                clear hX hL hfx
                go_wp2_with (fail)
                refine start_ (n := 16) (S := fun w' => w'.cell? ⟨gr, 5, none⟩ = some (.int .i64 W) ∧ w'.cell? ⟨gr, 6, none⟩ = some (.int .i64 H) ∧ w'.cell? ⟨gr, 7, none⟩ = some (.slice AB P.length cB)) (ds := []) #[N',N',N',N',N',N',N',N',N',N',N',N',N',N',N',N'] (by kernel_rfl) rfl rfl ⟨(blk_cell (HRG.out _ HQ0.out.m).z 5).trans rfl, (blk_cell (HRG.out _ HQ0.out.m).z 6).trans rfl, (blk_cell (HRG.out _ HQ0.out.m).z 7).trans rfl⟩ (fun hHeld => ?_)
                refine pure_ (i := 0) (N := some 92) (v := ?_) (a' := ?_) #[Y',N',N',N',N',N',N',N',N',N',N',N',N',N',N',N'] rfl rfl (by kernel_rfl) (fun _ _ _ h => h) (Or.inl ⟨by rfl, ?_⟩) ?_ ?_; rotate_left; (intro w'; go_simp; with_reducible rfl); rotate_left; (simp only [Act.put, p1', p2', p3', i64_w, i32_w]; rfl)
                refine pure_ (i := 1) (N := some 93) (v := ?_) (a' := ?_) #[Y',Y',N',N',N',N',N',N',N',N',N',N',N',N',N',N'] rfl rfl (by kernel_rfl) (fun _ _ _ h => h) (Or.inl ⟨by rfl, ?_⟩) ?_ ?_; rotate_left; (intro w'; go_simp; with_reducible rfl); rotate_left; (simp only [Act.put, p1', p2', p3', i64_w, i32_w]; rfl)
                refine pure_ (i := 2) (N := some 94) (v := ?_) (a' := ?_) #[Y',Y',Y',N',N',N',N',N',N',N',N',N',N',N',N',N'] rfl rfl (by kernel_rfl) (fun _ _ _ h => h) (Or.inl ⟨by rfl, ?_⟩) ?_ ?_; rotate_left; (intro w'; go_simp; with_reducible rfl); rotate_left; (simp only [Act.put, p1', p2', p3', i64_w, i32_w]; rfl)
                refine pure_ (i := 3) (N := some 95) (v := ?_) (a' := ?_) #[Y',Y',Y',Y',N',N',N',N',N',N',N',N',N',N',N',N'] rfl rfl (by kernel_rfl) (fun _ _ _ h => h) (Or.inl ⟨by rfl, ?_⟩) ?_ ?_; rotate_left; (intro w'; go_simp; with_reducible rfl); rotate_left; (simp only [Act.put, p1', p2', p3', i64_w, i32_w]; rfl)
                refine pure_ (i := 4) (N := some 96) (v := ?_) (a' := ?_) #[Y',Y',Y',Y',Y',N',N',N',N',N',N',N',N',N',N',N'] rfl rfl (by kernel_rfl) (fun _ _ _ h => h) (Or.inl ⟨by rfl, ?_⟩) ?_ ?_; rotate_left; (intro w'; go_simp; with_reducible rfl); rotate_left; (simp only [Act.put, p1', p2', p3', i64_w, i32_w]; rfl)
                refine pure_ (i := 7) (N := some 99) (v := ?_) (a' := ?_) #[Y',Y',Y',Y',Y',N',N',Y',N',N',N',N',N',N',N',N'] rfl rfl (by kernel_rfl) (fun _ _ _ h => h) (Or.inl ⟨by rfl, ?_⟩) ?_ ?_; rotate_left; (intro w'; go_simp; with_reducible rfl); rotate_left; (simp only [Act.put, p1', p2', p3', i64_w, i32_w]; rfl)
                refine pure_ (i := 8) (N := some 100) (v := ?_) (a' := ?_) #[Y',Y',Y',Y',Y',N',N',Y',Y',N',N',N',N',N',N',N'] rfl rfl (by kernel_rfl) (fun _ _ _ h => h) (Or.inl ⟨by rfl, ?_⟩) ?_ ?_; rotate_left; (intro w'; go_simp; with_reducible rfl); rotate_left; (simp only [Act.put, p1', p2', p3', i64_w, i32_w]; rfl)
                refine pure_ (i := 9) (N := some 101) (v := ?_) (a' := ?_) #[Y',Y',Y',Y',Y',N',N',Y',Y',Y',N',N',N',N',N',N'] rfl rfl (by kernel_rfl) (fun _ _ _ h => h) (Or.inl ⟨by rfl, ?_⟩) ?_ ?_; rotate_left; (intro w'; go_simp; with_reducible rfl); rotate_left; (simp only [Act.put, p1', p2', p3', i64_w, i32_w]; rfl)
                refine pure_ (i := 11) (N := some 103) (v := ?_) (a' := ?_) #[Y',Y',Y',Y',Y',N',N',Y',Y',Y',N',Y',N',N',N',N'] rfl rfl (by kernel_rfl) (fun _ _ _ h => h) (Or.inl ⟨by rfl, ?_⟩) ?_ ?_; rotate_left; (intro w'; go_simp; with_reducible rfl); rotate_left; (simp only [Act.put, p1', p2', p3', i64_w, i32_w]; rfl)
                refine pure_ (i := 12) (N := some 104) (v := ?_) (a' := ?_) #[Y',Y',Y',Y',Y',N',N',Y',Y',Y',N',Y',Y',N',N',N'] rfl rfl (by kernel_rfl) (fun _ _ _ h => h) (Or.inl ⟨by rfl, ?_⟩) ?_ ?_; rotate_left; (intro w'; go_simp; with_reducible rfl); rotate_left; (simp only [Act.put, p1', p2', p3', i64_w, i32_w]; rfl)
                refine take_ (i := 10) (N := some 102) (v := ?_) (a' := ?_) #[Y',Y',Y',Y',Y',N',N',Y',Y',Y',Y',Y',Y',N',N',N'] rfl rfl (by kernel_rfl) (fun _ _ _ h => h) (Or.inl ⟨by rfl, ?_⟩) hHeld ?_ ?_; rotate_left; (rintro w' ⟨s0, s1, s2⟩; go_simp; with_reducible rfl); rotate_left; (simp only [Act.put, p1', p2', p3', i64_w, i32_w]; rfl)
                refine one_ (i := 5) (N := some 97) #[Y',Y',Y',Y',Y',Y',N',Y',Y',Y',Y',Y',Y',N',N',N'] rfl rfl (by kernel_rfl) (by decide) (fun K hK => ?_)
                refine goes_ Try.func61 (by kernel_rfl) rfl #[.pointer (some ⟨gr, 0, none⟩), .int .i64 (m : Int), .int .i64 (k : Int)] (by rfl) rfl rfl (by simp only [List.map_toArray, List.map_cons, List.map_nil]; rfl) ?_
                with_reducible refine ((HRG.out _ HQ0.out.m).context (m : Int) (k : Int) (by omega) (by omega)).mono ?_
                rintro e X1 ⟨rfl, hb⟩
                refine ⟨_, rfl, ?_⟩
                have HQ1 := Aside0.mk (HQ0.out.below hb)
                clear hb
                refine hK.out _ _ ⟨(blk_cell (HRG.out _ HQ1.out.m).z 5).trans rfl, (blk_cell (HRG.out _ HQ1.out.m).z 6).trans rfl, (blk_cell (HRG.out _ HQ1.out.m).z 7).trans rfl⟩ (fun hHeld => ?_)
                clear hK K
                refine norm_ (a' := ?_) ?_ ?_; rotate_left; (show Act.put _ (some 97) _ = _; simp only [Act.put, p1', p2', p3', i64_w, i32_w]; rfl)
                refine pure_ (i := 6) (N := some 98) (v := ?_) (a' := ?_) #[Y',Y',Y',Y',Y',Y',Y',Y',Y',Y',Y',Y',Y',N',N',N'] rfl rfl (by kernel_rfl) (fun _ _ _ h => h) (Or.inl ⟨by rfl, ?_⟩) ?_ ?_; rotate_left; (intro w'; go_simp; with_reducible rfl); rotate_left; (simp only [Act.put, p1', p2', p3', i64_w, i32_w]; rfl)
                refine one_ (i := 13) (N := some 105) #[Y',Y',Y',Y',Y',Y',Y',Y',Y',Y',Y',Y',Y',Y',N',N'] rfl rfl (by kernel_rfl) (by decide) (fun K hK => ?_)
                refine goes_ Try.func62 (by kernel_rfl) rfl #[.agg #[.int .i64 W, .int .i64 H, .slice AB P.length cB], .int .i64 (m : Int), .int .i64 (k : Int)] (by rfl) rfl rfl (by simp only [List.map_toArray, List.map_cons, List.map_nil]; rfl) ?_
                with_reducible refine ((HRG.out _ HQ1.out.m).at_ (m : Int) (k : Int)).mono ?_
                rintro e X2 ⟨rfl, hb⟩
                refine ⟨_, rfl, ?_⟩
                have HQ2 := Aside0.mk (HQ1.out.below hb)
                clear hb
                refine hK.out _ _ ⟨(blk_cell (HRG.out _ HQ2.out.m).z 5).trans rfl, (blk_cell (HRG.out _ HQ2.out.m).z 6).trans rfl, (blk_cell (HRG.out _ HQ2.out.m).z 7).trans rfl⟩ (fun hHeld => ?_)
                clear hK K
                refine norm_ (a' := ?_) ?_ ?_; rotate_left; (show Act.put _ (some 105) _ = _; simp only [Act.put, p1', p2', p3', i64_w, i32_w]; rfl)
                refine pure_ (i := 14) (N := some 106) (v := ?_) (a' := ?_) #[Y',Y',Y',Y',Y',Y',Y',Y',Y',Y',Y',Y',Y',Y',Y',N'] rfl rfl (by kernel_rfl) (fun _ _ _ h => h) (Or.inl ⟨by rfl, ?_⟩) ?_ ?_; rotate_left; (intro w'; go_simp; with_reducible rfl); rotate_left; (simp only [Act.put, p1', p2', p3', i64_w, i32_w]; rfl)
                refine one_ (i := 15) (N := some 107) #[Y',Y',Y',Y',Y',Y',Y',Y',Y',Y',Y',Y',Y',Y',Y',Y'] rfl rfl (by kernel_rfl) (by decide) (fun K hK => ?_)
                refine goes_ Try.func28 (by kernel_rfl) rfl #[.pointer (some ⟨g, 0, none⟩), .int .i64 (wrap64 (base + ctxP t dx dy W H P RW RH RP (m : Int) (k : Int))), .int .i64 (wrap64 (px W H P (m : Int) (k : Int)))] (by rfl) rfl rfl (by simp only [List.map_toArray, List.map_cons, List.map_nil]; rfl) ?_
                with_reducible refine (HQ2.out.put_eq HLN.out (base + ctxP t dx dy W H P RW RH RP (m : Int) (k : Int)) (px W H P (m : Int) (k : Int)) (by rw [wrap_id] <;> omega) (by rw [wrap_id] <;> omega)).mono ?_
                rintro e X3 ⟨rfl, hP⟩
                refine ⟨_, rfl, ?_⟩
                have HQ3 := Aside0.mk hP
                clear hP
                refine hK.out _ _ ⟨(blk_cell (HRG.out _ HQ3.out.m).z 5).trans rfl, (blk_cell (HRG.out _ HQ3.out.m).z 6).trans rfl, (blk_cell (HRG.out _ HQ3.out.m).z 7).trans rfl⟩ (fun hHeld => ?_)
                clear hK K
                refine norm_ (a' := ?_) ?_ ?_; rotate_left; (show Act.put _ (some 107) _ = _; simp only [Act.put, p1', p2', p3', i64_w, i32_w]; rfl)
                refine done_ (by kernel_rfl) ?_
                go_wp2_with (fail)
                refine ⟨⟨m + 1, _, by omega, by go_num, HX2, ⟨?_⟩, HQ3⟩, by simp [intOf]; omega⟩
                have h1 := (ES.putI_len s2 (base + ctxP t dx dy W H P RW RH RP (m : Int) (k : Int)) (px W H P (m : Int) (k : Int))).1
                have h2 := HL2.out
                omega
              · have hX := HX.out
                rw [show W.toNat - m = (W.toNat - (m + 1)) + 1 by omega] at hX
                unfold evX at hX
                rw [if_pos ⟨rfl, HF.out⟩] at hX
                have hL := HL.out
                rw [show W.toNat - m = (W.toNat - (m + 1)) + 1 by omega] at hL
                unfold evX at hL
                rw [if_pos ⟨rfl, HF.out⟩] at hL
                have HX2 := Aside0.mk hX
                have HL2 := Aside0.mk hL
                clear hX hL
                go_wp2_with (fail)
                exact ⟨⟨m + 1, _, by omega, by go_num, HX2, HL2, HQ⟩, by simp [intOf]; omega⟩
            · have hX := HX.out
              rw [show W.toNat - m = 0 by omega] at hX
              simp only [evX, List.nil_append] at hX
              have hL := HL.out
              rw [show W.toNat - m = 0 by omega] at hL
              simp only [evX, List.length_nil, Nat.zero_add] at hL
              have HX2 := Aside0.mk hX
              have HL2 := Aside0.mk hL
              clear hX hL
              go_wp2_with (fail)
              exact ⟨⟨k + 1, _, by omega, by go_num, HX2, HL2, HQ⟩, by simp [intOf]; omega⟩
    · have hY := HY.out
      rw [show H.toNat - k = 0 by omega] at hY
      simp only [evY] at hY
      have hY2 : s1 = R1 := hY
      subst hY2
      clear hY
      go_wp2_with (fail)
      go_ret
      exact ⟨rfl, HP.out.rebase (HMk.out _ HD8.out) (fun k hk => ((HS8.out k hk).1).imp id (fun h => Nat.le_trans HB1.out.size h))⟩
end Go.Proofs.Ytkfejicdjpffcaa.Rpt
namespace Go.Proofs.Ytkfejicdjpffcaa.Rrp
open Go Go.RowKit Go.Proofs.YtkfejicdjpffcaaW.PrintWords Go.Proofs.YtkfejicdjpffcaaW.PrintLast Go.Proofs.YtkfejicdjpffcaaW.PrintMore Go.Proofs.Ytkfejicdjpffcaa.U Go.Proofs.Ytkfejicdjpffcaa.Aid Go.Proofs.Ytkfejicdjpffcaa.HandAid Go.Proofs.Ytkfejicdjpffcaa.Cod1 Go.Proofs.Ytkfejicdjpffcaa.Cod2 Go.Proofs.Ytkfejicdjpffcaa.Cod3 Go.Proofs.Ytkfejicdjpffcaa.Mod Go.Proofs.Ytkfejicdjpffcaa.NewRef Go.Proofs.Ytkfejicdjpffcaa.Enc Go.Proofs.Ytkfejicdjpffcaa.Mods Go.Proofs.Ytkfejicdjpffcaa.EncAt Go.Proofs.Ytkfejicdjpffcaa.Put Go.Proofs.Ytkfejicdjpffcaa.End Go.Proofs.Ytkfejicdjpffcaa.Snc Go.Proofs.Ytkfejicdjpffcaa.RefAt Go.Proofs.Ytkfejicdjpffcaa.RefPut Go.Proofs.Ytkfejicdjpffcaa.RefEnd Go.Proofs.Ytkfejicdjpffcaa.Pse Go.Proofs.Ytkfejicdjpffcaa.Pwk Go.Proofs.Ytkfejicdjpffcaa.Rpx Go.Proofs.Ytkfejicdjpffcaa.Rva Go.Proofs.Ytkfejicdjpffcaa.Rfl Go.Proofs.Ytkfejicdjpffcaa.Rcx Go.Proofs.Ytkfejicdjpffcaa.Rty Go.Proofs.Ytkfejicdjpffcaa.Rev Go.Proofs.Ytkfejicdjpffcaa.Rpt
end Go.Proofs.Ytkfejicdjpffcaa.Rrp
namespace Go.Proofs.Ytkfejicdjpffcaa.Ren
open Go Go.RowKit Go.Proofs.YtkfejicdjpffcaaW.PrintWords Go.Proofs.YtkfejicdjpffcaaW.PrintLast Go.Proofs.YtkfejicdjpffcaaW.PrintMore Go.Proofs.Ytkfejicdjpffcaa.U Go.Proofs.Ytkfejicdjpffcaa.Aid Go.Proofs.Ytkfejicdjpffcaa.HandAid Go.Proofs.Ytkfejicdjpffcaa.Cod1 Go.Proofs.Ytkfejicdjpffcaa.Cod2 Go.Proofs.Ytkfejicdjpffcaa.Cod3 Go.Proofs.Ytkfejicdjpffcaa.Mod Go.Proofs.Ytkfejicdjpffcaa.NewRef Go.Proofs.Ytkfejicdjpffcaa.Enc Go.Proofs.Ytkfejicdjpffcaa.Mods Go.Proofs.Ytkfejicdjpffcaa.EncAt Go.Proofs.Ytkfejicdjpffcaa.Put Go.Proofs.Ytkfejicdjpffcaa.End Go.Proofs.Ytkfejicdjpffcaa.Snc Go.Proofs.Ytkfejicdjpffcaa.RefAt Go.Proofs.Ytkfejicdjpffcaa.RefPut Go.Proofs.Ytkfejicdjpffcaa.RefEnd Go.Proofs.Ytkfejicdjpffcaa.Pse Go.Proofs.Ytkfejicdjpffcaa.Pwk Go.Proofs.Ytkfejicdjpffcaa.Rpx Go.Proofs.Ytkfejicdjpffcaa.Rva Go.Proofs.Ytkfejicdjpffcaa.Rfl Go.Proofs.Ytkfejicdjpffcaa.Rcx Go.Proofs.Ytkfejicdjpffcaa.Rty Go.Proofs.Ytkfejicdjpffcaa.Rev Go.Proofs.Ytkfejicdjpffcaa.Rpt Go.Proofs.Ytkfejicdjpffcaa.Rrp
/-- What Encode answers. -/
def encB (q : RQ) (kd : Int) (P : List Int) : List Int × Int := if okO q.t q.dx q.dy kd = true then (if okB q.W q.H P = true ∧ okB q.RW q.RH q.RP = true then ((putsI (newES kd (List.replicate (ctxs q.t + 1).toNat 0)) (evR q P)).end_, 0) else ([], 30)) else ([], 2)
/-- Bytes and an error are returned, the bytes in a row of their own. -/
def EBytes (w : World) (R : List Int × Int) (e : Ending) (W : World) : Prop := ∃ A c, e = .returned (.tuple #[.slice A R.1.length c, .int .i64 R.2]) ∧ Kd.R (Kd.int .u8) 5 W w.heap.size (fun _ => True) (.slice A R.1.length c) R.1 ∧ Below w.heap.size w W
theorem EBytes.bad (w W : World) (err : Int) (hb : Below w.heap.size w W) : EBytes w ([], err) (.returned (.tuple #[.slice none 0 0, .int .i64 err])) W := ⟨none, 0, rfl, Kd.R_nil _ _ W w.heap.size (fun _ => True), hb⟩
theorem stN_ok (t kd : Int) (hk : kd = 0 ∨ kd = 1) : okModel kd (List.replicate (ctxs t + 1).toNat 0) := by
  have hr := ctxs_range t
  have h := new_ok kd (ctxs t + 1) (by unfold newModel; rw [if_pos ⟨hk, by omega, by omega⟩])
  unfold newModel at h
  rw [if_pos ⟨hk, by omega, by omega⟩] at h
  exact h
theorem stN_fits (t : Int) : okF (List.replicate (ctxs t + 1).toNat (0 : Int)).length 0 t = true := by
  have hr := ctxs_range t
  rw [okF_iff, List.length_replicate]
  omega
set_option maxHeartbeats 2000000 in
set_option maxRecDepth 100000 in
theorem rencode_calls (w : World) (t dx dy : Int) (ty : Bool) (kd W H : Int) (AB : Option Addr) (cB : Nat) (P : List Int) (RW RH : Int) (AR : Option Addr) (cR : Nat) (RP : List Int) (hdx : -9223372036854775808 ≤ dx ∧ dx ≤ 9223372036854775807) (hdy : -9223372036854775808 ≤ dy ∧ dy ≤ 9223372036854775807) (hB : Kd.C (Kd.int .u8) w AB P.length P) (hcB : P.length ≤ cB) (hA : Kd.C (Kd.int .u8) w AR RP.length RP) (hcR : RP.length ≤ cR) (hbP : Bytes P) (hbR : Bytes RP) (R : List Int × Int) (hR : encB ⟨t, dx, dy, ty, W, H, RW, RH, RP, 0⟩ kd P = R) :
    Calls Try.prog 16 #[.agg #[.int .i64 t, .int .i64 dx, .int .i64 dy, .bool ty, .int .i64 kd], .agg #[.int .i64 W, .int .i64 H, .slice AB P.length cB], .agg #[.int .i64 RW, .int .i64 RH, .slice AR RP.length cR]] w (EBytes w R) := by
  have HB := Aside0.mk hB
  have HA := Aside0.mk hA
  have HbP := Aside0.mk hbP
  have HbR := Aside0.mk hbR
  have hmP : P.length ≤ 9223372036854775807 := Kd.C_max hB
  have hmR : RP.length ≤ 9223372036854775807 := Kd.C_max hA
  obtain ⟨q, hq⟩ : ∃ q : RQ, q = ⟨t, dx, dy, ty, W, H, RW, RH, RP, 0⟩ := ⟨_, rfl⟩
  rw [← hq] at hR
  have HQQ := Aside0.mk hq
  unfold encB at hR
  have e1 : okO q.t q.dx q.dy kd = okO t dx dy kd := by rw [hq]
  have e2 : okB q.W q.H P = okB W H P := by rw [hq]
  have e3 : okB q.RW q.RH q.RP = okB RW RH RP := by rw [hq]
  have e4 : ctxs q.t = ctxs t := by rw [hq]
  rw [e1, e2, e3, e4] at hR
  have HR := Aside0.mk hR
  have hu3 := Try.underlying23
  have hu4 := Try.underlying31
  have hu5 := Try.underlying45
  clear hB hA hbP hbR hR hq e1 e2 e3 e4
  go_enter Try.func16, Try.ntmps16
  go_wp2_with (fail)
  obtain ⟨b5, hb5⟩ : ∃ x, w.heap.size + 1 + 1 = x := ⟨_, rfl⟩
  obtain ⟨b4, hb4⟩ : ∃ x, w.heap.size + 1 = x := ⟨_, rfl⟩
  obtain ⟨b3, hb3⟩ : ∃ x, w.heap.size = x := ⟨_, rfl⟩
  obtain ⟨W1, hW1⟩ : ∃ x, ((w.alloc (.cells #[.int .i64 t, .int .i64 dx, .int .i64 dy, .bool ty, .int .i64 kd] 23)).alloc (.cells #[.int .i64 W, .int .i64 H, .slice AB P.length cB] 31)).alloc (.cells #[.int .i64 RW, .int .i64 RH, .slice AR RP.length cR] 31) = x := ⟨_, rfl⟩
  have HB1 := Aside0.mk (show Below w.heap.size w W1 from hW1 ▸ below_alloc (below_alloc (below_alloc (Below.refl _ _) _) _) _)
  have HZ5 := Aside0.mk (show W1.heap[b5]? = some (.cells #[.int .i64 RW, .int .i64 RH, .slice AR RP.length cR] 31 (0, 0)) by
    have h := heap_new ((w.alloc (.cells #[.int .i64 t, .int .i64 dx, .int .i64 dy, .bool ty, .int .i64 kd] 23)).alloc (.cells #[.int .i64 W, .int .i64 H, .slice AB P.length cB] 31)) (.cells #[.int .i64 RW, .int .i64 RH, .slice AR RP.length cR] 31)
    rw [World.size_alloc, World.size_alloc, hb5, hW1] at h
    exact h)
  have HZ4 := Aside0.mk (show W1.heap[b4]? = some (.cells #[.int .i64 W, .int .i64 H, .slice AB P.length cB] 31 (0, 0)) by
    have h := heap_new (w.alloc (.cells #[.int .i64 t, .int .i64 dx, .int .i64 dy, .bool ty, .int .i64 kd] 23)) (.cells #[.int .i64 W, .int .i64 H, .slice AB P.length cB] 31)
    rw [World.size_alloc, hb4] at h
    rw [← hW1]
    exact blk_alloc h _)
  have HZ3 := Aside0.mk (show W1.heap[b3]? = some (.cells #[.int .i64 t, .int .i64 dx, .int .i64 dy, .bool ty, .int .i64 kd] 23 (0, 0)) by
    have h := heap_new w (.cells #[.int .i64 t, .int .i64 dx, .int .i64 dy, .bool ty, .int .i64 kd] 23)
    rw [hb3] at h
    rw [← hW1]
    exact blk_alloc (blk_alloc h _) _)
  have HLT := Aside0.mk (show b3 < W1.heap.size ∧ b4 < W1.heap.size ∧ b5 < W1.heap.size from ⟨blk_lt HZ3.out, blk_lt HZ4.out, blk_lt HZ5.out⟩)
  rw [hb5, hb4, hb3, hW1]
  have HD1 := Aside0.mk (Below.refl W1.heap.size W1)
  clear hb3 hb4 hb5 hW1
  refine (refine_Valid.calls t dx dy ty kd _ _ (valid_eq t dx dy ty kd hdx hdy)).mono ?_
  rintro e W3 ⟨rfl, hb⟩
  have HD3 := Aside0.mk hb
  clear hb
  have hR := HR.out
  clear HR
  obtain ⟨vo, hvo⟩ : ∃ x, okO t dx dy kd = x := ⟨_, rfl⟩
  rw [hvo] at hR ⊢
  cases vo
  · rw [if_neg (show ¬ (false = true) by decide)] at hR
    subst hR
    clear hvo
    go_wp2_with (fail)
    go_ret2
    exact EBytes.bad _ _ _ (below_then HB1.out HB1.out.size HD3.out)
  rw [if_pos (show true = true from rfl)] at hR
  have hk := (okO_iff.1 hvo).2.1
  have HMO := Aside0.mk (model_eq t dx dy ty kd hvo)
  have HVO := Aside0.mk hvo
  have HK := Aside0.mk (stN_ok t kd hk)
  have HFT := Aside0.mk (stN_fits t)
  clear hvo hk
  generalize List.replicate (ctxs t + 1).toNat (0 : Int) = st at hR HMO HK HFT
  have HR := Aside0.mk hR
  clear hR
  have q30 : W3.cell? ⟨b3, 0, none⟩ = some (.int .i64 t) := (blk_cell (blk_below HZ3.out HD3.out) 0).trans rfl
  have q31 : W3.cell? ⟨b3, 1, none⟩ = some (.int .i64 dx) := (blk_cell (blk_below HZ3.out HD3.out) 1).trans rfl
  have q32 : W3.cell? ⟨b3, 2, none⟩ = some (.int .i64 dy) := (blk_cell (blk_below HZ3.out HD3.out) 2).trans rfl
  have q33 : W3.cell? ⟨b3, 3, none⟩ = some (.bool ty) := (blk_cell (blk_below HZ3.out HD3.out) 3).trans rfl
  have q34 : W3.cell? ⟨b3, 4, none⟩ = some (.int .i64 kd) := (blk_cell (blk_below HZ3.out HD3.out) 4).trans rfl
  go_wp2_with (fail)
  refine (refine_model.calls t dx dy ty kd kd st _ HMO.out).mono ?_
  rintro e W4 ⟨v, rfl, hRv, hb⟩
  obtain ⟨Am, cm, rfl⟩ := Kd.R_slice hRv
  have HD4 := Aside0.mk (below_then HD3.out HD3.out.size hb)
  have hcm := (Kd.R_reads' hRv).2.1
  have HCM := Aside0.mk (Kd.R_reads' hRv).2.2
  clear hRv hb q30 q31 q32 q33 q34
  go_wp2_with (fail)
  refine (new_enc Am cm kd st _ HCM.out hcm HK.out).mono ?_
  rintro e W5 ⟨g, rfl, hE, hb⟩
  have HD5 := Aside0.mk (below_then HD4.out HD4.out.size hb)
  have HE := Aside0.mk hE
  have HSI := Aside0.mk (show ∀ k, Since W4.heap.size W5 k → w.heap.size ≤ k from fun k hk => Nat.le_trans (Nat.le_trans HB1.out.size HD4.out.size) hk.1)
  have HSL := Aside0.mk (show ∀ k, Since W4.heap.size W5 k → k < W5.heap.size from fun k hk => hk.2)
  have HBV := Aside0.mk (show ∀ V, Mods W5 V (Since W4.heap.size W5) → Below w.heap.size w V from fun V hV => below_mods (below_then HB1.out HB1.out.size HD5.out) hV HSI.out (Nat.le_trans HB1.out.size HD5.out.size))
  generalize Since W4.heap.size W5 = S at HE HSI HSL HBV
  clear hE hb HCM hcm
  have q30 : W5.cell? ⟨b3, 0, none⟩ = some (.int .i64 t) := (blk_cell (blk_below HZ3.out HD5.out) 0).trans rfl
  have q31 : W5.cell? ⟨b3, 1, none⟩ = some (.int .i64 dx) := (blk_cell (blk_below HZ3.out HD5.out) 1).trans rfl
  have q32 : W5.cell? ⟨b3, 2, none⟩ = some (.int .i64 dy) := (blk_cell (blk_below HZ3.out HD5.out) 2).trans rfl
  have q33 : W5.cell? ⟨b3, 3, none⟩ = some (.bool ty) := (blk_cell (blk_below HZ3.out HD5.out) 3).trans rfl
  have q34 : W5.cell? ⟨b3, 4, none⟩ = some (.int .i64 kd) := (blk_cell (blk_below HZ3.out HD5.out) 4).trans rfl
  have q40 : W5.cell? ⟨b4, 0, none⟩ = some (.int .i64 W) := (blk_cell (blk_below HZ4.out HD5.out) 0).trans rfl
  have q41 : W5.cell? ⟨b4, 1, none⟩ = some (.int .i64 H) := (blk_cell (blk_below HZ4.out HD5.out) 1).trans rfl
  have q42 : W5.cell? ⟨b4, 2, none⟩ = some (.slice AB P.length cB) := (blk_cell (blk_below HZ4.out HD5.out) 2).trans rfl
  have q50 : W5.cell? ⟨b5, 0, none⟩ = some (.int .i64 RW) := (blk_cell (blk_below HZ5.out HD5.out) 0).trans rfl
  have q51 : W5.cell? ⟨b5, 1, none⟩ = some (.int .i64 RH) := (blk_cell (blk_below HZ5.out HD5.out) 1).trans rfl
  have q52 : W5.cell? ⟨b5, 2, none⟩ = some (.slice AR RP.length cR) := (blk_cell (blk_below HZ5.out HD5.out) 2).trans rfl
  go_wp2_with (fail)
  refine (rput_calls W5 S g (newES kd st) 0 t dx dy ty kd W H AB cB P RW RH AR cR RP HE.out HSL.out (newES_ok HK.out) (by show (0 : Nat) ≤ _; omega) hdx hdy (fun V hV => Kd.C_below HB.out (HBV.out V hV)) hcB (fun V hV => Kd.C_below HA.out (HBV.out V hV)) hcR HbP.out HbR.out q HQQ.out _ rfl).mono ?_
  rintro e W6 ⟨rfl, hP⟩
  have HP := Aside0.mk hP
  clear hP HE q30 q31 q32 q33 q34 q40 q41 q42 q50 q51 q52
  have hpe : putErr q kd P (newES kd st).st.length = if okB W H P = true ∧ okB RW RH RP = true then 0 else 30 := by
    unfold putErr
    rw [HQQ.out]
    simp only
    rw [if_pos HVO.out, if_pos (show okF (newES kd st).st.length 0 t = true from HFT.out)]
  have hR := HR.out
  clear HR
  by_cases hbb : okB W H P = true ∧ okB RW RH RP = true
  · rw [if_pos hbb] at hR hpe
    have hpr : putR q kd P (newES kd st) = (putsI (newES kd st) (evR q P), 0) := by unfold putR; rw [hpe, if_pos rfl]
    rw [hpr] at HP ⊢
    have hbm := (okB_bm HbP.out hbb.1).1
    have hlo : (putsI (newES kd st) (evR q P)).out.length ≤ 1099511627880 := by
      have h1 := putsI_out (evR q P) (newES kd st)
      have h2 := evR_len q P (by rw [HQQ.out]; exact hbm.w.2) (by rw [HQQ.out]; exact hbm.h.2)
      have h3 : (newES kd st).out.length = 0 := rfl
      omega
    generalize putsI (newES kd st) (evR q P) = s6 at hR HP hlo ⊢
    subst hR
    clear hpr hpe hbb hbm
    simp only
    go_wp2_with (fail)
    refine (end_calls W6 _ g s6 HP.out.e HP.out.ok hlo).mono ?_
    rintro e W7 ⟨A7, c7, rfl, hR7, hb7⟩
    have HB6 := Aside0.mk (HBV.out _ HP.out.m)
    have HR7 := Aside0.mk (Kd.R_lower hR7 HB6.out.size)
    have HB7 := Aside0.mk (below_then HB6.out HB6.out.size hb7)
    clear hR7 hb7
    go_wp2_with (fail)
    go_ret2
    exact ⟨A7, c7, rfl, HR7.out, HB7.out⟩
  · rw [if_neg hbb] at hR hpe
    have hpr : putR q kd P (newES kd st) = (newES kd st, 30) := by unfold putR; rw [hpe, if_neg (by decide)]
    rw [hpr] at HP ⊢
    subst hR
    clear hpr hpe hbb
    simp only
    go_wp2_with (fail)
    go_ret2
    exact EBytes.bad _ _ _ (HBV.out _ HP.out.m)
end Go.Proofs.Ytkfejicdjpffcaa.Ren
namespace Go.Proofs.Ytkfejicdjpffcaa.Rdv
open Go Go.RowKit Go.Proofs.YtkfejicdjpffcaaW.PrintWords Go.Proofs.YtkfejicdjpffcaaW.PrintLast Go.Proofs.YtkfejicdjpffcaaW.PrintMore Go.Proofs.Ytkfejicdjpffcaa.U Go.Proofs.Ytkfejicdjpffcaa.Aid Go.Proofs.Ytkfejicdjpffcaa.HandAid Go.Proofs.Ytkfejicdjpffcaa.Cod1 Go.Proofs.Ytkfejicdjpffcaa.Cod2 Go.Proofs.Ytkfejicdjpffcaa.Cod3 Go.Proofs.Ytkfejicdjpffcaa.Mod Go.Proofs.Ytkfejicdjpffcaa.NewRef Go.Proofs.Ytkfejicdjpffcaa.Enc Go.Proofs.Ytkfejicdjpffcaa.Mods Go.Proofs.Ytkfejicdjpffcaa.EncAt Go.Proofs.Ytkfejicdjpffcaa.Put Go.Proofs.Ytkfejicdjpffcaa.End Go.Proofs.Ytkfejicdjpffcaa.Snc Go.Proofs.Ytkfejicdjpffcaa.Dec Go.Proofs.Ytkfejicdjpffcaa.Get Go.Proofs.Ytkfejicdjpffcaa.DecNew Go.Proofs.Ytkfejicdjpffcaa.RefAt Go.Proofs.Ytkfejicdjpffcaa.RDec Go.Proofs.Ytkfejicdjpffcaa.RDecNew Go.Proofs.Ytkfejicdjpffcaa.Isk Go.Proofs.Ytkfejicdjpffcaa.Pse Go.Proofs.Ytkfejicdjpffcaa.Rpx Go.Proofs.Ytkfejicdjpffcaa.Rva Go.Proofs.Ytkfejicdjpffcaa.Rfl Go.Proofs.Ytkfejicdjpffcaa.Rcx Go.Proofs.Ytkfejicdjpffcaa.Rty Go.Proofs.Ytkfejicdjpffcaa.Rev
/-- A row's pixels are told, from pixel i on: the decoder, the pixels, the error. -/
def rowD (q : RQ) (y : Int) (typ : Int) : Nat → Nat → DS → List Int → DS × List Int × Int
  | 0, _, s, P => (s, P, 0)
  | d + 1, i, s, P =>
    if typ = 1 ∧ (q.flat i y).2 = true then rowD q y typ d (i + 1) s (P.set (y * q.W + i).toNat (q.flat i y).1)
    else if (s.getI (q.base + q.ctx P i y)).2.2 = 0 then rowD q y typ d (i + 1) (s.getI (q.base + q.ctx P i y)).1 (P.set (y * q.W + i).toNat (s.getI (q.base + q.ctx P i y)).2.1)
    else ((s.getI (q.base + q.ctx P i y)).1, P, (s.getI (q.base + q.ctx P i y)).2.2)
/-- A row, with what stands ahead of it. -/
def rowH (q : RQ) (y : Int) (s : DS) (P : List Int) : DS × List Int × Int :=
  if q.ty = true then (if (s.getI (q.base + ctxs q.t)).2.2 = 0 then rowD q y (s.getI (q.base + ctxs q.t)).2.1 q.W.toNat 0 (s.getI (q.base + ctxs q.t)).1 P else ((s.getI (q.base + ctxs q.t)).1, P, (s.getI (q.base + ctxs q.t)).2.2))
  else rowD q y 0 q.W.toNat 0 s P
/-- The rows from j on. -/
def rowsD (q : RQ) : Nat → Nat → DS → List Int → DS × List Int × Int
  | 0, _, s, P => (s, P, 0)
  | d + 1, j, s, P => if (rowH q j s P).2.2 = 0 then rowsD q d (j + 1) (rowH q j s P).1 (rowH q j s P).2.1 else rowH q j s P
def getErr (q : RQ) (kd : Int) (n : Nat) : Int := if okO q.t q.dx q.dy kd = true then (if okS q.W q.H = true ∧ okB q.RW q.RH q.RP = true then (if okF n q.base q.t = true then 0 else 2) else 30) else 2
/-- What Get answers: the decoder, sides and pixels, the error. -/
def getD (q : RQ) (kd : Int) (s : DS) : DS × (Int × Int × List Int) × Int :=
  if getErr q kd s.st.length = 0 then
    (if (rowsD q q.H.toNat 0 s (List.replicate (q.W * q.H).toNat 0)).2.2 = 0 then ((rowsD q q.H.toNat 0 s (List.replicate (q.W * q.H).toNat 0)).1, (q.W, q.H, (rowsD q q.H.toNat 0 s (List.replicate (q.W * q.H).toNat 0)).2.1), 0)
     else ((rowsD q q.H.toNat 0 s (List.replicate (q.W * q.H).toNat 0)).1, (0, 0, []), (rowsD q q.H.toNat 0 s (List.replicate (q.W * q.H).toNat 0)).2.2))
  else (s, (0, 0, []), getErr q kd s.st.length)
theorem bm_set {W H : Int} {P : List Int} (b : Bm W H P) (i : Nat) {x : Int} (hx : x = 0 ∨ x = 1) : Bm W H (P.set i x) :=
  ⟨b.w, b.h, by rw [List.length_set]; exact b.n, fun v hv => by
    rcases List.mem_or_eq_of_mem_set hv with h | h
    · exact b.p v h
    · rw [h]; exact hx⟩
theorem bm_new {W H : Int} (h : okS W H = true) : Bm W H (List.replicate (W * H).toNat 0) := by
  have hs := okS_iff.1 h
  have ha := area hs.1 hs.2.1 hs.2.2.1 hs.2.2.2.1
  exact ⟨⟨hs.1, hs.2.1⟩, ⟨hs.2.2.1, hs.2.2.2.1⟩, by rw [List.length_replicate]; omega, fun v hv => .inl (List.eq_of_mem_replicate hv)⟩
/-- A decoder and the row of pixels that is being written. -/
structure GX (At : World → (Nat → Prop) → Nat → DS → Prop) (w0 : World) (S T : Nat → Prop) (B : Nat) (gd : Nat) (s : DS) (v : Value) (P : List Int) (W : World) : Prop where
  d : At W S gd s
  p : Kd.R (Kd.int .u8) 5 W B T v P
  m : Mods w0 W (fun k => S k ∨ T k)
  ok : s.ok
section
variable {At : World → (Nat → Prop) → Nat → DS → Prop} [AtL At] {w0 W W' : World} {S T : Nat → Prop} {B gd : Nat} {s s' : DS} {v : Value} {P : List Int}
theorem GX.below (H : GX At w0 S T B gd s v P W) (hb : Below W.heap.size W W') : GX At w0 S T B gd s v P W' := ⟨AtL.below H.d hb, Kd.R_below H.p hb, H.m.below hb, H.ok⟩
omit [AtL At] in
theorem GX.next (H : GX At w0 S T B gd s v P W) (hST : ∀ k, T k → ¬ S k) (hE : At W' S gd s') (hM : Mods W W' S) (ok' : s'.ok) : GX At w0 S T B gd s' v P W' :=
  ⟨hE, Kd.R_kept H.p hM.kept hST, H.m.then_ hM (fun k hk => .inl (.inl hk)), ok'⟩
omit [AtL At] in
theorem GX.form (H : GX At w0 S T B gd s v P W) (hp : 0 < P.length) : ∃ g c, v = .slice (some ⟨g, 0, none⟩) P.length c ∧ T g ∧ g < W.heap.size := by
  obtain ⟨g, c, he, _, hl, _⟩ := Kd.R_form H.p hp
  exact ⟨g, c, he, H.p.1 g (by rw [he]; simp [Value.ownBlock]), hl⟩
end
theorem GX.get {w0 W : World} {S T : Nat → Prop} {B gd : Nat} {s : DS} {v : Value} {P : List Int} (H : GX DecAt w0 S T B gd s v P W) (hS : ∀ k, S k → k < w0.heap.size) (hST : ∀ k, T k → ¬ S k) (i : Int) {i' : Int} (hi : i' = i) :
    Calls Try.prog 35 #[.pointer (some ⟨gd, 0, none⟩), .int .i64 i'] W fun e W' => e = .returned (.tuple #[.int .i64 (s.getI i).2.1, .int .i64 (s.getI i).2.2]) ∧ GX DecAt w0 S T B gd (s.getI i).1 v P W' := by
  subst hi
  refine (get_calls W S gd s _ H.d (fun k hk => Nat.lt_of_lt_of_le (hS k hk) H.m.size) H.ok).mono ?_
  rintro e W' ⟨he, hE, hM⟩
  exact ⟨he, H.next hST hE hM (DS.getI_ok H.ok _)⟩
/-- A pixel is written. -/
theorem GX.set {At : World → (Nat → Prop) → Nat → DS → Prop} [AtL At] {w0 W : World} {S T : Nat → Prop} {B gd g c n : Nat} {s : DS} {P : List Int} (H : GX At w0 S T B gd s (.slice (some ⟨g, 0, none⟩) n c) P W) (hn : n = P.length) (hST : ∀ k, T k → ¬ S k) (hT : T g) (i : Nat) (x : Int) : GX At w0 S T B gd s (.slice (some ⟨g, 0, none⟩) n c) (P.set i x) (W.setCell ⟨g, i, none⟩ (.int .u8 x)) := by
  subst hn
  have h2 : Mods W (W.setCell ⟨g, i, none⟩ (.int .u8 x)) (fun k => k = g) := (Mods.refl W (fun k => k = g)).setCell (p := ⟨g, i, none⟩) (.inl rfl) _
  have h3 := (Kd.R_put (enc := Value.int .u8) H.p (i : Int) x).1
  rw [Int.toNat_natCast] at h3
  exact ⟨AtL.kept H.d h2 (fun k hk hk2 => hST g hT (hk2 ▸ hk)), h3, H.m.then_ h2 (fun k hk => .inl (.inr (hk ▸ hT))), H.ok⟩
theorem GX.cell {At : World → (Nat → Prop) → Nat → DS → Prop} {w0 W : World} {S T : Nat → Prop} {B gd g c n : Nat} {s : DS} {P : List Int} (H : GX At w0 S T B gd s (.slice (some ⟨g, 0, none⟩) n c) P W) (hn : n = P.length) (i : Nat) (hi : i < P.length) : W.cell? ⟨g, i, none⟩ = some (.int .u8 (rdOf 0 P (i : Int))) ∧ W.frozen? ⟨g, i, none⟩ = false := by
  subst hn
  have h1 := Kd.R_cell (0 : Int) H.p (i : Int) (by omega) (by omega)
  rw [Int.toNat_natCast] at h1
  exact h1
theorem rowD_len (q : RQ) (y typ : Int) : ∀ (d i : Nat) (s : DS) (P : List Int), (rowD q y typ d i s P).2.1.length = P.length ∧ (rowD q y typ d i s P).1.st.length = s.st.length
  | 0, i, s, P => ⟨rfl, rfl⟩
  | d + 1, i, s, P => by
    unfold rowD
    split
    · have h := rowD_len q y typ d (i + 1) s (P.set (y * q.W + i).toNat (q.flat i y).1)
      rw [List.length_set] at h
      exact h
    · split
      · have h := rowD_len q y typ d (i + 1) (s.getI (q.base + q.ctx P i y)).1 (P.set (y * q.W + i).toNat (s.getI (q.base + q.ctx P i y)).2.1)
        rw [List.length_set, getI_len] at h
        exact h
      · exact ⟨rfl, getI_len _ _⟩
theorem flatF_01 {W H : Int} {P : List Int} (b : Bm W H P) (x y c : Int) (hc : c = 0 ∨ c = 1) : ∀ d i, (flatF W H P x y c d i).1 = 0 ∨ (flatF W H P x y c d i).1 = 1
  | 0, i => hc
  | d + 1, i => by
    unfold flatF
    split
    · exact flatF_01 b x y c hc d (i + 1)
    · exact .inl rfl
theorem flatP_01 {W H : Int} {P : List Int} (b : Bm W H P) (x y : Int) : (flatP W H P x y).1 = 0 ∨ (flatP W H P x y).1 = 1 := flatF_01 b x y _ (px_01 b x y) 9 0
theorem rowD_bm (q : RQ) (br : Bm q.RW q.RH q.RP) (y typ : Int) : ∀ (d i : Nat) (s : DS) (P : List Int), Bm q.W q.H P → Bm q.W q.H (rowD q y typ d i s P).2.1
  | 0, i, s, P, b => b
  | d + 1, i, s, P, b => by
    unfold rowD
    split
    · exact rowD_bm q br y typ d (i + 1) s _ (bm_set b _ (flatP_01 br _ _))
    · split
      · have := bit_range s (q.base + q.ctx P i y)
        exact rowD_bm q br y typ d (i + 1) _ _ (bm_set b _ (by omega))
      · exact b
theorem rowH_bm (q : RQ) (br : Bm q.RW q.RH q.RP) (y : Int) (s : DS) (P : List Int) (b : Bm q.W q.H P) : Bm q.W q.H (rowH q y s P).2.1 := by
  unfold rowH
  split
  · split
    · exact rowD_bm q br y _ _ _ _ _ b
    · exact b
  · exact rowD_bm q br y _ _ _ _ _ b
theorem rowH_len (q : RQ) (y : Int) (s : DS) (P : List Int) : (rowH q y s P).2.1.length = P.length ∧ (rowH q y s P).1.st.length = s.st.length := by
  unfold rowH
  split
  · split
    · have h := rowD_len q y (s.getI (q.base + ctxs q.t)).2.1 q.W.toNat 0 (s.getI (q.base + ctxs q.t)).1 P
      rw [getI_len] at h
      exact h
    · exact ⟨rfl, getI_len _ _⟩
  · exact rowD_len q y 0 q.W.toNat 0 s P
end Go.Proofs.Ytkfejicdjpffcaa.Rdv
namespace Go.Proofs.Ytkfejicdjpffcaa.Rrw
open Go Go.RowKit Go.Proofs.YtkfejicdjpffcaaW.PrintWords Go.Proofs.YtkfejicdjpffcaaW.PrintLast Go.Proofs.YtkfejicdjpffcaaW.PrintMore Go.Proofs.Ytkfejicdjpffcaa.U Go.Proofs.Ytkfejicdjpffcaa.Aid Go.Proofs.Ytkfejicdjpffcaa.HandAid Go.Proofs.Ytkfejicdjpffcaa.Cod1 Go.Proofs.Ytkfejicdjpffcaa.Cod2 Go.Proofs.Ytkfejicdjpffcaa.Cod3 Go.Proofs.Ytkfejicdjpffcaa.Mod Go.Proofs.Ytkfejicdjpffcaa.NewRef Go.Proofs.Ytkfejicdjpffcaa.Enc Go.Proofs.Ytkfejicdjpffcaa.Mods Go.Proofs.Ytkfejicdjpffcaa.EncAt Go.Proofs.Ytkfejicdjpffcaa.Put Go.Proofs.Ytkfejicdjpffcaa.End Go.Proofs.Ytkfejicdjpffcaa.Snc Go.Proofs.Ytkfejicdjpffcaa.Dec Go.Proofs.Ytkfejicdjpffcaa.Get Go.Proofs.Ytkfejicdjpffcaa.DecNew Go.Proofs.Ytkfejicdjpffcaa.RefAt Go.Proofs.Ytkfejicdjpffcaa.RDec Go.Proofs.Ytkfejicdjpffcaa.RDecNew Go.Proofs.Ytkfejicdjpffcaa.Isk Go.Proofs.Ytkfejicdjpffcaa.Pse Go.Proofs.Ytkfejicdjpffcaa.Rpx Go.Proofs.Ytkfejicdjpffcaa.Rva Go.Proofs.Ytkfejicdjpffcaa.Rfl Go.Proofs.Ytkfejicdjpffcaa.Rcx Go.Proofs.Ytkfejicdjpffcaa.Rty Go.Proofs.Ytkfejicdjpffcaa.Rev Go.Proofs.Ytkfejicdjpffcaa.Rdv
set_option maxHeartbeats 8000000 in
set_option maxRecDepth 100000 in
theorem rrow_calls (w0 V : World) (S T : Nat → Prop) (B gd gr : Nat) (s : DS) (base t dx dy : Int) (ty : Bool) (kd W H : Int) (AB : Option Addr) (nB cB : Nat) (P : List Int) (RW RH : Int) (AR : Option Addr) (cR : Nat) (RP : List Int) (y : Nat)
    (hZ : ∀ V, Mods w0 V (fun k => S k ∨ T k) → V.heap[gr]? = some (.cells (regc t dx dy ty kd W H (.slice AB nB cB) RW RH (.slice AR RP.length cR)) 109 (0, 0)))
    (hA : ∀ V, Mods w0 V (fun k => S k ∨ T k) → Kd.C (Kd.int .u8) V AR RP.length RP) (hcR : RP.length ≤ cR) (hS : ∀ k, S k → k < w0.heap.size) (hST : ∀ k, T k → ¬ S k)
    (hX : GX DecAt w0 S T B gd s (.slice AB nB cB) P V) (hL : P.length = nB) (hb : Bm W H P) (hbr : Bm RW RH RP) (ht : t = 0 ∨ t = 1) (hdx : -200 ≤ dx ∧ dx ≤ 200) (hdy : -200 ≤ dy ∧ dy ≤ 200) (hbase : 0 ≤ base ∧ base ≤ 8192) (hyH : (y : Int) < H) (q : RQ) (hq : q = ⟨t, dx, dy, ty, W, H, RW, RH, RP, base⟩) (R : DS × List Int × Int) (hR : rowH q (y : Int) s P = R) :
    Calls Try.prog 82 #[.pointer (some ⟨gr, 0, none⟩), .pointer (some ⟨gd, 0, none⟩), .int .i64 base, .int .i64 (y : Int)] V fun e V' => e = .returned (.int .i64 R.2.2) ∧ GX DecAt w0 S T B gd R.1 (.slice AB nB cB) R.2.1 V' := by
  have HZ := Aside0.mk hZ
  have HS := Aside0.mk hS
  have HST := Aside0.mk hST
  have HX0 := Aside0.mk hX
  have HL0 := Aside0.mk hL
  have HBM0 := Aside0.mk hb
  have HBM := Aside0.mk hb
  have HBR := Aside0.mk hbr
  have HT := Aside0.mk ht
  have HREG := Aside0.mk (show ∀ V (s2 : DS) P2, GX DecAt w0 S T B gd s2 (.slice AB nB cB) P2 V → P2.length = nB → Bm W H P2 → Reg V gr t dx dy ty kd W H AB cB P2 RW RH AR cR RP from fun V s2 P2 hG hl hb2 => by
    subst hl
    exact ⟨hZ V hG.m, (Kd.R_reads' hG.p).2.2, (Kd.R_reads' hG.p).2.1, hA V hG.m, hcR, hb2, hbr, ht, by omega, by omega⟩)
  have HQF := Aside0.mk (show ∀ x y, q.flat x y = flatP RW RH RP (x - dx) (y - dy) from fun x y => by rw [hq]; rfl)
  have HQC := Aside0.mk (show ∀ P2 x y, q.base + q.ctx P2 x y = base + ctxP t dx dy W H P2 RW RH RP x y from fun P2 x y => by rw [hq]; rfl)
  have HQI := Aside0.mk (show ∀ x y : Int, (y * q.W + x).toNat = (y * W + x).toNat from fun x y => by rw [hq])
  have hq1 : q.ty = ty := by rw [hq]
  have hq2 : q.W = W := by rw [hq]
  have hq3 : q.base + ctxs q.t = base + ctxs t := by rw [hq]
  unfold rowH at hR
  rw [hq1, hq2, hq3] at hR
  have hu1 := Try.underlying109
  have hu2 := Try.underlying107
  have hu3 := Try.underlying23
  have hcx := ctxs_range t
  have hyb : (y : Int) ≤ 200 := by have := hb.h; omega
  have z0 : V.cell? ⟨gr, 0, none⟩ = some (.int .i64 t) := (blk_cell (hZ V hX.m) 0).trans rfl
  have z3 : V.cell? ⟨gr, 3, none⟩ = some (.bool ty) := (blk_cell (hZ V hX.m) 3).trans rfl
  have z5 : V.cell? ⟨gr, 5, none⟩ = some (.int .i64 W) := (blk_cell (hZ V hX.m) 5).trans rfl
  clear hZ hA hS hST hX hL hb hbr ht hq hq1 hq2 hq3
  cases ty
  · rw [if_neg (by decide)] at hR
    have HR := Aside0.mk (show rowD q (y : Int) 0 (W.toNat - 0) 0 s P = R from hR)
    clear hR
    go_enter Try.func82, Try.ntmps82
    go_wp2_with (fail)
    clear z0 z3 z5
    have hw := HBM.out.w
    have hh := HBM.out.h
    clear HBM
    go_loopw [45] (fun i wr => ∃ (m : Nat) (s2 : DS) (P2 : List Int), m ≤ W.toNat ∧ i = .int .i64 m ∧ Aside0 (rowD q (y : Int) 0 (W.toNat - m) m s2 P2 = R) ∧ Aside0 (P2.length = nB) ∧ Aside0 (Bm W H P2) ∧ Aside0 (GX DecAt w0 S T B gd s2 (.slice AB nB cB) P2 wr)) (fun i _ => W.toNat - (intOf i).toNat)
    case atStart => exact ⟨0, _, _, Nat.zero_le _, rfl, HR, HL0, HBM0, HX0⟩
    clear HR HL0 HBM0 HX0
    case round =>
      obtain ⟨m, s2, P2, hm, rfl, HX, HL, HBM2, HQ⟩ := hrel
      by_cases hltm : m < W.toNat
      · have hltm2 : (m : Int) < W := by omega
        have hat := HBM2.out.at_ (x := (m : Int)) (y := (y : Int)) (by omega) (by omega) hltm2 hyH
        obtain ⟨yw, hyw⟩ : ∃ z, (y : Int) * W = z := ⟨_, rfl⟩
        rw [hyw] at hat
        obtain ⟨ix, hix⟩ : ∃ ix : Nat, yw + (m : Int) = ix := ⟨(yw + m).toNat, by omega⟩
        rw [hix] at hat
        have hixl : ix < P2.length := by omega
        have hyw0 : 0 ≤ yw ∧ yw ≤ 40000 := ⟨hat.1, hat.2.1⟩
        have hix0 : (ix : Int) ≤ 9223372036854775807 := by omega
        have hixn : ix < nB := by have := HL.out; omega
        have hixn2 : (ix : Int) < nB := by omega
        obtain ⟨gp, cP, hv, hT, hgl⟩ := HQ.out.form (by omega)
        injection hv with hv1 hv2 hv3
        subst hv1 hv3
        have HTG := Aside0.mk hT
        have c5 : wr.cell? ⟨gr, 5, none⟩ = some (.int .i64 W) := (blk_cell (HZ.out _ HQ.out.m) 5).trans rfl
        clear hv2 hT hgl hat
        go_wp2_with (fail)
        clear c5
        refine ((HREG.out _ s2 _ HQ.out HL.out HBM2.out).flat (m : Int) (y : Int) (by omega) (by omega)).mono ?_
        rintro e X0 ⟨rfl, hb⟩
        have HQ := Aside0.mk (HQ.out.below hb)
        clear hb
        have hfp := flatP_01 HBR.out ((m : Int) - dx) ((y : Int) - dy)
        obtain ⟨⟨fc, is⟩, hF⟩ : ∃ r, flatP RW RH RP ((m : Int) - dx) ((y : Int) - dy) = r := ⟨_, rfl⟩
        rw [hF] at hfp ⊢
        have HF := Aside0.mk (show q.flat (m : Int) (y : Int) = (fc, is) by rw [HQF.out, hF])
        clear hF
        simp only at hfp ⊢
        have hX := HX.out
        rw [show W.toNat - m = (W.toNat - (m + 1)) + 1 by omega] at hX
        unfold rowD at hX
        rw [if_neg (show ¬ ((0 : Int) = 1 ∧ (q.flat (m : Int) (y : Int)).2 = true) by simp), HQC.out, HQI.out, hyw, hix, Int.toNat_natCast] at hX
        have hcr := ctxP_range HBM2.out HBR.out t dx dy (m : Int) (y : Int) HT.out
        obtain ⟨⟨s3, bt, er⟩, hg⟩ : ∃ r, s2.getI (base + ctxP t dx dy W H P2 RW RH RP (m : Int) (y : Int)) = r := ⟨_, rfl⟩
        have hbt : 0 ≤ bt ∧ bt ≤ 1 := by have := bit_range s2 (base + ctxP t dx dy W H P2 RW RH RP (m : Int) (y : Int)); rw [hg] at this; exact this
        rw [hg] at hX
        simp only at hX
        have HG := Aside0.mk hg
        have HX2 := Aside0.mk hX
        clear hX hg
        go_wp2_with (fail)
        refine ((HREG.out _ s2 _ HQ.out HL.out HBM2.out).context (m : Int) (y : Int) (by omega) (by omega)).mono ?_
        rintro e X1 ⟨rfl, hb⟩
        have HQ := Aside0.mk (HQ.out.below hb)
        clear hb
        go_wp2_with (fail)
        refine (HQ.out.get HS.out HST.out (base + ctxP t dx dy W H P2 RW RH RP (m : Int) (y : Int)) (by first | rfl | (rw [wrap_id] <;> omega))).mono ?_
        rintro e X2 ⟨rfl, hq⟩
        rw [HG.out] at hq ⊢
        simp only at hq ⊢
        have HQ := Aside0.mk hq
        clear hq HG hcr
        have hX := HX2.out
        clear HX2
        by_cases her : er = 0
        · rw [if_pos her] at hX
          have e1 : (er != 0) = false := by simp [her]
          have HX2 := Aside0.mk hX
          clear hX her
          have c7 : X2.cell? ⟨gr, 7, none⟩ = some (.slice (some ⟨gp, 0, none⟩) nB cB) := (blk_cell (HZ.out _ HQ.out.m) 7).trans rfl
          have hce := HQ.out.cell HL.out.symm ix hixl
          have hfz := hce.2
          have hcv := hce.1
          clear hce
          go_wp2_with (fail)
          refine ⟨⟨m + 1, s3, P2.set ix bt, by omega, by go_num, HX2, ⟨by rw [List.length_set]; exact HL.out⟩, ⟨bm_set HBM2.out _ (by omega)⟩, ⟨?_⟩⟩, by simp [intOf]; omega⟩
          have hf := HQ.out.set HL.out.symm HST.out HTG.out ix bt
          first | exact hf | (rw [show bt % 256 = bt by omega]; exact hf) | (rw [show IntKind.wrap .u8 bt = bt by simp [IntKind.wrap, IntKind.bits, IntKind.signed]; omega]; exact hf)
        · rw [if_neg her] at hX
          have e1 : (er != 0) = true := bne_iff_ne.mpr her
          subst hX
          clear her
          go_wp2_with (fail)
          go_ret
          exact ⟨rfl, HQ.out⟩
      · have hX := HX.out
        rw [show W.toNat - m = 0 by omega] at hX
        simp only [rowD] at hX
        subst hX
        go_wp2_with (fail)
        go_ret
        exact ⟨rfl, HQ.out⟩
  · rw [if_pos rfl] at hR
    obtain ⟨⟨s1, bh, er1⟩, hg⟩ : ∃ r, s.getI (base + ctxs t) = r := ⟨_, rfl⟩
    have hbh : 0 ≤ bh ∧ bh ≤ 1 := by have := bit_range s (base + ctxs t); rw [hg] at this; exact this
    rw [hg] at hR
    simp only at hR
    have HG1 := Aside0.mk hg
    have HR1 := Aside0.mk hR
    clear hg hR
    go_enter Try.func82, Try.ntmps82
    go_wp2_with (fail)
    refine (refine_contexts.calls t (ctxs t) _ (contexts_eq t)).mono ?_
    rintro e V1 ⟨rfl, hb⟩
    have HX0 := Aside0.mk (HX0.out.below hb)
    clear hb z0 z3 z5
    go_wp2_with (fail)
    refine (HX0.out.get HS.out HST.out (base + ctxs t) (by first | rfl | omega | (rw [wrap_id] <;> omega))).mono ?_
    rintro e V2 ⟨rfl, hx⟩
    rw [HG1.out] at hx ⊢
    simp only at hx ⊢
    have HX0 := Aside0.mk hx
    have z5 : V2.cell? ⟨gr, 5, none⟩ = some (.int .i64 W) := (blk_cell (HZ.out _ hx.m) 5).trans rfl
    have hR := HR1.out
    clear hx HG1 HR1
    by_cases her : er1 = 0
    · rw [if_pos her] at hR
      have e1 : (er1 != 0) = false := by simp [her]
      clear her
      have h01 : bh = 0 ∨ bh = 1 := by omega
      rcases h01 with rfl | rfl
      · have HR := Aside0.mk (show rowD q (y : Int) 0 (W.toNat - 0) 0 s1 P = R from hR)
        clear hR
        go_wp2_with (fail)
        clear z5
        have hw := HBM.out.w
        have hh := HBM.out.h
        clear HBM
        go_loopw [45] (fun i wr => ∃ (m : Nat) (s2 : DS) (P2 : List Int), m ≤ W.toNat ∧ i = .int .i64 m ∧ Aside0 (rowD q (y : Int) 0 (W.toNat - m) m s2 P2 = R) ∧ Aside0 (P2.length = nB) ∧ Aside0 (Bm W H P2) ∧ Aside0 (GX DecAt w0 S T B gd s2 (.slice AB nB cB) P2 wr)) (fun i _ => W.toNat - (intOf i).toNat)
        case atStart => exact ⟨0, _, _, Nat.zero_le _, rfl, HR, HL0, HBM0, HX0⟩
        clear HR HL0 HBM0 HX0
        case round =>
          obtain ⟨m, s2, P2, hm, rfl, HX, HL, HBM2, HQ⟩ := hrel
          by_cases hltm : m < W.toNat
          · have hltm2 : (m : Int) < W := by omega
            have hat := HBM2.out.at_ (x := (m : Int)) (y := (y : Int)) (by omega) (by omega) hltm2 hyH
            obtain ⟨yw, hyw⟩ : ∃ z, (y : Int) * W = z := ⟨_, rfl⟩
            rw [hyw] at hat
            obtain ⟨ix, hix⟩ : ∃ ix : Nat, yw + (m : Int) = ix := ⟨(yw + m).toNat, by omega⟩
            rw [hix] at hat
            have hixl : ix < P2.length := by omega
            have hyw0 : 0 ≤ yw ∧ yw ≤ 40000 := ⟨hat.1, hat.2.1⟩
            have hix0 : (ix : Int) ≤ 9223372036854775807 := by omega
            have hixn : ix < nB := by have := HL.out; omega
            have hixn2 : (ix : Int) < nB := by omega
            obtain ⟨gp, cP, hv, hT, hgl⟩ := HQ.out.form (by omega)
            injection hv with hv1 hv2 hv3
            subst hv1 hv3
            have HTG := Aside0.mk hT
            have c5 : wr.cell? ⟨gr, 5, none⟩ = some (.int .i64 W) := (blk_cell (HZ.out _ HQ.out.m) 5).trans rfl
            clear hv2 hT hgl hat
            go_wp2_with (fail)
            clear c5
            refine ((HREG.out _ s2 _ HQ.out HL.out HBM2.out).flat (m : Int) (y : Int) (by omega) (by omega)).mono ?_
            rintro e X0 ⟨rfl, hb⟩
            have HQ := Aside0.mk (HQ.out.below hb)
            clear hb
            have hfp := flatP_01 HBR.out ((m : Int) - dx) ((y : Int) - dy)
            obtain ⟨⟨fc, is⟩, hF⟩ : ∃ r, flatP RW RH RP ((m : Int) - dx) ((y : Int) - dy) = r := ⟨_, rfl⟩
            rw [hF] at hfp ⊢
            have HF := Aside0.mk (show q.flat (m : Int) (y : Int) = (fc, is) by rw [HQF.out, hF])
            clear hF
            simp only at hfp ⊢
            have hX := HX.out
            rw [show W.toNat - m = (W.toNat - (m + 1)) + 1 by omega] at hX
            unfold rowD at hX
            rw [if_neg (show ¬ ((0 : Int) = 1 ∧ (q.flat (m : Int) (y : Int)).2 = true) by simp), HQC.out, HQI.out, hyw, hix, Int.toNat_natCast] at hX
            have hcr := ctxP_range HBM2.out HBR.out t dx dy (m : Int) (y : Int) HT.out
            obtain ⟨⟨s3, bt, er⟩, hg⟩ : ∃ r, s2.getI (base + ctxP t dx dy W H P2 RW RH RP (m : Int) (y : Int)) = r := ⟨_, rfl⟩
            have hbt : 0 ≤ bt ∧ bt ≤ 1 := by have := bit_range s2 (base + ctxP t dx dy W H P2 RW RH RP (m : Int) (y : Int)); rw [hg] at this; exact this
            rw [hg] at hX
            simp only at hX
            have HG := Aside0.mk hg
            have HX2 := Aside0.mk hX
            clear hX hg
            go_wp2_with (fail)
            refine ((HREG.out _ s2 _ HQ.out HL.out HBM2.out).context (m : Int) (y : Int) (by omega) (by omega)).mono ?_
            rintro e X1 ⟨rfl, hb⟩
            have HQ := Aside0.mk (HQ.out.below hb)
            clear hb
            go_wp2_with (fail)
            refine (HQ.out.get HS.out HST.out (base + ctxP t dx dy W H P2 RW RH RP (m : Int) (y : Int)) (by first | rfl | (rw [wrap_id] <;> omega))).mono ?_
            rintro e X2 ⟨rfl, hq⟩
            rw [HG.out] at hq ⊢
            simp only at hq ⊢
            have HQ := Aside0.mk hq
            clear hq HG hcr
            have hX := HX2.out
            clear HX2
            by_cases her : er = 0
            · rw [if_pos her] at hX
              have e1 : (er != 0) = false := by simp [her]
              have HX2 := Aside0.mk hX
              clear hX her
              have c7 : X2.cell? ⟨gr, 7, none⟩ = some (.slice (some ⟨gp, 0, none⟩) nB cB) := (blk_cell (HZ.out _ HQ.out.m) 7).trans rfl
              have hce := HQ.out.cell HL.out.symm ix hixl
              have hfz := hce.2
              have hcv := hce.1
              clear hce
              go_wp2_with (fail)
              refine ⟨⟨m + 1, s3, P2.set ix bt, by omega, by go_num, HX2, ⟨by rw [List.length_set]; exact HL.out⟩, ⟨bm_set HBM2.out _ (by omega)⟩, ⟨?_⟩⟩, by simp [intOf]; omega⟩
              have hf := HQ.out.set HL.out.symm HST.out HTG.out ix bt
              first | exact hf | (rw [show bt % 256 = bt by omega]; exact hf) | (rw [show IntKind.wrap .u8 bt = bt by simp [IntKind.wrap, IntKind.bits, IntKind.signed]; omega]; exact hf)
            · rw [if_neg her] at hX
              have e1 : (er != 0) = true := bne_iff_ne.mpr her
              subst hX
              clear her
              go_wp2_with (fail)
              go_ret
              exact ⟨rfl, HQ.out⟩
          · have hX := HX.out
            rw [show W.toNat - m = 0 by omega] at hX
            simp only [rowD] at hX
            subst hX
            go_wp2_with (fail)
            go_ret
            exact ⟨rfl, HQ.out⟩
      · have HR := Aside0.mk (show rowD q (y : Int) 1 (W.toNat - 0) 0 s1 P = R from hR)
        clear hR
        go_wp2_with (fail)
        clear z5
        have hw := HBM.out.w
        have hh := HBM.out.h
        clear HBM
        go_loopw [45] (fun i wr => ∃ (m : Nat) (s2 : DS) (P2 : List Int), m ≤ W.toNat ∧ i = .int .i64 m ∧ Aside0 (rowD q (y : Int) 1 (W.toNat - m) m s2 P2 = R) ∧ Aside0 (P2.length = nB) ∧ Aside0 (Bm W H P2) ∧ Aside0 (GX DecAt w0 S T B gd s2 (.slice AB nB cB) P2 wr)) (fun i _ => W.toNat - (intOf i).toNat)
        case atStart => exact ⟨0, _, _, Nat.zero_le _, rfl, HR, HL0, HBM0, HX0⟩
        clear HR HL0 HBM0 HX0
        case round =>
          obtain ⟨m, s2, P2, hm, rfl, HX, HL, HBM2, HQ⟩ := hrel
          by_cases hltm : m < W.toNat
          · have hltm2 : (m : Int) < W := by omega
            have hat := HBM2.out.at_ (x := (m : Int)) (y := (y : Int)) (by omega) (by omega) hltm2 hyH
            obtain ⟨yw, hyw⟩ : ∃ z, (y : Int) * W = z := ⟨_, rfl⟩
            rw [hyw] at hat
            obtain ⟨ix, hix⟩ : ∃ ix : Nat, yw + (m : Int) = ix := ⟨(yw + m).toNat, by omega⟩
            rw [hix] at hat
            have hixl : ix < P2.length := by omega
            have hyw0 : 0 ≤ yw ∧ yw ≤ 40000 := ⟨hat.1, hat.2.1⟩
            have hix0 : (ix : Int) ≤ 9223372036854775807 := by omega
            have hixn : ix < nB := by have := HL.out; omega
            have hixn2 : (ix : Int) < nB := by omega
            obtain ⟨gp, cP, hv, hT, hgl⟩ := HQ.out.form (by omega)
            injection hv with hv1 hv2 hv3
            subst hv1 hv3
            have HTG := Aside0.mk hT
            have c5 : wr.cell? ⟨gr, 5, none⟩ = some (.int .i64 W) := (blk_cell (HZ.out _ HQ.out.m) 5).trans rfl
            clear hv2 hT hgl hat
            go_wp2_with (fail)
            clear c5
            refine ((HREG.out _ s2 _ HQ.out HL.out HBM2.out).flat (m : Int) (y : Int) (by omega) (by omega)).mono ?_
            rintro e X0 ⟨rfl, hb⟩
            have HQ := Aside0.mk (HQ.out.below hb)
            clear hb
            have hfp := flatP_01 HBR.out ((m : Int) - dx) ((y : Int) - dy)
            obtain ⟨⟨fc, is⟩, hF⟩ : ∃ r, flatP RW RH RP ((m : Int) - dx) ((y : Int) - dy) = r := ⟨_, rfl⟩
            rw [hF] at hfp ⊢
            have HF := Aside0.mk (show q.flat (m : Int) (y : Int) = (fc, is) by rw [HQF.out, hF])
            clear hF
            simp only at hfp ⊢
            cases is
            · have hX := HX.out
              rw [show W.toNat - m = (W.toNat - (m + 1)) + 1 by omega] at hX
              unfold rowD at hX
              rw [if_neg (show ¬ ((1 : Int) = 1 ∧ (q.flat (m : Int) (y : Int)).2 = true) by rw [HF.out]; simp), HQC.out, HQI.out, hyw, hix, Int.toNat_natCast] at hX
              have hcr := ctxP_range HBM2.out HBR.out t dx dy (m : Int) (y : Int) HT.out
              obtain ⟨⟨s3, bt, er⟩, hg⟩ : ∃ r, s2.getI (base + ctxP t dx dy W H P2 RW RH RP (m : Int) (y : Int)) = r := ⟨_, rfl⟩
              have hbt : 0 ≤ bt ∧ bt ≤ 1 := by have := bit_range s2 (base + ctxP t dx dy W H P2 RW RH RP (m : Int) (y : Int)); rw [hg] at this; exact this
              rw [hg] at hX
              simp only at hX
              have HG := Aside0.mk hg
              have HX2 := Aside0.mk hX
              clear hX hg
              go_wp2_with (fail)
              refine ((HREG.out _ s2 _ HQ.out HL.out HBM2.out).context (m : Int) (y : Int) (by omega) (by omega)).mono ?_
              rintro e X1 ⟨rfl, hb⟩
              have HQ := Aside0.mk (HQ.out.below hb)
              clear hb
              go_wp2_with (fail)
              refine (HQ.out.get HS.out HST.out (base + ctxP t dx dy W H P2 RW RH RP (m : Int) (y : Int)) (by first | rfl | (rw [wrap_id] <;> omega))).mono ?_
              rintro e X2 ⟨rfl, hq⟩
              rw [HG.out] at hq ⊢
              simp only at hq ⊢
              have HQ := Aside0.mk hq
              clear hq HG hcr
              have hX := HX2.out
              clear HX2
              by_cases her : er = 0
              · rw [if_pos her] at hX
                have e1 : (er != 0) = false := by simp [her]
                have HX2 := Aside0.mk hX
                clear hX her
                have c7 : X2.cell? ⟨gr, 7, none⟩ = some (.slice (some ⟨gp, 0, none⟩) nB cB) := (blk_cell (HZ.out _ HQ.out.m) 7).trans rfl
                have hce := HQ.out.cell HL.out.symm ix hixl
                have hfz := hce.2
                have hcv := hce.1
                clear hce
                go_wp2_with (fail)
                refine ⟨⟨m + 1, s3, P2.set ix bt, by omega, by go_num, HX2, ⟨by rw [List.length_set]; exact HL.out⟩, ⟨bm_set HBM2.out _ (by omega)⟩, ⟨?_⟩⟩, by simp [intOf]; omega⟩
                have hf := HQ.out.set HL.out.symm HST.out HTG.out ix bt
                first | exact hf | (rw [show bt % 256 = bt by omega]; exact hf) | (rw [show IntKind.wrap .u8 bt = bt by simp [IntKind.wrap, IntKind.bits, IntKind.signed]; omega]; exact hf)
              · rw [if_neg her] at hX
                have e1 : (er != 0) = true := bne_iff_ne.mpr her
                subst hX
                clear her
                go_wp2_with (fail)
                go_ret
                exact ⟨rfl, HQ.out⟩
            · have hX := HX.out
              rw [show W.toNat - m = (W.toNat - (m + 1)) + 1 by omega] at hX
              unfold rowD at hX
              rw [if_pos (show (1 : Int) = 1 ∧ (q.flat (m : Int) (y : Int)).2 = true from ⟨rfl, by rw [HF.out]⟩), HF.out, HQI.out, hyw, hix, Int.toNat_natCast] at hX
              simp only at hX
              have HX2 := Aside0.mk hX
              clear hX
              have c7 : X0.cell? ⟨gr, 7, none⟩ = some (.slice (some ⟨gp, 0, none⟩) nB cB) := (blk_cell (HZ.out _ HQ.out.m) 7).trans rfl
              have hce := HQ.out.cell HL.out.symm ix hixl
              have hfz := hce.2
              have hcv := hce.1
              clear hce
              go_wp2_with (fail)
              exact ⟨⟨m + 1, s2, P2.set ix fc, by omega, by go_num, HX2, ⟨by rw [List.length_set]; exact HL.out⟩, ⟨bm_set HBM2.out _ hfp⟩, ⟨HQ.out.set HL.out.symm HST.out HTG.out ix fc⟩⟩, by simp [intOf]; omega⟩
          · have hX := HX.out
            rw [show W.toNat - m = 0 by omega] at hX
            simp only [rowD] at hX
            subst hX
            go_wp2_with (fail)
            go_ret
            exact ⟨rfl, HQ.out⟩
    · rw [if_neg her] at hR
      have e1 : (er1 != 0) = true := bne_iff_ne.mpr her
      subst hR
      clear her
      go_wp2_with (fail)
      go_ret
      exact ⟨rfl, HX0.out⟩
end Go.Proofs.Ytkfejicdjpffcaa.Rrw
namespace Go.Proofs.Ytkfejicdjpffcaa.Rmk
open Go Go.RowKit Go.Proofs.YtkfejicdjpffcaaW.PrintWords Go.Proofs.YtkfejicdjpffcaaW.PrintLast Go.Proofs.YtkfejicdjpffcaaW.PrintMore Go.Proofs.Ytkfejicdjpffcaa.Aid Go.Proofs.Ytkfejicdjpffcaa.HandAid
/-- A made slice of bytes. -/
def zcells (n : Nat) : Array Value := madeCells (Value.int .u8 0).cells n
theorem make_step {oi : Oper} {a : Act} (W : World) (x y : Operand) (ho : oi.op = .makeSlice 29 x y) (m : Int) (n : Nat) (hx : a.eval x = .int .i64 m) (hy : a.eval y = .int .i64 m) (hm : m = n) (hn : n ≤ 1000000) :
    (execOp a.eval oi).run Try.prog W = .ok (.value (.slice (some ⟨W.heap.size, 0, none⟩) n n)) (W.alloc (.cells (zcells n) 5)) := by
  subst hm
  obtain ⟨i, hi, hz⟩ := Option.map_eq_some_iff.1 infoU8
  simp only [Prod.mk.injEq] at hz
  obtain ⟨hz0, hz1, hz2⟩ := hz
  have hr := run_make (P := Try.prog) W 29 5 i (.int .u8 0) Try.underlying29 hi hz0 .i64 .i64 (n : Int) (n : Int) (by omega) (by omega) (by rw [hz2]; omega) (by omega)
  rw [Int.toNat_natCast, hz1, Nat.mul_one] at hr
  simp [execOp, ho, hx, hy, hr, zcells]
theorem made_row (W : World) (B n : Nat) (hB : B ≤ W.heap.size) (hn : n ≤ 1000000) : Kd.R (Kd.int .u8) 5 (W.alloc (.cells (zcells n) 5)) B (fun k => k = W.heap.size) (.slice (some ⟨W.heap.size, 0, none⟩) n n) (List.replicate n 0) := by
  refine ⟨fun k hk => ?_, (zcells n).toList, ?_, ?_⟩
  · simpa [Value.ownBlock] using hk.symm
  · have h2 := World.ownsRow_lit (base := B) (e := 5) (size := 1) W (zcells n) n hB (by simp only [maxLen]; omega) (by simp [zcells, size_madeCells])
    rw [List.length_replicate]
    exact h2
  · have h3 := Kd.reps_made (R := fun (p : Int) (c : List Value) => c = [.int .u8 p]) (z := .int .u8 0) (size := 1) (z0 := (0 : Int)) rfl (by decide) rfl n
    rw [Nat.mul_one] at h3
    exact h3
end Go.Proofs.Ytkfejicdjpffcaa.Rmk
namespace Go.Proofs.Ytkfejicdjpffcaa.Rgt
open Go Go.RowKit Go.Proofs.YtkfejicdjpffcaaW.PrintWords Go.Proofs.YtkfejicdjpffcaaW.PrintLast Go.Proofs.YtkfejicdjpffcaaW.PrintMore Go.Proofs.Ytkfejicdjpffcaa.U Go.Proofs.Ytkfejicdjpffcaa.Aid Go.Proofs.Ytkfejicdjpffcaa.HandAid Go.Proofs.Ytkfejicdjpffcaa.Cod1 Go.Proofs.Ytkfejicdjpffcaa.Cod2 Go.Proofs.Ytkfejicdjpffcaa.Cod3 Go.Proofs.Ytkfejicdjpffcaa.Mod Go.Proofs.Ytkfejicdjpffcaa.NewRef Go.Proofs.Ytkfejicdjpffcaa.Enc Go.Proofs.Ytkfejicdjpffcaa.Mods Go.Proofs.Ytkfejicdjpffcaa.EncAt Go.Proofs.Ytkfejicdjpffcaa.Put Go.Proofs.Ytkfejicdjpffcaa.End Go.Proofs.Ytkfejicdjpffcaa.Snc Go.Proofs.Ytkfejicdjpffcaa.Dec Go.Proofs.Ytkfejicdjpffcaa.Get Go.Proofs.Ytkfejicdjpffcaa.DecNew Go.Proofs.Ytkfejicdjpffcaa.RefAt Go.Proofs.Ytkfejicdjpffcaa.RDec Go.Proofs.Ytkfejicdjpffcaa.RDecNew Go.Proofs.Ytkfejicdjpffcaa.Isk Go.Proofs.Ytkfejicdjpffcaa.Pse Go.Proofs.Ytkfejicdjpffcaa.Rpx Go.Proofs.Ytkfejicdjpffcaa.Rva Go.Proofs.Ytkfejicdjpffcaa.Rfl Go.Proofs.Ytkfejicdjpffcaa.Rcx Go.Proofs.Ytkfejicdjpffcaa.Rty Go.Proofs.Ytkfejicdjpffcaa.Rev Go.Proofs.Ytkfejicdjpffcaa.Rdv Go.Proofs.Ytkfejicdjpffcaa.Rrw Go.Proofs.Ytkfejicdjpffcaa.Rmk
/-- What Get answers: a bitmap, its pixels in a row of its own, an error. -/
def GPost (At : World → (Nat → Prop) → Nat → DS → Prop) (w : World) (S : Nat → Prop) (gd : Nat) (R : DS × (Int × Int × List Int) × Int) (e : Ending) (W : World) : Prop :=
  ∃ A c, e = .returned (.tuple #[.agg #[.int .i64 R.2.1.1, .int .i64 R.2.1.2.1, .slice A R.2.1.2.2.length c], .int .i64 R.2.2]) ∧ Kd.R (Kd.int .u8) 5 W w.heap.size (fun _ => True) (.slice A R.2.1.2.2.length c) R.2.1.2.2 ∧ IS At w S gd R.1 W
theorem zset3 {W : World} {b : Nat} {u v z : Value} (h : W.heap[b]? = some (.cells #[u, v, z] 31 (0, 0))) (p q r : Value) :
    (((W.setCell ⟨b, 0, none⟩ p).setCell ⟨b, 1, none⟩ q).setCell ⟨b, 2, none⟩ r).heap[b]? = some (.cells #[p, q, r] 31 (0, 0)) := by simpa using blk_set (blk_set (blk_set h 0 p) 1 q) 2 r
theorem GPost.bad {At : World → (Nat → Prop) → Nat → DS → Prop} [AtL At] {w W : World} {S : Nat → Prop} {gd : Nat} {s : DS} {b : Nat} (err : Int) (h : IS At w S gd s W) (hS : ∀ k, S k → k < w.heap.size) (hb : w.heap.size ≤ b) : GPost At w S gd (s, (0, 0, []), err) (.returned (.tuple #[.agg #[.int .i64 0, .int .i64 0, .slice none 0 0], .int .i64 err])) (((W.setCell ⟨b, 0, none⟩ (.int .i64 0)).setCell ⟨b, 1, none⟩ (.int .i64 0)).setCell ⟨b, 2, none⟩ (.slice none 0 0)) :=
  ⟨none, 0, rfl, Kd.R_nil _ _ _ w.heap.size (fun _ => True), ((h.set hS _ hb _).set hS _ hb _).set hS _ hb _⟩
theorem gret36 {W : World} {b : Nat} {x y err : Int} {A : Option Addr} {n c : Nat} {tmps : Array Value} (hz : W.heap[b]? = some (.cells #[.int .i64 x, .int .i64 y, .slice A n c] 31 (0, 0))) (h2 : tmps.getD 12 undef = .pointer (some ⟨b, 0, none⟩)) (h3 : tmps.getD 13 undef = .int .i64 err) :
    (results Try.f36 tmps).run Try.prog W = .ok (.tuple #[.agg #[.int .i64 x, .int .i64 y, .slice A n c], .int .i64 err]) W := by
  have y0 : W.cell? ⟨b, 0, none⟩ = some (.int .i64 x) := (blk_cell hz 0).trans rfl
  have y1 : W.cell? ⟨b, 1, none⟩ = some (.int .i64 y) := (blk_cell hz 1).trans rfl
  have y2 : W.cell? ⟨b, 2, none⟩ = some (.slice A n c) := (blk_cell hz 2).trans rfl
  have hu := Try.underlying31
  rw [results_cell_tmp rfl, h2, h3]
  go_simp
set_option maxHeartbeats 8000000 in
set_option maxRecDepth 100000 in
theorem rfget_calls (w : World) (S : Nat → Prop) (gd : Nat) (s : DS) (base t dx dy : Int) (ty : Bool) (kd W H : Int) (RW RH : Int) (AR : Option Addr) (cR : Nat) (RP : List Int) (hE : DecAt w S gd s) (hS : ∀ k, S k → k < w.heap.size) (hok : s.ok) (hdx : -9223372036854775808 ≤ dx ∧ dx ≤ 9223372036854775807) (hdy : -9223372036854775808 ≤ dy ∧ dy ≤ 9223372036854775807) (hA : ∀ V, Mods w V S → Kd.C (Kd.int .u8) V AR RP.length RP) (hcR : RP.length ≤ cR) (hbR : Bytes RP) (q : RQ) (hq : q = ⟨t, dx, dy, ty, W, H, RW, RH, RP, base⟩) (R : DS × (Int × Int × List Int) × Int) (hR : getD q kd s = R) :
    Calls Try.prog 36 #[.pointer (some ⟨gd, 0, none⟩), .int .i64 base, .agg #[.int .i64 t, .int .i64 dx, .int .i64 dy, .bool ty, .int .i64 kd], .int .i64 W, .int .i64 H, .agg #[.int .i64 RW, .int .i64 RH, .slice AR RP.length cR]] w (GPost DecAt w S gd R) := by
  have HA := Aside0.mk hA
  have HS := Aside0.mk hS
  have HbR := Aside0.mk hbR
  have HE := Aside0.mk hE
  have HQQ := Aside0.mk hq
  have hst : s.st.length ≤ 8192 := hok.m.2.1
  have hmR : RP.length ≤ 9223372036854775807 := Kd.C_max (hA w (Mods.refl w S))
  have HOK := Aside0.mk hok
  unfold getD at hR
  have hE1 : getErr q kd s.st.length = if okO t dx dy kd = true then (if okS W H = true ∧ okB RW RH RP = true then (if okF s.st.length base t = true then 0 else 2) else 30) else 2 := by rw [hq]; rfl
  have hq1 : q.W = W := by rw [hq]
  have hq2 : q.H = H := by rw [hq]
  rw [hE1, hq1, hq2] at hR
  have HR := Aside0.mk hR
  have hu1 := Try.underlying109
  have hu2 := Try.underlying107
  have hu3 := Try.underlying23
  have hu4 := Try.underlying31
  have hu5 := Try.underlying45
  clear hA hS hbR hE hok hR hE1 hq hq1 hq2
  go_enter Try.func36, Try.ntmps36
  go_wp2_with (fail)
  obtain ⟨b12, hb12⟩ : ∃ x, w.heap.size + 1 + 1 = x := ⟨_, rfl⟩
  obtain ⟨b11, hb11⟩ : ∃ x, w.heap.size + 1 = x := ⟨_, rfl⟩
  obtain ⟨b8, hb8⟩ : ∃ x, w.heap.size = x := ⟨_, rfl⟩
  obtain ⟨W1, hW1⟩ : ∃ x, ((w.alloc (.cells #[.int .i64 t, .int .i64 dx, .int .i64 dy, .bool ty, .int .i64 kd] 23)).alloc (.cells #[.int .i64 RW, .int .i64 RH, .slice AR RP.length cR] 31)).alloc (.cells #[.int .i64 0, .int .i64 0, .slice none 0 0] 31) = x := ⟨_, rfl⟩
  have HB1 := Aside0.mk (show Below w.heap.size w W1 from hW1 ▸ below_alloc (below_alloc (below_alloc (Below.refl _ _) _) _) _)
  have HZ12 := Aside0.mk (show W1.heap[b12]? = some (.cells #[.int .i64 0, .int .i64 0, .slice none 0 0] 31 (0, 0)) by
    have h := heap_new ((w.alloc (.cells #[.int .i64 t, .int .i64 dx, .int .i64 dy, .bool ty, .int .i64 kd] 23)).alloc (.cells #[.int .i64 RW, .int .i64 RH, .slice AR RP.length cR] 31)) (.cells #[.int .i64 0, .int .i64 0, .slice none 0 0] 31)
    rw [World.size_alloc, World.size_alloc, hb12, hW1] at h
    exact h)
  have HZ11 := Aside0.mk (show W1.heap[b11]? = some (.cells #[.int .i64 RW, .int .i64 RH, .slice AR RP.length cR] 31 (0, 0)) by
    have h := heap_new (w.alloc (.cells #[.int .i64 t, .int .i64 dx, .int .i64 dy, .bool ty, .int .i64 kd] 23)) (.cells #[.int .i64 RW, .int .i64 RH, .slice AR RP.length cR] 31)
    rw [World.size_alloc, hb11] at h
    rw [← hW1]
    exact blk_alloc h _)
  have HZ8 := Aside0.mk (show W1.heap[b8]? = some (.cells #[.int .i64 t, .int .i64 dx, .int .i64 dy, .bool ty, .int .i64 kd] 23 (0, 0)) by
    have h := heap_new w (.cells #[.int .i64 t, .int .i64 dx, .int .i64 dy, .bool ty, .int .i64 kd] 23)
    rw [hb8] at h
    rw [← hW1]
    exact blk_alloc (blk_alloc h _) _)
  have HGE := Aside0.mk (show w.heap.size ≤ b8 ∧ w.heap.size ≤ b11 ∧ w.heap.size ≤ b12 by omega)
  have HB12 := Aside0.mk (show w.heap.size ≤ b12 ∧ b12 < W1.heap.size from ⟨by omega, blk_lt HZ12.out⟩)
  rw [hb12, hb11, hb8, hW1]
  clear hb12 hb11 hb8 hW1
  have hp1 := get_calls W1 S gd s (-1) (HE.out.below HB1.out) (fun k hk => Nat.lt_of_lt_of_le (HS.out k hk) HB1.out.size) HOK.out
  rw [getI_neg] at hp1
  refine hp1.mono ?_
  rintro e W2 ⟨rfl, hD, hM⟩
  have HD := Aside0.mk hD
  have HM2 := Aside0.mk ((Mods.of_below HB1.out S).then_ hM (fun k hk => .inl hk))
  have HS1 := Aside0.mk hM.size
  have HZ8 := Aside0.mk (blk_mods HZ8.out hM (fun hk => by have := HS.out _ hk; have := HGE.out; omega))
  have HZ11 := Aside0.mk (blk_mods HZ11.out hM (fun hk => by have := HS.out _ hk; have := HGE.out; omega))
  have HZ12 := Aside0.mk (blk_mods HZ12.out hM (fun hk => by have := HS.out _ hk; have := HGE.out; omega))
  have HIS := Aside0.mk (show ∀ V, Below W2.heap.size W2 V → IS DecAt w S gd s V from fun V hV => ⟨HD.out.below hV, HM2.out.below hV, HOK.out⟩)
  have HD2 := Aside0.mk (Below.refl W2.heap.size W2)
  clear hD hM hp1 HE
  have q80 : W2.cell? ⟨b8, 0, none⟩ = some (.int .i64 t) := (blk_cell (blk_below HZ8.out HD2.out) 0).trans rfl
  have q81 : W2.cell? ⟨b8, 1, none⟩ = some (.int .i64 dx) := (blk_cell (blk_below HZ8.out HD2.out) 1).trans rfl
  have q82 : W2.cell? ⟨b8, 2, none⟩ = some (.int .i64 dy) := (blk_cell (blk_below HZ8.out HD2.out) 2).trans rfl
  have q83 : W2.cell? ⟨b8, 3, none⟩ = some (.bool ty) := (blk_cell (blk_below HZ8.out HD2.out) 3).trans rfl
  have q84 : W2.cell? ⟨b8, 4, none⟩ = some (.int .i64 kd) := (blk_cell (blk_below HZ8.out HD2.out) 4).trans rfl
  simp only
  go_wp2_with (fail)
  refine (refine_Valid.calls t dx dy ty kd _ _ (valid_eq t dx dy ty kd hdx hdy)).mono ?_
  rintro e W3 ⟨rfl, hb⟩
  have HD3 := Aside0.mk hb
  clear hb q80 q81 q82 q83 q84
  obtain ⟨vo, hvo⟩ : ∃ x, okO t dx dy kd = x := ⟨_, rfl⟩
  have hR := HR.out
  clear HR
  rw [hvo] at hR ⊢
  cases vo
  · rw [if_neg (show ¬ (false = true) by decide), if_neg (show ¬ ((2 : Int) = 0) by decide)] at hR
    subst hR
    clear hvo
    have m0 : W3.cell? ⟨b12, 0, none⟩ = some (.int .i64 0) := (blk_cell (blk_below HZ12.out HD3.out) 0).trans rfl
    have m1 : W3.cell? ⟨b12, 1, none⟩ = some (.int .i64 0) := (blk_cell (blk_below HZ12.out HD3.out) 1).trans rfl
    have m2 : W3.cell? ⟨b12, 2, none⟩ = some (.slice none 0 0) := (blk_cell (blk_below HZ12.out HD3.out) 2).trans rfl
    have k0 := blk_frozen (blk_below HZ12.out HD3.out) 0
    have k1 := blk_frozen (blk_below HZ12.out HD3.out) 1
    have k2 := blk_frozen (blk_below HZ12.out HD3.out) 2
    have HZW := Aside0.mk (zset3 (blk_below HZ12.out HD3.out) (.int .i64 0) (.int .i64 0) (.slice none 0 0))
    have hP := GPost.bad (At := DecAt) (w := w) (S := S) (gd := gd) (s := s) (b := b12) 2 (HIS.out _ HD3.out) HS.out HB12.out.1
    go_wp2_with (fail)
    exact bodyPost_ret (gret36 HZW.out rfl rfl) rfl hP
  rw [if_pos (show true = true from rfl)] at hR
  have hoo := okO_iff.1 hvo
  have HOO := Aside0.mk hoo
  have HR := Aside0.mk hR
  have HT := Aside0.mk hoo.1
  clear hvo hR hoo
  go_wp2_with (fail)
  obtain ⟨⟨n1, n2, n3, n4⟩, hEv, hn4⟩ := bnew_ev W H
  obtain ⟨K1, hK1⟩ := Ev.rounds hEv
  refine (bitmap_New.calls K1 W H 0 n1 n2 n3 n4 _ hK1).mono ?_
  rintro e W4 ⟨v2, rfl, hv2, hb⟩
  obtain ⟨Av, cv, rfl⟩ := Kd.R_slice hv2
  have HD4 := Aside0.mk (below_then HD3.out HD3.out.size hb)
  simp only at hn4
  clear hv2 hb hK1 hEv
  obtain ⟨W4a, hW4a⟩ : ∃ x, W4.alloc (.cells #[.int .i64 n1, .int .i64 n2, .slice Av n3.length cv] 31) = x := ⟨_, rfl⟩
  have HD4a := Aside0.mk (show Below W2.heap.size W2 W4a from hW4a ▸ below_alloc HD4.out _)
  obtain ⟨vs, hvs⟩ : ∃ x, okS W H = x := ⟨_, rfl⟩
  have hR := HR.out
  clear HR
  rw [hvs] at hR hn4
  cases vs
  · have e1 : (n4 != 0) = true := by
      rw [if_neg (by decide)] at hn4
      apply bne_iff_ne.mpr
      split at hn4 <;> omega
    rw [if_neg (show ¬ (false = true ∧ okB RW RH RP = true) by simp), if_neg (show ¬ ((30 : Int) = 0) by decide)] at hR
    subst hR
    clear hvs hn4
    have m0 : W4a.cell? ⟨b12, 0, none⟩ = some (.int .i64 0) := (blk_cell (blk_below HZ12.out HD4a.out) 0).trans rfl
    have m1 : W4a.cell? ⟨b12, 1, none⟩ = some (.int .i64 0) := (blk_cell (blk_below HZ12.out HD4a.out) 1).trans rfl
    have m2 : W4a.cell? ⟨b12, 2, none⟩ = some (.slice none 0 0) := (blk_cell (blk_below HZ12.out HD4a.out) 2).trans rfl
    have k0 := blk_frozen (blk_below HZ12.out HD4a.out) 0
    have k1 := blk_frozen (blk_below HZ12.out HD4a.out) 1
    have k2 := blk_frozen (blk_below HZ12.out HD4a.out) 2
    have HZW := Aside0.mk (zset3 (blk_below HZ12.out HD4a.out) (.int .i64 0) (.int .i64 0) (.slice none 0 0))
    have hP := GPost.bad (At := DecAt) (w := w) (S := S) (gd := gd) (s := s) (b := b12) 30 (HIS.out _ HD4a.out) HS.out HB12.out.1
    go_wp2_with (fail)
    exact bodyPost_ret (gret36 HZW.out rfl rfl) rfl hP
  have hsz := okS_iff.1 hvs
  have HBN := Aside0.mk (bm_new hvs)
  rw [if_pos (show true = true from rfl)] at hn4
  subst hn4
  have har := area hsz.1 hsz.2.1 hsz.2.2.1 hsz.2.2.2.1
  clear hvs
  have HR := Aside0.mk hR
  clear hR
  have q110 : W4a.cell? ⟨b11, 0, none⟩ = some (.int .i64 RW) := (blk_cell (blk_below HZ11.out HD4a.out) 0).trans rfl
  have q111 : W4a.cell? ⟨b11, 1, none⟩ = some (.int .i64 RH) := (blk_cell (blk_below HZ11.out HD4a.out) 1).trans rfl
  have q112 : W4a.cell? ⟨b11, 2, none⟩ = some (.slice AR RP.length cR) := (blk_cell (blk_below HZ11.out HD4a.out) 2).trans rfl
  go_wp2_with (fail)
  clear hW4a
  obtain ⟨K2, hK2⟩ := Ev.rounds (bvalid_ev RW RH RP hmR)
  refine (bitmap_Valid.calls K2 RW RH AR cR RP _ _ (HA.out _ (HM2.out.below HD4a.out)) hcR hK2).mono ?_
  rintro e W5 ⟨rfl, hb⟩
  have HD5 := Aside0.mk (below_drew (below_then HD4a.out HD4a.out.size hb))
  have HD5' := Aside0.mk (below_then HD4a.out HD4a.out.size hb)
  clear hb hK2 q110 q111 q112
  obtain ⟨vr, hvr⟩ : ∃ x, okB RW RH RP = x := ⟨_, rfl⟩
  have hR := HR.out
  clear HR
  rw [hvr] at hR ⊢
  cases vr
  · rw [if_neg (show ¬ (True ∧ false = true) by simp), if_neg (show ¬ ((30 : Int) = 0) by decide)] at hR
    subst hR
    clear hvr
    have m0 : W5.cell? ⟨b12, 0, none⟩ = some (.int .i64 0) := (blk_cell (blk_below HZ12.out HD5'.out) 0).trans rfl
    have m1 : W5.cell? ⟨b12, 1, none⟩ = some (.int .i64 0) := (blk_cell (blk_below HZ12.out HD5'.out) 1).trans rfl
    have m2 : W5.cell? ⟨b12, 2, none⟩ = some (.slice none 0 0) := (blk_cell (blk_below HZ12.out HD5'.out) 2).trans rfl
    have k0 := blk_frozen (blk_below HZ12.out HD5'.out) 0
    have k1 := blk_frozen (blk_below HZ12.out HD5'.out) 1
    have k2 := blk_frozen (blk_below HZ12.out HD5'.out) 2
    have HZW := Aside0.mk (zset3 (blk_below HZ12.out HD5'.out) (.int .i64 0) (.int .i64 0) (.slice none 0 0))
    have hP := GPost.bad (At := DecAt) (w := w) (S := S) (gd := gd) (s := s) (b := b12) 30 (HIS.out _ HD5'.out) HS.out HB12.out.1
    go_wp2_with (fail)
    exact bodyPost_ret (gret36 HZW.out rfl rfl) rfl hP
  have HBR := Aside0.mk (okB_bm HbR.out hvr).1
  clear hvr
  rw [if_pos (show True ∧ true = true from ⟨trivial, rfl⟩)] at hR
  obtain ⟨FT, hFT⟩ : ∃ x, okF s.st.length base t = x := ⟨_, rfl⟩
  rw [hFT] at hR
  have HR := Aside0.mk hR
  have HFF := Aside0.mk hFT
  clear hR hFT
  go_wp2_with (fail)
  refine start_ (n := 6) (S := fun w' => w'.cell? ⟨b8, 0, none⟩ = some (.int .i64 t) ∧ w'.cell? ⟨b8, 1, none⟩ = some (.int .i64 dx) ∧ w'.cell? ⟨b8, 2, none⟩ = some (.int .i64 dy) ∧ w'.cell? ⟨b8, 3, none⟩ = some (.bool ty) ∧ w'.cell? ⟨b8, 4, none⟩ = some (.int .i64 kd)) (ds := []) #[N',N',N',N',N',N'] (by kernel_rfl) rfl rfl ⟨(blk_cell (blk_below HZ8.out HD5.out) 0).trans rfl, (blk_cell (blk_below HZ8.out HD5.out) 1).trans rfl, (blk_cell (blk_below HZ8.out HD5.out) 2).trans rfl, (blk_cell (blk_below HZ8.out HD5.out) 3).trans rfl, (blk_cell (blk_below HZ8.out HD5.out) 4).trans rfl⟩ (fun hHeld => ?_)
  refine pure_ (i := 0) (N := some 48) (v := ?_) (a' := ?_) #[Y',N',N',N',N',N'] rfl rfl (by kernel_rfl) (fun _ _ _ h => h) (Or.inl ⟨by rfl, ?_⟩) ?_ ?_; rotate_left; (intro w'; go_simp; with_reducible rfl); rotate_left; (simp only [Act.put, p1', p2', p3', i64_w, i32_w]; rfl)
  refine pure_ (i := 2) (N := some 50) (v := ?_) (a' := ?_) #[Y',N',Y',N',N',N'] rfl rfl (by kernel_rfl) (fun _ _ _ h => h) (Or.inl ⟨by rfl, ?_⟩) ?_ ?_; rotate_left; (intro w'; go_simp; with_reducible rfl); rotate_left; (simp only [Act.put, p1', p2', p3', i64_w, i32_w]; rfl)
  refine take_ (i := 3) (N := some 51) (v := ?_) (a' := ?_) #[Y',N',Y',Y',N',N'] rfl rfl (by kernel_rfl) (fun _ _ _ h => h) (Or.inl ⟨by rfl, ?_⟩) hHeld ?_ ?_; rotate_left; (rintro w' ⟨s0, s1, s2, s3, s4⟩; go_simp; with_reducible rfl); rotate_left; (simp only [Act.put, p1', p2', p3', i64_w, i32_w]; rfl)
  refine one_ (i := 1) (N := some 49) #[Y',Y',Y',Y',N',N'] rfl rfl (by kernel_rfl) (by decide) (fun K hK => ?_)
  refine goes_ Try.func81 (by kernel_rfl) rfl #[.pointer (some ⟨gd, 0, none⟩)] (by rfl) rfl rfl (by simp only [List.map_toArray, List.map_cons, List.map_nil]; rfl) ?_
  with_reducible refine (dec_model_calls _ _ _ _ (HD.out.below HD5.out) HOK.out).mono ?_
  rintro e W6 ⟨A6, c6, rfl, hM6, hb⟩
  refine ⟨_, rfl, ?_⟩
  have HD6 := Aside0.mk (below_then HD5.out HD5.out.size hb)
  have hc6 := (Kd.R_reads' hM6).2.1
  have HM6 := Aside0.mk (Kd.R_reads' hM6).2.2
  clear hb hM6
  refine hK.out _ _ ⟨(blk_cell (blk_below HZ8.out HD6.out) 0).trans rfl, (blk_cell (blk_below HZ8.out HD6.out) 1).trans rfl, (blk_cell (blk_below HZ8.out HD6.out) 2).trans rfl, (blk_cell (blk_below HZ8.out HD6.out) 3).trans rfl, (blk_cell (blk_below HZ8.out HD6.out) 4).trans rfl⟩ (fun hHeld => ?_)
  clear hK K
  refine norm_ (a' := ?_) ?_ ?_; rotate_left; (show Act.put _ (some 49) _ = _; simp only [Act.put, p1', p2', p3', i64_w, i32_w]; rfl)
  refine one_ (i := 4) (N := some 52) #[Y',Y',Y',Y',Y',N'] rfl rfl (by kernel_rfl) (by decide) (fun K hK => ?_)
  refine goes_ Try.func57 (by kernel_rfl) rfl #[.agg #[.int .i64 s.kind, .slice A6 s.st.length c6], .int .i64 base, .agg #[.int .i64 t, .int .i64 dx, .int .i64 dy, .bool ty, .int .i64 kd]] (by rfl) rfl rfl (by simp only [List.map_toArray, List.map_cons, List.map_nil]; rfl) ?_
  with_reducible refine (Hsm.fits_calls s.kind A6 c6 s.st hst base t dx dy ty kd FT HFF.out _).mono ?_
  rintro e W7 ⟨rfl, hb⟩
  refine ⟨_, rfl, ?_⟩
  have HD7 := Aside0.mk (below_then HD6.out HD6.out.size hb)
  clear hb
  refine hK.out _ _ ⟨(blk_cell (blk_below HZ8.out HD7.out) 0).trans rfl, (blk_cell (blk_below HZ8.out HD7.out) 1).trans rfl, (blk_cell (blk_below HZ8.out HD7.out) 2).trans rfl, (blk_cell (blk_below HZ8.out HD7.out) 3).trans rfl, (blk_cell (blk_below HZ8.out HD7.out) 4).trans rfl⟩ (fun hHeld => ?_)
  clear hK K
  refine norm_ (a' := ?_) ?_ ?_; rotate_left; (show Act.put _ (some 52) _ = _; simp only [Act.put, p1', p2', p3', i64_w, i32_w]; rfl)
  refine pure_ (i := 5) (N := some 53) (v := ?_) (a' := ?_) #[Y',Y',Y',Y',Y',Y'] rfl rfl (by kernel_rfl) (fun _ _ _ h => h) (Or.inl ⟨by rfl, ?_⟩) ?_ ?_; rotate_left; (intro w'; go_simp; with_reducible rfl); rotate_left; (simp only [Act.put, p1', p2', p3', i64_w, i32_w]; rfl)
  refine done_ (by kernel_rfl) ?_
  have hR := HR.out
  clear HR
  cases FT
  · rw [if_neg (show ¬ (false = true) by decide), if_neg (show ¬ ((2 : Int) = 0) by decide)] at hR
    subst hR
    have m0 : W7.cell? ⟨b12, 0, none⟩ = some (.int .i64 0) := (blk_cell (blk_below HZ12.out HD7.out) 0).trans rfl
    have m1 : W7.cell? ⟨b12, 1, none⟩ = some (.int .i64 0) := (blk_cell (blk_below HZ12.out HD7.out) 1).trans rfl
    have m2 : W7.cell? ⟨b12, 2, none⟩ = some (.slice none 0 0) := (blk_cell (blk_below HZ12.out HD7.out) 2).trans rfl
    have k0 := blk_frozen (blk_below HZ12.out HD7.out) 0
    have k1 := blk_frozen (blk_below HZ12.out HD7.out) 1
    have k2 := blk_frozen (blk_below HZ12.out HD7.out) 2
    have HZW := Aside0.mk (zset3 (blk_below HZ12.out HD7.out) (.int .i64 0) (.int .i64 0) (.slice none 0 0))
    have hP := GPost.bad (At := DecAt) (w := w) (S := S) (gd := gd) (s := s) (b := b12) 2 (HIS.out _ HD7.out) HS.out HB12.out.1
    go_wp2_with (fail)
    exact bodyPost_ret (gret36 HZW.out rfl rfl) rfl hP
  rw [if_pos (show true = true from rfl), if_pos (show (0 : Int) = 0 from rfl)] at hR
  have hff := okF_iff.1 HFF.out
  obtain ⟨nP, hnp⟩ : ∃ n, (W * H).toNat = n := ⟨_, rfl⟩
  rw [hnp] at hR
  have hwh : W * H = (nP : Int) := by omega
  rw [hnp] at HBN
  have HR := Aside0.mk hR
  have HNP := Aside0.mk (show wrap64 (W * H) = (nP : Int) by rw [hwh, wrap_id] <;> omega)
  have hnP : nP ≤ 1000000 := by omega
  clear hR hnp hwh
  go_wp2_with (fail)
  have HW7d := Aside0.mk (show w.heap.size ≤ W7.drew.heap.size ∧ Below W2.heap.size W2 W7.drew from ⟨Nat.le_trans HM2.out.size (below_drew HD7.out).size, below_drew HD7.out⟩)
  refine start_ (n := 10) (S := fun w' => w'.cell? ⟨b8, 0, none⟩ = some (.int .i64 t) ∧ w'.cell? ⟨b8, 1, none⟩ = some (.int .i64 dx) ∧ w'.cell? ⟨b8, 2, none⟩ = some (.int .i64 dy) ∧ w'.cell? ⟨b8, 3, none⟩ = some (.bool ty) ∧ w'.cell? ⟨b8, 4, none⟩ = some (.int .i64 kd) ∧ w'.cell? ⟨b11, 0, none⟩ = some (.int .i64 RW) ∧ w'.cell? ⟨b11, 1, none⟩ = some (.int .i64 RH) ∧ w'.cell? ⟨b11, 2, none⟩ = some (.slice AR RP.length cR)) (ds := []) #[N',N',N',N',N',N',N',N',N',N'] (by kernel_rfl) rfl rfl ⟨(blk_cell (blk_below HZ8.out HW7d.out.2) 0).trans rfl, (blk_cell (blk_below HZ8.out HW7d.out.2) 1).trans rfl, (blk_cell (blk_below HZ8.out HW7d.out.2) 2).trans rfl, (blk_cell (blk_below HZ8.out HW7d.out.2) 3).trans rfl, (blk_cell (blk_below HZ8.out HW7d.out.2) 4).trans rfl, (blk_cell (blk_below HZ11.out HW7d.out.2) 0).trans rfl, (blk_cell (blk_below HZ11.out HW7d.out.2) 1).trans rfl, (blk_cell (blk_below HZ11.out HW7d.out.2) 2).trans rfl⟩ (fun hHeld => ?_)
  refine pure_ (i := 1) (N := some 56) (v := ?_) (a' := ?_) #[N',Y',N',N',N',N',N',N',N',N'] rfl rfl (by kernel_rfl) (fun _ _ _ h => h) (Or.inl ⟨by rfl, ?_⟩) ?_ ?_; rotate_left; (intro w'; go_simp; with_reducible rfl); rotate_left; (simp only [Act.put, p1', p2', p3', i64_w, i32_w]; rfl)
  refine pure_ (i := 2) (N := some 57) (v := ?_) (a' := ?_) #[N',Y',Y',N',N',N',N',N',N',N'] rfl rfl (by kernel_rfl) (fun _ _ _ h => h) (Or.inl ⟨by rfl, ?_⟩) ?_ ?_; rotate_left; (intro w'; go_simp; with_reducible rfl); rotate_left; (simp only [Act.put, p1', p2', p3', i64_w, i32_w]; rfl)
  refine pure_ (i := 3) (N := some 58) (v := ?_) (a' := ?_) #[N',Y',Y',Y',N',N',N',N',N',N'] rfl rfl (by kernel_rfl) (fun _ _ _ h => h) (Or.inl ⟨by rfl, ?_⟩) ?_ ?_; rotate_left; (intro w'; go_simp; with_reducible rfl); rotate_left; (simp only [Act.put, p1', p2', p3', i64_w, i32_w]; rfl)
  refine pure_ (i := 4) (N := some 59) (v := ?_) (a' := ?_) #[N',Y',Y',Y',Y',N',N',N',N',N'] rfl rfl (by kernel_rfl) (fun _ _ _ h => h) (Or.inl ⟨by rfl, ?_⟩) ?_ ?_; rotate_left; (intro w'; go_simp; with_reducible rfl); rotate_left; (simp only [Act.put, p1', p2', p3', i64_w, i32_w]; rfl)
  refine pure_ (i := 5) (N := some 60) (v := ?_) (a' := ?_) #[N',Y',Y',Y',Y',Y',N',N',N',N'] rfl rfl (by kernel_rfl) (fun _ _ _ h => h) (Or.inl ⟨by rfl, ?_⟩) ?_ ?_; rotate_left; (intro w'; go_simp; with_reducible rfl); rotate_left; (simp only [Act.put, p1', p2', p3', i64_w, i32_w]; rfl)
  refine take_ (i := 0) (N := some 55) (v := ?_) (a' := ?_) #[Y',Y',Y',Y',Y',Y',N',N',N',N'] rfl rfl (by kernel_rfl) (fun _ _ _ h => h) (Or.inl ⟨by rfl, ?_⟩) hHeld ?_ ?_; rotate_left; (rintro w' ⟨s0, s1, s2, s3, s4, s5, s6, s7⟩; go_simp; with_reducible rfl); rotate_left; (simp only [Act.put, p1', p2', p3', i64_w, i32_w]; rfl)
  refine take_ (i := 7) (N := some 62) (v := ?_) (a' := ?_) #[Y',Y',Y',Y',Y',Y',N',Y',N',N'] rfl rfl (by kernel_rfl) (fun _ _ _ h => h) (Or.inl ⟨by rfl, ?_⟩) hHeld ?_ ?_; rotate_left; (rintro w' ⟨s0, s1, s2, s3, s4, s5, s6, s7⟩; go_simp; with_reducible rfl); rotate_left; (simp only [Act.put, p1', p2', p3', i64_w, i32_w]; rfl)
  refine one_ (i := 6) (N := some 61) #[Y',Y',Y',Y',Y',Y',Y',Y',N',N'] rfl rfl (by kernel_rfl) (by decide) (fun K hK => ?_)
  refine value_ (w1 := ?_) (v := ?_) (by rfl) rfl ?_ ?_
  rotate_left 2
  · refine make_step _ (.tmp 60) (.tmp 60) ?_ (wrap64 (W * H)) nP ?_ ?_ HNP.out hnP <;> rfl
  obtain ⟨gp, hgp⟩ : ∃ x, W7.drew.heap.size = x := ⟨_, rfl⟩
  obtain ⟨W8, hW8⟩ : ∃ x, W7.drew.alloc (.cells (zcells nP) 5) = x := ⟨_, rfl⟩
  have HROW := Aside0.mk (show Kd.R (Kd.int .u8) 5 W8 w.heap.size (fun k => k = gp) (.slice (some ⟨gp, 0, none⟩) nP nP) (List.replicate nP 0) from hW8 ▸ hgp ▸ made_row W7.drew w.heap.size nP HW7d.out.1 hnP)
  have HD8 := Aside0.mk (show Below W2.heap.size W2 W8 from hW8 ▸ below_alloc HW7d.out.2 _)
  have HGP := Aside0.mk (show W7.drew.heap.size ≤ gp ∧ gp < W8.heap.size from ⟨by omega, by rw [← hW8, World.size_alloc]; omega⟩)
  rw [hgp, hW8]
  clear hW8 hgp
  refine hK.out _ _ ⟨(blk_cell (blk_below HZ8.out HD8.out) 0).trans rfl, (blk_cell (blk_below HZ8.out HD8.out) 1).trans rfl, (blk_cell (blk_below HZ8.out HD8.out) 2).trans rfl, (blk_cell (blk_below HZ8.out HD8.out) 3).trans rfl, (blk_cell (blk_below HZ8.out HD8.out) 4).trans rfl, (blk_cell (blk_below HZ11.out HD8.out) 0).trans rfl, (blk_cell (blk_below HZ11.out HD8.out) 1).trans rfl, (blk_cell (blk_below HZ11.out HD8.out) 2).trans rfl⟩ (fun hHeld => ?_)
  clear hK K
  refine norm_ (a' := ?_) ?_ ?_; rotate_left; (show Act.put _ (some 61) _ = _; simp only [Act.put, p1', p2', p3', i64_w, i32_w]; rfl)
  refine one_ (i := 8) (N := some 63) #[Y',Y',Y',Y',Y',Y',Y',Y',Y',N'] rfl rfl (by kernel_rfl) (by decide) (fun K hK => ?_)
  refine goes_ Try.func58 (by kernel_rfl) rfl #[.agg #[.int .i64 t, .int .i64 dx, .int .i64 dy, .bool ty, .int .i64 kd], .int .i64 W, .int .i64 H, .slice (some ⟨gp, 0, none⟩) nP nP, .agg #[.int .i64 RW, .int .i64 RH, .slice AR RP.length cR]] (by rfl) rfl rfl (by simp only [List.map_toArray, List.map_cons, List.map_nil]; rfl) ?_
  with_reducible refine (newRegion_calls _ t dx dy ty kd W H _ RW RH _ (some ⟨gp, 0, none⟩) nP nP AR RP.length cR rfl rfl).mono ?_
  rintro e W9 ⟨gr, rfl, hgr, hZg, hb⟩
  refine ⟨_, rfl, ?_⟩
  have HD9 := Aside0.mk (below_then HD8.out HD8.out.size hb)
  have HROW := Aside0.mk (Kd.R_below HROW.out hb)
  have HGR := Aside0.mk hgr
  have HZG := Aside0.mk hZg
  clear hb hgr hZg
  refine hK.out _ _ ⟨(blk_cell (blk_below HZ8.out HD9.out) 0).trans rfl, (blk_cell (blk_below HZ8.out HD9.out) 1).trans rfl, (blk_cell (blk_below HZ8.out HD9.out) 2).trans rfl, (blk_cell (blk_below HZ8.out HD9.out) 3).trans rfl, (blk_cell (blk_below HZ8.out HD9.out) 4).trans rfl, (blk_cell (blk_below HZ11.out HD9.out) 0).trans rfl, (blk_cell (blk_below HZ11.out HD9.out) 1).trans rfl, (blk_cell (blk_below HZ11.out HD9.out) 2).trans rfl⟩ (fun hHeld => ?_)
  clear hK K
  refine norm_ (a' := ?_) ?_ ?_; rotate_left; (show Act.put _ (some 63) _ = _; simp only [Act.put, p1', p2', p3', i64_w, i32_w]; rfl)
  refine pure_ (i := 9) (N := some 18) (v := ?_) (a' := ?_) #[Y',Y',Y',Y',Y',Y',Y',Y',Y',Y'] rfl rfl (by kernel_rfl) (fun _ _ _ h => h) (Or.inl ⟨by rfl, ?_⟩) ?_ ?_; rotate_left; (intro w'; go_simp; with_reducible rfl); rotate_left; (simp only [Act.put, p1', p2', p3', i64_w, i32_w]; rfl)
  refine done_ (by kernel_rfl) ?_
  have HW12 := Aside0.mk (Nat.le_trans HM2.out.size HD9.out.size)
  obtain ⟨T, hT⟩ : ∃ T : Nat → Prop, (fun k => k = gp) = T := ⟨_, rfl⟩
  have HT2 := Aside0.mk (show ∀ k, T k → k = gp from hT ▸ fun k hk => hk)
  have hgp1 : W2.heap.size ≤ gp := Nat.le_trans HW7d.out.2.size HGP.out.1
  have hwg : w.heap.size ≤ gp := Nat.le_trans HM2.out.size hgp1
  have HST := Aside0.mk (show ∀ k, T k → ¬ S k from fun k hk hs => by have := HT2.out k hk; have := HS.out k hs; omega)
  have HS9 := Aside0.mk (show ∀ k, S k → k < W9.heap.size from fun k hk => Nat.lt_of_lt_of_le (HS.out k hk) HW12.out)
  have HX := Aside0.mk (show GX DecAt W9 S T w.heap.size gd s (.slice (some ⟨gp, 0, none⟩) nP nP) (List.replicate nP 0) W9 from ⟨HD.out.below HD9.out, hT ▸ HROW.out, Mods.refl _ _, HOK.out⟩)
  have HM9 := Aside0.mk (show ∀ V, Mods W9 V (fun k => S k ∨ T k) → Mods w V S from fun V hV => (HM2.out.below HD9.out).then_ hV (fun k hk => hk.imp id (fun h => by rw [HT2.out k h]; exact hwg)))
  have HNO := Aside0.mk (show ∀ b, w.heap.size ≤ b → b ≠ gp → ¬ (S b ∨ T b) from fun b h1 h2 hk => hk.elim (fun h => by have := HS.out b h; omega) (fun h => h2 (HT2.out b h)))
  have HZ12 := Aside0.mk (show ∀ V, Mods W9 V (fun k => S k ∨ T k) → V.heap[b12]? = some (.cells #[.int .i64 0, .int .i64 0, .slice none 0 0] 31 (0, 0)) from fun V hV => blk_mods (blk_below HZ12.out HD9.out) hV (HNO.out _ HB12.out.1 (by have := HB12.out.2; have := HS1.out; omega)))
  have HZG := Aside0.mk (show ∀ V, Mods W9 V (fun k => S k ∨ T k) → V.heap[gr]? = some (.cells (regc t dx dy ty kd W H (.slice (some ⟨gp, 0, none⟩) nP nP) RW RH (.slice AR RP.length cR)) 109 (0, 0)) from fun V hV => blk_mods HZG.out hV (HNO.out _ (by have := HGR.out; have := HGP.out.2; omega) (by have := HGR.out; have := HGP.out.2; omega)))
  obtain ⟨R1, hR1⟩ : ∃ x, rowsD q H.toNat 0 s (List.replicate nP 0) = x := ⟨_, rfl⟩
  have hR := HR.out
  rw [hR1] at hR
  have HR1 := Aside0.mk (show rowsD q (H.toNat - 0) 0 s (List.replicate nP 0) = R1 from hR1)
  have HR := Aside0.mk hR
  have HL0 := Aside0.mk (show (List.replicate nP (0 : Int)).length = nP from List.length_replicate)
  clear hR hR1 hT HROW hwg HD3 HD4 HD4a HD5 HD5' HD6 HD7 HD8 HM6
  go_wp2_with (fail)
  go_loopw [65] (fun j wr => ∃ (k : Nat) (s1 : DS) (P1 : List Int), k ≤ H.toNat ∧ j = .int .i64 k ∧ Aside0 (rowsD q (H.toNat - k) k s1 P1 = R1) ∧ Aside0 (P1.length = nP) ∧ Aside0 (Bm W H P1) ∧ Aside0 (GX DecAt W9 S T w.heap.size gd s1 (.slice (some ⟨gp, 0, none⟩) nP nP) P1 wr)) (fun j _ => H.toNat - (intOf j).toNat)
  case atStart => exact ⟨0, s, _, Nat.zero_le _, rfl, HR1, HL0, HBN, HX⟩
  clear HR1 HL0 HBN HX
  case round =>
    obtain ⟨k, s1, P1, hk, rfl, HX1, HL, HBM, HX⟩ := hrel
    by_cases hlt : k < H.toNat
    · have hltk : (k : Int) < H := by omega
      have hX := HX1.out
      rw [show H.toNat - k = (H.toNat - (k + 1)) + 1 by omega] at hX
      unfold rowsD at hX
      obtain ⟨⟨s3, P3, er⟩, hrr⟩ : ∃ r, rowH q (k : Int) s1 P1 = r := ⟨_, rfl⟩
      have hl3 := (rowH_len q (k : Int) s1 P1).1
      have hb3 := rowH_bm q (by rw [HQQ.out]; exact HBR.out) (k : Int) s1 P1 (by rw [HQQ.out]; exact HBM.out)
      rw [hrr] at hX hl3 hb3
      simp only at hX hl3 hb3
      have HX2 := Aside0.mk hX
      have HRR := Aside0.mk hrr
      have HL3 := Aside0.mk (hl3.trans HL.out)
      have HB3 := Aside0.mk (show Bm W H P3 by rw [HQQ.out] at hb3; exact hb3)
      clear hX hrr hl3 hb3 HX1
      go_wp2_with (fail)
      refine (rrow_calls W9 wr S T w.heap.size gd gr s1 base t dx dy ty kd W H (some ⟨gp, 0, none⟩) nP nP P1 RW RH AR cR RP k HZG.out (fun V hV => HA.out V (HM9.out V hV)) hcR HS9.out HST.out HX.out HL.out HBM.out HBR.out HT.out (by have := HOO.out; omega) (by have := HOO.out; omega) ⟨hff.1, by have := ctxs_range t; omega⟩ hltk q HQQ.out _ HRR.out).mono ?_
      rintro e V2 ⟨rfl, hx⟩
      have HX := Aside0.mk hx
      clear hx HRR
      have hX := HX2.out
      clear HX2
      simp only
      by_cases her : er = 0
      · rw [if_pos her] at hX
        have e1 : (er != 0) = false := by simp [her]
        have HX2 := Aside0.mk hX
        clear hX her
        go_wp2_with (fail)
        exact ⟨⟨k + 1, s3, P3, by omega, by go_num, HX2, HL3, HB3, HX⟩, by simp [intOf]; omega⟩
      · rw [if_neg her] at hX
        have e1 : (er != 0) = true := bne_iff_ne.mpr her
        have hR := HR.out
        rw [← hX] at hR
        simp only at hR
        rw [if_neg her] at hR
        subst hR
        have hz := HZ12.out _ HX.out.m
        have m0 : V2.cell? ⟨b12, 0, none⟩ = some (.int .i64 0) := (blk_cell hz 0).trans rfl
        have m1 : V2.cell? ⟨b12, 1, none⟩ = some (.int .i64 0) := (blk_cell hz 1).trans rfl
        have m2 : V2.cell? ⟨b12, 2, none⟩ = some (.slice none 0 0) := (blk_cell hz 2).trans rfl
        have k0 := blk_frozen hz 0
        have k1 := blk_frozen hz 1
        have k2 := blk_frozen hz 2
        have HZW := Aside0.mk (zset3 hz (.int .i64 0) (.int .i64 0) (.slice none 0 0))
        have hP := GPost.bad (At := DecAt) (w := w) (S := S) (gd := gd) (s := s3) (b := b12) er ⟨HX.out.d, HM9.out _ HX.out.m, HX.out.ok⟩ HS.out HB12.out.1
        clear hX her hz
        go_wp2_with (fail)
        exact bodyPost_ret (gret36 HZW.out rfl rfl) rfl hP
    · have hX := HX1.out
      rw [show H.toNat - k = 0 by omega] at hX
      simp only [rowsD] at hX
      have hR := HR.out
      rw [← hX] at hR
      simp only [if_true] at hR
      subst hR
      have hz := HZ12.out _ HX.out.m
      have m0 : wr.cell? ⟨b12, 0, none⟩ = some (.int .i64 0) := (blk_cell hz 0).trans rfl
      have m1 : wr.cell? ⟨b12, 1, none⟩ = some (.int .i64 0) := (blk_cell hz 1).trans rfl
      have m2 : wr.cell? ⟨b12, 2, none⟩ = some (.slice none 0 0) := (blk_cell hz 2).trans rfl
      have k0 := blk_frozen hz 0
      have k1 := blk_frozen hz 1
      have k2 := blk_frozen hz 2
      have HZW := Aside0.mk (zset3 hz (.int .i64 W) (.int .i64 H) (.slice (some ⟨gp, 0, none⟩) nP nP))
      have c7 : wr.cell? ⟨gr, 7, none⟩ = some (.slice (some ⟨gp, 0, none⟩) nP nP) := (blk_cell (HZG.out _ HX.out.m) 7).trans rfl
      have hP : GPost DecAt w S gd (s1, (W, H, P1), 0) (.returned (.tuple #[.agg #[.int .i64 W, .int .i64 H, .slice (some ⟨gp, 0, none⟩) nP nP], .int .i64 0])) (((wr.setCell ⟨b12, 0, none⟩ (.int .i64 W)).setCell ⟨b12, 1, none⟩ (.int .i64 H)).setCell ⟨b12, 2, none⟩ (.slice (some ⟨gp, 0, none⟩) nP nP)) := by
        have hne : ∀ k, T k → k ≠ b12 := fun k hk he => by have := HT2.out k hk; have := HB12.out.2; have := HS1.out; omega
        have hp := Kd.R_far (p := ⟨b12, 2, none⟩) (Kd.R_far (p := ⟨b12, 1, none⟩) (Kd.R_far (p := ⟨b12, 0, none⟩) HX.out.p hne (.int .i64 W)) hne (.int .i64 H)) hne (.slice (some ⟨gp, 0, none⟩) nP nP)
        have hl := HL.out
        refine ⟨some ⟨gp, 0, none⟩, nP, by rw [show P1.length = nP from hl], by rw [show P1.length = nP from hl]; exact Kd.R_mono hp (fun _ _ => trivial), ?_⟩
        exact (((⟨HX.out.d, HM9.out _ HX.out.m, HX.out.ok⟩ : IS DecAt w S gd s1 wr).set HS.out _ HB12.out.1 _).set HS.out _ HB12.out.1 _).set HS.out _ HB12.out.1 _
      clear hX hz
      go_wp2_with (fail)
      exact bodyPost_ret (gret36 HZW.out rfl rfl) rfl hP
end Go.Proofs.Ytkfejicdjpffcaa.Rgt
namespace Go.Proofs.Ytkfejicdjpffcaa.Rrg
open Go Go.RowKit Go.Proofs.YtkfejicdjpffcaaW.PrintWords Go.Proofs.YtkfejicdjpffcaaW.PrintLast Go.Proofs.YtkfejicdjpffcaaW.PrintMore Go.Proofs.Ytkfejicdjpffcaa.U Go.Proofs.Ytkfejicdjpffcaa.Aid Go.Proofs.Ytkfejicdjpffcaa.HandAid Go.Proofs.Ytkfejicdjpffcaa.Cod1 Go.Proofs.Ytkfejicdjpffcaa.Cod2 Go.Proofs.Ytkfejicdjpffcaa.Cod3 Go.Proofs.Ytkfejicdjpffcaa.Mod Go.Proofs.Ytkfejicdjpffcaa.NewRef Go.Proofs.Ytkfejicdjpffcaa.Enc Go.Proofs.Ytkfejicdjpffcaa.Mods Go.Proofs.Ytkfejicdjpffcaa.EncAt Go.Proofs.Ytkfejicdjpffcaa.Put Go.Proofs.Ytkfejicdjpffcaa.End Go.Proofs.Ytkfejicdjpffcaa.Snc Go.Proofs.Ytkfejicdjpffcaa.Dec Go.Proofs.Ytkfejicdjpffcaa.Get Go.Proofs.Ytkfejicdjpffcaa.DecNew Go.Proofs.Ytkfejicdjpffcaa.RefAt Go.Proofs.Ytkfejicdjpffcaa.RDec Go.Proofs.Ytkfejicdjpffcaa.RDecNew Go.Proofs.Ytkfejicdjpffcaa.Isk Go.Proofs.Ytkfejicdjpffcaa.Pse Go.Proofs.Ytkfejicdjpffcaa.Rpx Go.Proofs.Ytkfejicdjpffcaa.Rva Go.Proofs.Ytkfejicdjpffcaa.Rfl Go.Proofs.Ytkfejicdjpffcaa.Rcx Go.Proofs.Ytkfejicdjpffcaa.Rty Go.Proofs.Ytkfejicdjpffcaa.Rev Go.Proofs.Ytkfejicdjpffcaa.Rdv Go.Proofs.Ytkfejicdjpffcaa.Rrw Go.Proofs.Ytkfejicdjpffcaa.Rmk Go.Proofs.Ytkfejicdjpffcaa.Rgt
end Go.Proofs.Ytkfejicdjpffcaa.Rrg
namespace Go.Proofs.Ytkfejicdjpffcaa.Rde
open Go Go.RowKit Go.Proofs.YtkfejicdjpffcaaW.PrintWords Go.Proofs.YtkfejicdjpffcaaW.PrintLast Go.Proofs.YtkfejicdjpffcaaW.PrintMore Go.Proofs.Ytkfejicdjpffcaa.U Go.Proofs.Ytkfejicdjpffcaa.Aid Go.Proofs.Ytkfejicdjpffcaa.HandAid Go.Proofs.Ytkfejicdjpffcaa.Cod1 Go.Proofs.Ytkfejicdjpffcaa.Cod2 Go.Proofs.Ytkfejicdjpffcaa.Cod3 Go.Proofs.Ytkfejicdjpffcaa.Mod Go.Proofs.Ytkfejicdjpffcaa.NewRef Go.Proofs.Ytkfejicdjpffcaa.Enc Go.Proofs.Ytkfejicdjpffcaa.Mods Go.Proofs.Ytkfejicdjpffcaa.EncAt Go.Proofs.Ytkfejicdjpffcaa.Put Go.Proofs.Ytkfejicdjpffcaa.End Go.Proofs.Ytkfejicdjpffcaa.Snc Go.Proofs.Ytkfejicdjpffcaa.Dec Go.Proofs.Ytkfejicdjpffcaa.Get Go.Proofs.Ytkfejicdjpffcaa.DecNew Go.Proofs.Ytkfejicdjpffcaa.RefAt Go.Proofs.Ytkfejicdjpffcaa.RDec Go.Proofs.Ytkfejicdjpffcaa.RDecNew Go.Proofs.Ytkfejicdjpffcaa.Isk Go.Proofs.Ytkfejicdjpffcaa.Pse Go.Proofs.Ytkfejicdjpffcaa.Pwk Go.Proofs.Ytkfejicdjpffcaa.Rpx Go.Proofs.Ytkfejicdjpffcaa.Rva Go.Proofs.Ytkfejicdjpffcaa.Rfl Go.Proofs.Ytkfejicdjpffcaa.Rcx Go.Proofs.Ytkfejicdjpffcaa.Rty Go.Proofs.Ytkfejicdjpffcaa.Rev Go.Proofs.Ytkfejicdjpffcaa.Ren Go.Proofs.Ytkfejicdjpffcaa.Rdv Go.Proofs.Ytkfejicdjpffcaa.Rrw Go.Proofs.Ytkfejicdjpffcaa.Rmk Go.Proofs.Ytkfejicdjpffcaa.Rgt Go.Proofs.Ytkfejicdjpffcaa.Rrg
/-- What Decode answers. -/
def decB (q : RQ) (kd : Int) (code : List Int) : (Int × Int × List Int) × Int := if okO q.t q.dx q.dy kd = true then ((getD q kd (newDS kd (List.replicate (ctxs q.t + 1).toNat 0) code)).2.1, (getD q kd (newDS kd (List.replicate (ctxs q.t + 1).toNat 0) code)).2.2) else ((0, 0, []), 2)
def DPost (w : World) (R : (Int × Int × List Int) × Int) (e : Ending) (W : World) : Prop :=
  ∃ A c, e = .returned (.tuple #[.agg #[.int .i64 R.1.1, .int .i64 R.1.2.1, .slice A R.1.2.2.length c], .int .i64 R.2]) ∧ Kd.R (Kd.int .u8) 5 W w.heap.size (fun _ => True) (.slice A R.1.2.2.length c) R.1.2.2 ∧ Below w.heap.size w W
theorem DPost.bad {w W : World} {b : Nat} (err : Int) (h : Below w.heap.size w W) (hb : w.heap.size ≤ b) : DPost w ((0, 0, []), err) (.returned (.tuple #[.agg #[.int .i64 0, .int .i64 0, .slice none 0 0], .int .i64 err])) (((W.setCell ⟨b, 0, none⟩ (.int .i64 0)).setCell ⟨b, 1, none⟩ (.int .i64 0)).setCell ⟨b, 2, none⟩ (.slice none 0 0)) :=
  ⟨none, 0, rfl, Kd.R_nil _ _ _ w.heap.size (fun _ => True), ((h.setCell hb _).setCell hb _).setCell hb _⟩
theorem row_from {α : Type} {d : Kd α} {e : Nat} {W : World} {base : Nat} {ok : Nat → Prop} {v : Value} {xs : List α} (h : Kd.R d e W base ok v xs) : Kd.R d e W base (fun k => base ≤ k ∧ ok k) v xs := Kd.R_mono (Kd.R_bound h) (fun k hk => ⟨hk.2.1, hk.1⟩)
theorem dret19 {W : World} {b : Nat} {x y err : Int} {A : Option Addr} {n c : Nat} {tmps : Array Value} (hz : W.heap[b]? = some (.cells #[.int .i64 x, .int .i64 y, .slice A n c] 31 (0, 0))) (h2 : tmps.getD 10 undef = .pointer (some ⟨b, 0, none⟩)) (h3 : tmps.getD 11 undef = .int .i64 err) :
    (results Try.f19 tmps).run Try.prog W = .ok (.tuple #[.agg #[.int .i64 x, .int .i64 y, .slice A n c], .int .i64 err]) W := by
  have y0 : W.cell? ⟨b, 0, none⟩ = some (.int .i64 x) := (blk_cell hz 0).trans rfl
  have y1 : W.cell? ⟨b, 1, none⟩ = some (.int .i64 y) := (blk_cell hz 1).trans rfl
  have y2 : W.cell? ⟨b, 2, none⟩ = some (.slice A n c) := (blk_cell hz 2).trans rfl
  have hu := Try.underlying31
  rw [results_cell_tmp rfl, h2, h3]
  go_simp
set_option maxHeartbeats 4000000 in
set_option maxRecDepth 100000 in
theorem rdecode_calls (w : World) (t dx dy : Int) (ty : Bool) (kd : Int) (AC : Option Addr) (cC : Nat) (code : List Int) (W H : Int) (RW RH : Int) (AR : Option Addr) (cR : Nat) (RP : List Int) (hdx : -9223372036854775808 ≤ dx ∧ dx ≤ 9223372036854775807) (hdy : -9223372036854775808 ≤ dy ∧ dy ≤ 9223372036854775807) (hC : Kd.C (Kd.int .u8) w AC code.length code) (hcC : code.length ≤ cC) (hbC : Bytes code) (hlen : code.length ≤ 1099511627776) (hA : Kd.C (Kd.int .u8) w AR RP.length RP) (hcR : RP.length ≤ cR) (hbR : Bytes RP) (R : (Int × Int × List Int) × Int) (hR : decB ⟨t, dx, dy, ty, W, H, RW, RH, RP, 0⟩ kd code = R) :
    Calls Try.prog 19 #[.agg #[.int .i64 t, .int .i64 dx, .int .i64 dy, .bool ty, .int .i64 kd], .slice AC code.length cC, .int .i64 W, .int .i64 H, .agg #[.int .i64 RW, .int .i64 RH, .slice AR RP.length cR]] w (DPost w R) := by
  have HC := Aside0.mk hC
  have HA := Aside0.mk hA
  have HbC := Aside0.mk hbC
  have HbR := Aside0.mk hbR
  have hmR : RP.length ≤ 9223372036854775807 := Kd.C_max hA
  obtain ⟨q, hq⟩ : ∃ q : RQ, q = ⟨t, dx, dy, ty, W, H, RW, RH, RP, 0⟩ := ⟨_, rfl⟩
  rw [← hq] at hR
  have HQQ := Aside0.mk hq
  unfold decB at hR
  have e1 : okO q.t q.dx q.dy kd = okO t dx dy kd := by rw [hq]
  have e4 : ctxs q.t = ctxs t := by rw [hq]
  rw [e1, e4] at hR
  have HR := Aside0.mk hR
  have hu3 := Try.underlying23
  have hu4 := Try.underlying31
  have hu5 := Try.underlying45
  clear hC hA hbC hbR hR hq e1 e4
  go_enter Try.func19, Try.ntmps19
  go_wp2_with (fail)
  obtain ⟨b10, hb10⟩ : ∃ x, w.heap.size + 1 + 1 = x := ⟨_, rfl⟩
  obtain ⟨b9, hb9⟩ : ∃ x, w.heap.size + 1 = x := ⟨_, rfl⟩
  obtain ⟨b5, hb5⟩ : ∃ x, w.heap.size = x := ⟨_, rfl⟩
  obtain ⟨W1, hW1⟩ : ∃ x, ((w.alloc (.cells #[.int .i64 t, .int .i64 dx, .int .i64 dy, .bool ty, .int .i64 kd] 23)).alloc (.cells #[.int .i64 RW, .int .i64 RH, .slice AR RP.length cR] 31)).alloc (.cells #[.int .i64 0, .int .i64 0, .slice none 0 0] 31) = x := ⟨_, rfl⟩
  have HB1 := Aside0.mk (show Below w.heap.size w W1 from hW1 ▸ below_alloc (below_alloc (below_alloc (Below.refl _ _) _) _) _)
  have HZ10 := Aside0.mk (show W1.heap[b10]? = some (.cells #[.int .i64 0, .int .i64 0, .slice none 0 0] 31 (0, 0)) by
    have h := heap_new ((w.alloc (.cells #[.int .i64 t, .int .i64 dx, .int .i64 dy, .bool ty, .int .i64 kd] 23)).alloc (.cells #[.int .i64 RW, .int .i64 RH, .slice AR RP.length cR] 31)) (.cells #[.int .i64 0, .int .i64 0, .slice none 0 0] 31)
    rw [World.size_alloc, World.size_alloc, hb10, hW1] at h
    exact h)
  have HZ9 := Aside0.mk (show W1.heap[b9]? = some (.cells #[.int .i64 RW, .int .i64 RH, .slice AR RP.length cR] 31 (0, 0)) by
    have h := heap_new (w.alloc (.cells #[.int .i64 t, .int .i64 dx, .int .i64 dy, .bool ty, .int .i64 kd] 23)) (.cells #[.int .i64 RW, .int .i64 RH, .slice AR RP.length cR] 31)
    rw [World.size_alloc, hb9] at h
    rw [← hW1]
    exact blk_alloc h _)
  have HZ5 := Aside0.mk (show W1.heap[b5]? = some (.cells #[.int .i64 t, .int .i64 dx, .int .i64 dy, .bool ty, .int .i64 kd] 23 (0, 0)) by
    have h := heap_new w (.cells #[.int .i64 t, .int .i64 dx, .int .i64 dy, .bool ty, .int .i64 kd] 23)
    rw [hb5] at h
    rw [← hW1]
    exact blk_alloc (blk_alloc h _) _)
  have HG10 := Aside0.mk (show w.heap.size ≤ b10 ∧ b10 < W1.heap.size from ⟨by omega, blk_lt HZ10.out⟩)
  rw [hb10, hb9, hb5, hW1]
  have HD1 := Aside0.mk (Below.refl W1.heap.size W1)
  clear hb10 hb9 hb5 hW1
  refine (refine_Valid.calls t dx dy ty kd _ _ (valid_eq t dx dy ty kd hdx hdy)).mono ?_
  rintro e W3 ⟨rfl, hb⟩
  have HD3 := Aside0.mk hb
  clear hb
  have hR := HR.out
  clear HR
  obtain ⟨vo, hvo⟩ : ∃ x, okO t dx dy kd = x := ⟨_, rfl⟩
  rw [hvo] at hR ⊢
  cases vo
  · rw [if_neg (show ¬ (false = true) by decide)] at hR
    subst hR
    clear hvo
    have hz := blk_below HZ10.out HD3.out
    have m0 : W3.cell? ⟨b10, 0, none⟩ = some (.int .i64 0) := (blk_cell hz 0).trans rfl
    have m1 : W3.cell? ⟨b10, 1, none⟩ = some (.int .i64 0) := (blk_cell hz 1).trans rfl
    have m2 : W3.cell? ⟨b10, 2, none⟩ = some (.slice none 0 0) := (blk_cell hz 2).trans rfl
    have k0 := blk_frozen hz 0
    have k1 := blk_frozen hz 1
    have k2 := blk_frozen hz 2
    have HZW := Aside0.mk (zset3 hz (.int .i64 0) (.int .i64 0) (.slice none 0 0))
    have hP := DPost.bad (w := w) (b := b10) 2 (below_then HB1.out HB1.out.size HD3.out) HG10.out.1
    clear hz
    go_wp2_with (fail)
    exact bodyPost_ret (dret19 HZW.out rfl rfl) rfl hP
  rw [if_pos (show true = true from rfl)] at hR
  have hk := (okO_iff.1 hvo).2.1
  have HVO := Aside0.mk hvo
  have HMO := Aside0.mk (model_eq t dx dy ty kd hvo)
  have HK := Aside0.mk (stN_ok t kd hk)
  clear hvo hk
  generalize List.replicate (ctxs t + 1).toNat (0 : Int) = st at hR HMO HK
  have HR := Aside0.mk hR
  clear hR
  have q50 : W3.cell? ⟨b5, 0, none⟩ = some (.int .i64 t) := (blk_cell (blk_below HZ5.out HD3.out) 0).trans rfl
  have q51 : W3.cell? ⟨b5, 1, none⟩ = some (.int .i64 dx) := (blk_cell (blk_below HZ5.out HD3.out) 1).trans rfl
  have q52 : W3.cell? ⟨b5, 2, none⟩ = some (.int .i64 dy) := (blk_cell (blk_below HZ5.out HD3.out) 2).trans rfl
  have q53 : W3.cell? ⟨b5, 3, none⟩ = some (.bool ty) := (blk_cell (blk_below HZ5.out HD3.out) 3).trans rfl
  have q54 : W3.cell? ⟨b5, 4, none⟩ = some (.int .i64 kd) := (blk_cell (blk_below HZ5.out HD3.out) 4).trans rfl
  go_wp2_with (fail)
  refine (refine_model.calls t dx dy ty kd kd st _ HMO.out).mono ?_
  rintro e W4 ⟨v, rfl, hRv, hb⟩
  obtain ⟨Am, cm, rfl⟩ := Kd.R_slice hRv
  have HD4 := Aside0.mk (below_then HD3.out HD3.out.size hb)
  have hcm := (Kd.R_reads' hRv).2.1
  have HCM := Aside0.mk (Kd.R_reads' hRv).2.2
  clear hRv hb q50 q51 q52 q53 q54
  go_wp2_with (fail)
  refine (new_dec Am cm kd st AC cC code _ HCM.out hcm HK.out (Kd.C_below HC.out (below_then HB1.out HB1.out.size HD4.out)) hcC HbC.out hlen).mono ?_
  rintro e W5 ⟨g, rfl, hE, hb⟩
  have HD5 := Aside0.mk (below_then HD4.out HD4.out.size hb)
  have HE := Aside0.mk hE
  have HSI := Aside0.mk (show ∀ k, Since W4.heap.size W5 k → W1.heap.size ≤ k from fun k hk => Nat.le_trans HD4.out.size hk.1)
  have HSL := Aside0.mk (show ∀ k, Since W4.heap.size W5 k → k < W5.heap.size from fun k hk => hk.2)
  have HBV := Aside0.mk (show ∀ V, Mods W5 V (Since W4.heap.size W5) → Below W1.heap.size W1 V from fun V hV => below_mods HD5.out hV HSI.out HD5.out.size)
  generalize Since W4.heap.size W5 = S at HE HSI HSL HBV
  clear hE hb HCM hcm
  have q50 : W5.cell? ⟨b5, 0, none⟩ = some (.int .i64 t) := (blk_cell (blk_below HZ5.out HD5.out) 0).trans rfl
  have q51 : W5.cell? ⟨b5, 1, none⟩ = some (.int .i64 dx) := (blk_cell (blk_below HZ5.out HD5.out) 1).trans rfl
  have q52 : W5.cell? ⟨b5, 2, none⟩ = some (.int .i64 dy) := (blk_cell (blk_below HZ5.out HD5.out) 2).trans rfl
  have q53 : W5.cell? ⟨b5, 3, none⟩ = some (.bool ty) := (blk_cell (blk_below HZ5.out HD5.out) 3).trans rfl
  have q54 : W5.cell? ⟨b5, 4, none⟩ = some (.int .i64 kd) := (blk_cell (blk_below HZ5.out HD5.out) 4).trans rfl
  have q90 : W5.cell? ⟨b9, 0, none⟩ = some (.int .i64 RW) := (blk_cell (blk_below HZ9.out HD5.out) 0).trans rfl
  have q91 : W5.cell? ⟨b9, 1, none⟩ = some (.int .i64 RH) := (blk_cell (blk_below HZ9.out HD5.out) 1).trans rfl
  have q92 : W5.cell? ⟨b9, 2, none⟩ = some (.slice AR RP.length cR) := (blk_cell (blk_below HZ9.out HD5.out) 2).trans rfl
  go_wp2_with (fail)
  refine (rfget_calls W5 S g (newDS kd st code) 0 t dx dy ty kd W H RW RH AR cR RP HE.out HSL.out (newDS_ok HK.out HbC.out hlen) hdx hdy (fun V hV => Kd.C_below HA.out (below_then HB1.out HB1.out.size (HBV.out V hV))) hcR HbR.out q HQQ.out _ rfl).mono ?_
  rintro e W6 ⟨A6, c6, rfl, hR6, hI6⟩
  clear q50 q51 q52 q53 q54 q90 q91 q92 HE
  have HB6 := Aside0.mk (HBV.out _ hI6.m)
  have hR := HR.out
  clear HR
  obtain ⟨⟨s6, ⟨x6, y6, P6⟩, e6⟩, hg6⟩ : ∃ r, getD q kd (newDS kd st code) = r := ⟨_, rfl⟩
  rw [hg6] at hR6 hR ⊢
  simp only at hR6 hR ⊢
  subst hR
  have HR6 := Aside0.mk (Kd.R_lower hR6 (Nat.le_trans HB1.out.size HD5.out.size))
  have HNE := Aside0.mk (show ∀ k, W5.heap.size ≤ k → k ≠ b10 from fun k hk he => by have := HG10.out.2; have := HD5.out.size; omega)
  have hR6b := row_from hR6
  clear hg6 hI6
  have hz := blk_below HZ10.out HB6.out
  have m0 : W6.cell? ⟨b10, 0, none⟩ = some (.int .i64 0) := (blk_cell hz 0).trans rfl
  have m1 : W6.cell? ⟨b10, 1, none⟩ = some (.int .i64 0) := (blk_cell hz 1).trans rfl
  have m2 : W6.cell? ⟨b10, 2, none⟩ = some (.slice none 0 0) := (blk_cell hz 2).trans rfl
  have k0 := blk_frozen hz 0
  have k1 := blk_frozen hz 1
  have k2 := blk_frozen hz 2
  have HZW := Aside0.mk (zset3 hz (.int .i64 x6) (.int .i64 y6) (.slice A6 P6.length c6))
  have hP : DPost w ((x6, y6, P6), e6) (.returned (.tuple #[.agg #[.int .i64 x6, .int .i64 y6, .slice A6 P6.length c6], .int .i64 e6])) (((W6.setCell ⟨b10, 0, none⟩ (.int .i64 x6)).setCell ⟨b10, 1, none⟩ (.int .i64 y6)).setCell ⟨b10, 2, none⟩ (.slice A6 P6.length c6)) :=
    ⟨A6, c6, rfl, Kd.R_mono (Kd.R_lower (Kd.R_far (p := ⟨b10, 2, none⟩) (Kd.R_far (p := ⟨b10, 1, none⟩) (Kd.R_far (p := ⟨b10, 0, none⟩) hR6b (fun k hk => HNE.out k hk.1) (.int .i64 x6)) (fun k hk => HNE.out k hk.1) (.int .i64 y6)) (fun k hk => HNE.out k hk.1) (.slice A6 P6.length c6)) (Nat.le_trans HB1.out.size HD5.out.size)) (fun _ _ => trivial), (((below_then HB1.out HB1.out.size HB6.out).setCell HG10.out.1 _).setCell HG10.out.1 _).setCell HG10.out.1 _⟩
  clear hz hR6 hR6b
  go_wp2_with (fail)
  exact bodyPost_ret (dret19 HZW.out rfl rfl) rfl hP
end Go.Proofs.Ytkfejicdjpffcaa.Rde
namespace Go.Proofs.Ytkfejicdjpffcaa.Rbk
open Go Go.RowKit Go.Proofs.YtkfejicdjpffcaaW.PrintWords Go.Proofs.YtkfejicdjpffcaaW.PrintLast Go.Proofs.YtkfejicdjpffcaaW.PrintMore Go.Proofs.Ytkfejicdjpffcaa.U Go.Proofs.Ytkfejicdjpffcaa.Aid Go.Proofs.Ytkfejicdjpffcaa.HandAid Go.Proofs.Ytkfejicdjpffcaa.Cod1 Go.Proofs.Ytkfejicdjpffcaa.Cod2 Go.Proofs.Ytkfejicdjpffcaa.Cod3 Go.Proofs.Ytkfejicdjpffcaa.Mod Go.Proofs.Ytkfejicdjpffcaa.NewRef Go.Proofs.Ytkfejicdjpffcaa.Enc Go.Proofs.Ytkfejicdjpffcaa.Mods Go.Proofs.Ytkfejicdjpffcaa.EncAt Go.Proofs.Ytkfejicdjpffcaa.Put Go.Proofs.Ytkfejicdjpffcaa.End Go.Proofs.Ytkfejicdjpffcaa.Snc Go.Proofs.Ytkfejicdjpffcaa.Dec Go.Proofs.Ytkfejicdjpffcaa.Get Go.Proofs.Ytkfejicdjpffcaa.DecNew Go.Proofs.Ytkfejicdjpffcaa.Isk Go.Proofs.Ytkfejicdjpffcaa.Pse Go.Proofs.Ytkfejicdjpffcaa.Bkp Go.Proofs.Ytkfejicdjpffcaa.Rpx Go.Proofs.Ytkfejicdjpffcaa.Rva Go.Proofs.Ytkfejicdjpffcaa.Rev Go.Proofs.Ytkfejicdjpffcaa.Ren Go.Proofs.Ytkfejicdjpffcaa.Rdv Go.Proofs.Ytkfejicdjpffcaa.Rde
/-- The first n pixels are told. -/
structure Agr (P Pk : List Int) (n : Int) : Prop where
  l : Pk.length = P.length
  a : ∀ i : Int, 0 ≤ i → i < n → rd Pk i = rd P i
theorem rd_set_eq {l : List Int} {i : Nat} (h : i < l.length) (v : Int) : rd (l.set i v) (i : Int) = v := by
  rw [rd_at (by rw [List.length_set]; exact h)]
  simp
theorem rd_set_ne {l : List Int} {i : Nat} {j : Int} (h0 : 0 ≤ j) (hne : j ≠ (i : Int)) (v : Int) : rd (l.set i v) j = rd l j := by
  obtain ⟨k, rfl⟩ : ∃ k : Nat, j = (k : Int) := ⟨j.toNat, by omega⟩
  unfold rd
  rw [Int.toNat_natCast, List.getD_eq_getElem?_getD, List.getD_eq_getElem?_getD, List.getElem?_set]
  rw [if_neg (by omega)]
theorem Agr.set {P Pk : List Int} {n : Nat} (h : Agr P Pk (n : Int)) (hn : n < P.length) {v : Int} (hv : v = rd P (n : Int)) : Agr P (Pk.set n v) ((n : Int) + 1) := by
  refine ⟨by rw [List.length_set]; exact h.l, fun i h0 hi => ?_⟩
  by_cases c : i = (n : Int)
  · rw [c, rd_set_eq (by rw [h.l]; exact hn), hv]
  · rw [rd_set_ne h0 c]
    exact h.a i h0 (by omega)
theorem Agr.eq {P Pk : List Int} (h : Agr P Pk (P.length : Int)) : Pk = P := by
  apply List.ext_getElem h.l
  intro i h1 h2
  have := h.a (i : Int) (by omega) (by omega)
  rw [rd_at h1, rd_at h2] at this
  exact this
theorem px_agr {W H : Int} {P Pk : List Int} {n : Int} (hW : 0 ≤ W) (h : Agr P Pk n) (x y : Int) (hi : 0 ≤ x → 0 ≤ y → x < W → y < H → y * W + x < n) : px W H Pk x y = px W H P x y := by
  unfold px
  by_cases c : 0 ≤ x ∧ 0 ≤ y ∧ x < W ∧ y < H
  · rw [if_pos c, if_pos c]
    have := Int.mul_nonneg c.2.1 hW
    exact h.a _ (by omega) (hi c.1 c.2.1 c.2.2.1 c.2.2.2)
  · rw [if_neg c, if_neg c]
def behind (d : S127) : Prop := d.f1 = -1 ∨ (d.f1 = 0 ∧ d.f0 = -1)
theorem behind_news (t : Int) : ∀ d ∈ news t, behind d := by
  unfold news behind
  split <;> simp
theorem ctxN_agr {W H : Int} {P Pk : List Int} (hW : 0 ≤ W) (x y : Int) (hx : 0 ≤ x) (h : Agr P Pk (y * W + x)) : ∀ (l : List S127) (n : Int), (∀ d ∈ l, behind d) → ctxN W H Pk x y l n = ctxN W H P x y l n
  | [], n, _ => rfl
  | d :: l, n, hl => by
    simp only [ctxN]
    have e : px W H Pk (x + d.f0) (y + d.f1) = px W H P (x + d.f0) (y + d.f1) := by
      refine px_agr hW h _ _ (fun h1 h2 h3 h4 => ?_)
      rcases hl d List.mem_cons_self with hb | ⟨hb1, hb2⟩
      · rw [hb, Int.add_mul]
        omega
      · rw [hb1, hb2, Int.add_zero]
        omega
    rw [e]
    exact ctxN_agr hW x y hx h l _ (fun d hd => hl d (List.mem_cons_of_mem _ hd))
theorem ctx_agr (q : RQ) {P Pk : List Int} (hW : 0 ≤ q.W) (x y : Int) (hx : 0 ≤ x) (h : Agr P Pk (y * q.W + x)) : q.ctx Pk x y = q.ctx P x y := by
  unfold RQ.ctx ctxP
  rw [ctxN_agr hW x y hx h (news q.t) 0 (behind_news q.t)]
theorem rowP_spec (dx dy W H : Int) (P : List Int) (RW RH : Int) (RP : List Int) (y : Int) : ∀ (d i : Nat), rowP dx dy W H P RW RH RP y d i = true → ∀ m : Nat, i ≤ m → m < i + d → (flatP RW RH RP ((m : Int) - dx) (y - dy)).2 = true → px W H P m y = (flatP RW RH RP ((m : Int) - dx) (y - dy)).1
  | 0, i, _, m, h1, h2, _ => by omega
  | d + 1, i, h, m, h1, h2, hf => by
    unfold rowP at h
    by_cases c : (flatP RW RH RP ((i : Int) - dx) (y - dy)).2 = true
    · rw [if_pos c] at h
      by_cases c2 : px W H P i y = (flatP RW RH RP ((i : Int) - dx) (y - dy)).1
      · rw [if_pos c2] at h
        by_cases e : m = i
        · rw [e]; exact c2
        · exact rowP_spec dx dy W H P RW RH RP y d (i + 1) h m (by omega) (by omega) hf
      · rw [if_neg c2] at h
        exact absurd h (by decide)
    · rw [if_neg c] at h
      by_cases e : m = i
      · rw [e] at hf
        exact absurd hf c
      · exact rowP_spec dx dy W H P RW RH RP y d (i + 1) h m (by omega) (by omega) hf
theorem px_in {W H : Int} {P : List Int} {x y : Int} (h0 : 0 ≤ x) (h1 : 0 ≤ y) (h2 : x < W) (h3 : y < H) : px W H P x y = rd P (y * W + x) := by
  unfold px
  rw [if_pos ⟨h0, h1, h2, h3⟩]
theorem fol_row (q : RQ) {P : List Int} (b : Bm q.W q.H P) (y : Nat) (hy : (y : Int) < q.H) (typ : Bool) (ht : typ = true → rowP q.dx q.dy q.W q.H P q.RW q.RH q.RP y q.W.toNat 0 = true) (rest : List S72) (e : DS) :
    ∀ (d i : Nat) (s : DS) (Pk : List Int), i + d = q.W.toNat → Agr P Pk ((y : Int) * q.W + i) → Fol s (evX q P y typ d i ++ rest) e → ∃ s2 Pk2, Fol s2 rest e ∧ rowD q y (bit1 typ) d i s Pk = (s2, Pk2, 0) ∧ Agr P Pk2 ((y : Int) * q.W + q.W)
  | 0, i, s, Pk, h, ha, hf => by
    have hw := b.w
    refine ⟨s, Pk, hf, rfl, ?_⟩
    rw [show q.W = (i : Int) by omega] at ha ⊢
    exact ha
  | d + 1, i, s, Pk, h, ha, hf => by
    have hw := b.w
    have hat := b.at_ (x := (i : Int)) (y := (y : Int)) (by omega) (by omega) (by omega) hy
    obtain ⟨ix, hix⟩ : ∃ ix : Nat, (y : Int) * q.W + i = ix := ⟨((y : Int) * q.W + i).toNat, by omega⟩
    have hpx := px_in (W := q.W) (H := q.H) (P := P) (x := (i : Int)) (y := (y : Int)) (by omega) (by omega) (by omega) hy
    have hcx := ctx_agr q (P := P) (Pk := Pk) hw.1 (i : Int) (y : Int) (by omega) ha
    unfold rowD
    unfold evX at hf
    rw [hix] at ha hpx hat ⊢
    rw [Int.toNat_natCast]
    have hnx : ∀ v, v = rd P (ix : Int) → Agr P (Pk.set ix v) ((y : Int) * q.W + ((i + 1 : Nat) : Int)) := fun v hv => by
      have := ha.set (by omega) hv
      rw [show (y : Int) * q.W + ((i + 1 : Nat) : Int) = (ix : Int) + 1 by omega]
      exact this
    by_cases c : typ = true ∧ (q.flat i y).2 = true
    · rw [if_pos c] at hf
      have c1 : bit1 typ = 1 := by rw [c.1]; rfl
      rw [if_pos ⟨c1, c.2⟩]
      have hv := rowP_spec _ _ _ _ _ _ _ _ _ _ _ (ht c.1) i (Nat.zero_le _) (by omega) c.2
      exact fol_row q b y hy typ ht rest e d (i + 1) s _ (by omega) (hnx _ (by rw [← hpx]; exact hv.symm)) hf
    · rw [if_neg c] at hf
      have c2 : ¬ (bit1 typ = 1 ∧ (q.flat i y).2 = true) := fun hc => c ⟨by cases typ; exact absurd hc.1 (by decide); rfl, hc.2⟩
      rw [if_neg c2, hcx]
      rw [List.cons_append] at hf
      obtain ⟨s1, hg, hf⟩ := hf
      simp only at hg
      rw [hg]
      simp only [if_true]
      exact fol_row q b y hy typ ht rest e d (i + 1) s1 _ (by omega) (hnx _ hpx) hf
theorem fol_rows (q : RQ) {P : List Int} (b : Bm q.W q.H P) (rest : List S72) (e : DS) :
    ∀ (d j : Nat) (s : DS) (Pk : List Int), j + d = q.H.toNat → Agr P Pk ((j : Int) * q.W) → Fol s (evY q P d j ++ rest) e → ∃ s2 Pk2, Fol s2 rest e ∧ rowsD q d j s Pk = (s2, Pk2, 0) ∧ Agr P Pk2 (q.H * q.W)
  | 0, j, s, Pk, h, ha, hf => by
    have hh := b.h
    refine ⟨s, Pk, hf, rfl, ?_⟩
    rw [show q.H = (j : Int) by omega]
    exact ha
  | d + 1, j, s, Pk, h, ha, hf => by
    have hh := b.h
    unfold evY at hf
    rw [List.append_assoc, List.append_assoc] at hf
    have hstep : ∀ s1 (typ : Bool), (typ = true → rowP q.dx q.dy q.W q.H P q.RW q.RH q.RP j q.W.toNat 0 = true) → Fol s1 (evX q P j typ q.W.toNat 0 ++ (evY q P d (j + 1) ++ rest)) e → rowH q j s Pk = rowD q j (bit1 typ) q.W.toNat 0 s1 Pk → ∃ s2 Pk2, Fol s2 rest e ∧ rowsD q (d + 1) j s Pk = (s2, Pk2, 0) ∧ Agr P Pk2 (q.H * q.W) := by
      intro s1 typ ht hf1 hrow
      obtain ⟨s2, Pk2, hf2, hr2, ha2⟩ := fol_row q b j (by omega) typ ht _ e q.W.toNat 0 s1 Pk (by omega) (by rw [show (j : Int) * q.W + ((0 : Nat) : Int) = (j : Int) * q.W by omega]; exact ha) hf1
      unfold rowsD
      rw [hrow, hr2]
      simp only [if_true]
      exact fol_rows q b rest e d (j + 1) s2 Pk2 (by omega) (by rw [show ((j + 1 : Nat) : Int) = (j : Int) + 1 by omega, Int.add_mul, Int.one_mul]; exact ha2) hf2
    unfold evH at hf
    by_cases c : q.ty = true
    · rw [if_pos c, List.cons_append, List.nil_append] at hf
      obtain ⟨s1, hg, hf⟩ := hf
      simp only at hg
      refine hstep s1 (q.typ P j) (fun ht => ?_) hf ?_
      · unfold RQ.typ at ht
        rw [Bool.and_eq_true] at ht
        exact ht.2
      · unfold rowH
        rw [if_pos c, hg]
        simp only [if_true]
    · rw [if_neg c, List.nil_append] at hf
      have ct : q.typ P j = false := by
        unfold RQ.typ
        rw [show q.ty = false by simpa using c]
        rfl
      rw [ct] at hf
      refine hstep s false (fun ht => absurd ht (by decide)) hf ?_
      unfold rowH
      rw [if_neg c]
      rfl
/-- A region whose events a decoder tells is the region that is told. -/
theorem getD_fol (q : RQ) (kd : Int) {P : List Int} (b : Bm q.W q.H P) {s e : DS} {rest : List S72} (h0 : getErr q kd s.st.length = 0) (hf : Fol s (evR q P ++ rest) e) : ∃ s2, Fol s2 rest e ∧ getD q kd s = (s2, (q.W, q.H, P), 0) := by
  have hl : (List.replicate (q.W * q.H).toNat (0 : Int)).length = P.length := by
    rw [List.length_replicate]
    have := b.n
    omega
  obtain ⟨s2, Pk2, hf2, hr2, ha2⟩ := fol_rows q b rest e q.H.toNat 0 s (List.replicate (q.W * q.H).toNat 0) (by omega) ⟨hl, fun i h1 h2 => by rw [show (((0 : Nat) : Int)) * q.W = 0 from Int.zero_mul _] at h2; omega⟩ hf
  have hP : Pk2 = P := by
    have hn := b.n
    rw [Int.mul_comm] at hn
    rw [← hn] at ha2
    exact ha2.eq
  refine ⟨s2, hf2, ?_⟩
  unfold getD
  rw [if_pos h0, hr2]
  simp only [if_true]
  rw [hP]
/-- What is encoded comes back. -/
theorem dec_enc (q : RQ) (kd : Int) {P : List Int} (hbase : q.base = 0) (ho : okO q.t q.dx q.dy kd = true) (hP : Bytes P) (hR : Bytes q.RP) (hb : okB q.W q.H P = true) (hr : okB q.RW q.RH q.RP = true) (hby : Bytes (encB q kd P).1) : decB q kd (encB q kd P).1 = ((q.W, q.H, P), 0) := by
  have hoo := okO_iff.1 ho
  have b := (okB_bm hP hb).1
  have br := (okB_bm hR hr).1
  have hst := stN_ok q.t kd hoo.2.1
  have hfit : okF (List.replicate (ctxs q.t + 1).toNat (0 : Int)).length q.base q.t = true := by rw [hbase]; exact stN_fits q.t
  have hgood := evY_good b br hoo.1 hfit q.H.toNat 0
  have he : encB q kd P = ((putsI (newES kd (List.replicate (ctxs q.t + 1).toNat 0)) (evR q P)).end_, 0) := by
    unfold encB
    rw [if_pos ho, if_pos ⟨hb, hr⟩]
  rw [he] at hby ⊢
  simp only at hby ⊢
  have hpe : putsE (newES kd (List.replicate (ctxs q.t + 1).toNat 0)) (evR q P) = (putsI (newES kd (List.replicate (ctxs q.t + 1).toNat 0)) (evR q P), 0) := putsI_E _ _ hgood
  obtain ⟨d', hf, _⟩ := back_fol (kind := kd) (st := List.replicate (ctxs q.t + 1).toNat 0) (l := evR q P) hst (by rw [hpe]) (code := (putsI (newES kd (List.replicate (ctxs q.t + 1).toNat 0)) (evR q P)).end_) hby (by rw [hpe])
  have hge : getErr q kd (newDS kd (List.replicate (ctxs q.t + 1).toNat 0) (putsI (newES kd (List.replicate (ctxs q.t + 1).toNat 0)) (evR q P)).end_).st.length = 0 := by
    unfold getErr
    unfold okB at hb
    rw [Bool.and_eq_true, Bool.and_eq_true] at hb
    rw [if_pos ho, if_pos ⟨hb.1.1, hr⟩]
    exact if_pos hfit
  obtain ⟨s2, _, hg⟩ := getD_fol q kd b (rest := []) hge (by rw [List.append_nil]; exact hf)
  unfold decB
  rw [if_pos ho, hg]
end Go.Proofs.Ytkfejicdjpffcaa.Rbk
namespace Go.Proofs.Ytkfejicdjpffcaa.Cby
open Go Go.RowKit Go.Proofs.YtkfejicdjpffcaaW.PrintWords Go.Proofs.YtkfejicdjpffcaaW.PrintLast Go.Proofs.YtkfejicdjpffcaaW.PrintMore Go.Proofs.Ytkfejicdjpffcaa.U Go.Proofs.Ytkfejicdjpffcaa.Aid Go.Proofs.Ytkfejicdjpffcaa.HandAid Go.Proofs.Ytkfejicdjpffcaa.Cod1 Go.Proofs.Ytkfejicdjpffcaa.Cod2 Go.Proofs.Ytkfejicdjpffcaa.Cod3 Go.Proofs.Ytkfejicdjpffcaa.Mod Go.Proofs.Ytkfejicdjpffcaa.NewRef Go.Proofs.Ytkfejicdjpffcaa.Enc Go.Proofs.Ytkfejicdjpffcaa.Mods Go.Proofs.Ytkfejicdjpffcaa.EncAt Go.Proofs.Ytkfejicdjpffcaa.Put Go.Proofs.Ytkfejicdjpffcaa.End Go.Proofs.Ytkfejicdjpffcaa.Snc Go.Proofs.Ytkfejicdjpffcaa.Dec Go.Proofs.Ytkfejicdjpffcaa.Get Go.Proofs.Ytkfejicdjpffcaa.DecNew Go.Proofs.Ytkfejicdjpffcaa.Isk Go.Proofs.Ytkfejicdjpffcaa.Pse Go.Proofs.Ytkfejicdjpffcaa.Bkp Go.Proofs.Ytkfejicdjpffcaa.Rpx Go.Proofs.Ytkfejicdjpffcaa.Rva Go.Proofs.Ytkfejicdjpffcaa.Rev Go.Proofs.Ytkfejicdjpffcaa.Ren Go.Proofs.Ytkfejicdjpffcaa.Rdv Go.Proofs.Ytkfejicdjpffcaa.Rde Go.Proofs.Ytkfejicdjpffcaa.Rbk
theorem norm_bytes : ∀ (d : Nat) (l h : Int), 0 ≤ l → l ≤ h → h ≤ 4294967295 → Bytes (normE d l h).1
  | 0, _, _, _, _, _ => fun x hx => absurd hx List.not_mem_nil
  | d + 1, l, h, h0, h1, h2 => by
    unfold normE
    split
    · intro x hx
      rcases List.mem_cons.1 hx with rfl | hx
      · omega
      · exact norm_bytes d _ _ (by omega) (by omega) (by omega) x hx
    · exact fun x hx => absurd hx List.not_mem_nil
theorem endOf_bytes (low high : Int) (h0 : 0 ≤ high) (h1 : high ≤ 4294967295) : Bytes (endOf low high) := by
  intro x hx
  have hx := List.mem_of_mem_take hx
  simp only [hiBytes, List.mem_cons, List.not_mem_nil, or_false] at hx
  rcases hx with rfl | rfl | rfl | rfl <;> omega
theorem endOf_len (low high : Int) : (endOf low high).length ≤ 4 := Nat.le_trans (List.length_take_le' _ _) (Nat.le_refl _)
theorem putsI_bytes : ∀ (l : List S72) (s : ES), s.ok → Bytes s.out → Bytes (putsI s l).out
  | [], s, _, h => h
  | x :: l, s, hok, h => by
    rw [putsI_cons]
    refine putsI_bytes l _ (ES.putI_ok hok _ _) ?_
    unfold ES.putI
    split
    · rename_i hg
      simp only [ES.good, Bool.and_eq_true, Bool.or_eq_true, decide_eq_true_eq] at hg
      have hc := ES.cut_ hok (i := x.f0.toNat) (by omega) (bit := x.f1)
      intro y hy
      rcases List.mem_append.1 hy with hy | hy
      · exact h y hy
      · exact norm_bytes 4 _ _ hc.1 hc.2.1 hc.2.2 y hy
    · exact h
theorem codeI_bytes (s : ES) (l : List S72) (hok : s.ok) (hb : Bytes s.out) : Bytes (putsI s l).end_ ∧ (putsI s l).end_.length ≤ s.out.length + 4 * l.length + 4 := by
  have h := putsI_ok l s hok
  have e : (putsI s l).end_ = (putsI s l).out ++ endOf (putsI s l).low (putsI s l).high := rfl
  rw [e]
  constructor
  · intro y hy
    rcases List.mem_append.1 hy with hy | hy
    · exact putsI_bytes l s hok hb y hy
    · exact endOf_bytes _ _ (by have := h.l; have := h.lh; omega) h.h y hy
  · rw [List.length_append]
    have := putsI_out l s
    have := endOf_len (putsI s l).low (putsI s l).high
    omega
/-- A region's code is of bytes, and not long. -/
theorem encB_bytes (q : RQ) (kd : Int) {P : List Int} (hP : Bytes P) : Bytes (encB q kd P).1 ∧ (encB q kd P).1.length ≤ 200000 := by
  unfold encB
  by_cases ho : okO q.t q.dx q.dy kd = true
  · rw [if_pos ho]
    by_cases hb : okB q.W q.H P = true ∧ okB q.RW q.RH q.RP = true
    · rw [if_pos hb]
      have b := (okB_bm hP hb.1).1
      have h := codeI_bytes (newES kd (List.replicate (ctxs q.t + 1).toNat 0)) (evR q P) (newES_ok (stN_ok q.t kd (okO_iff.1 ho).2.1)) (fun x hx => absurd hx List.not_mem_nil)
      have hl := evR_len q P b.w.2 b.h.2
      refine ⟨h.1, ?_⟩
      have h2 := h.2
      have h3 : (newES kd (List.replicate (ctxs q.t + 1).toNat 0)).out.length = 0 := rfl
      show (putsI (newES kd (List.replicate (ctxs q.t + 1).toNat 0)) (evR q P)).end_.length ≤ 200000
      omega
    · rw [if_neg hb]
      exact ⟨fun x hx => absurd hx List.not_mem_nil, Nat.zero_le _⟩
  · rw [if_neg ho]
    exact ⟨fun x hx => absurd hx List.not_mem_nil, Nat.zero_le _⟩
end Go.Proofs.Ytkfejicdjpffcaa.Cby
namespace Go.Proofs.Ytkfejicdjpffcaa.Raw
open Go Go.RowKit Go.Proofs.YtkfejicdjpffcaaW.PrintWords Go.Proofs.YtkfejicdjpffcaaW.PrintLast Go.Proofs.YtkfejicdjpffcaaW.PrintMore Go.Proofs.Ytkfejicdjpffcaa.U Go.Proofs.Ytkfejicdjpffcaa.Aid Go.Proofs.Ytkfejicdjpffcaa.HandAid Go.Proofs.Ytkfejicdjpffcaa.Cod1 Go.Proofs.Ytkfejicdjpffcaa.Cod2 Go.Proofs.Ytkfejicdjpffcaa.Cod3 Go.Proofs.Ytkfejicdjpffcaa.Mod Go.Proofs.Ytkfejicdjpffcaa.NewRef Go.Proofs.Ytkfejicdjpffcaa.Enc Go.Proofs.Ytkfejicdjpffcaa.Mods Go.Proofs.Ytkfejicdjpffcaa.EncAt Go.Proofs.Ytkfejicdjpffcaa.Put Go.Proofs.Ytkfejicdjpffcaa.End Go.Proofs.Ytkfejicdjpffcaa.Snc Go.Proofs.Ytkfejicdjpffcaa.Dec Go.Proofs.Ytkfejicdjpffcaa.Get Go.Proofs.Ytkfejicdjpffcaa.DecNew Go.Proofs.Ytkfejicdjpffcaa.Isk Go.Proofs.Ytkfejicdjpffcaa.Pse Go.Proofs.Ytkfejicdjpffcaa.Bkp Go.Proofs.Ytkfejicdjpffcaa.Rpx Go.Proofs.Ytkfejicdjpffcaa.Rva Go.Proofs.Ytkfejicdjpffcaa.Rev Go.Proofs.Ytkfejicdjpffcaa.Ren Go.Proofs.Ytkfejicdjpffcaa.Rdv Go.Proofs.Ytkfejicdjpffcaa.Rmk Go.Proofs.Ytkfejicdjpffcaa.Rde Go.Proofs.Ytkfejicdjpffcaa.Rbk Go.Proofs.Ytkfejicdjpffcaa.Cby
def aq : RQ := ⟨0, 0, 0, true, 2, 2, 0, 0, [], 0⟩
def aP : List Int := List.replicate 4 0
theorem aP_bytes : Bytes aP := fun x hx => by rw [List.eq_of_mem_replicate hx]; decide
theorem nil_bytes : Bytes [] := fun x hx => absurd hx List.not_mem_nil
set_option maxHeartbeats 2000000 in
set_option maxRecDepth 100000 in
theorem awake_calls (w : World) : Calls Try.prog 15 #[] w fun e w' => e = .returned (.bool true) ∧ Below w.heap.size w w' := by
  have hu3 := Try.underlying23
  have hu4 := Try.underlying31
  have hok : okO aq.t aq.dx aq.dy 0 = true := by decide
  have hokb : okB aq.W aq.H aP = true := by decide
  have hokr : okB aq.RW aq.RH aq.RP = true := by decide
  obtain ⟨⟨code, er⟩, he⟩ : ∃ r, encB aq 0 aP = r := ⟨_, rfl⟩
  have hby := encB_bytes aq 0 aP_bytes
  have hbk := dec_enc aq 0 rfl hok aP_bytes nil_bytes hokb hokr hby.1
  have her : (encB aq 0 aP).2 = 0 := by unfold encB; rw [if_pos hok, if_pos ⟨hokb, hokr⟩]
  rw [he] at hby hbk her
  simp only at hby hbk her
  subst her
  have HENC := Aside0.mk (show ∀ V (A : Option Addr), Kd.C (Kd.int .u8) V A 4 aP → Calls Try.prog 16 #[.agg #[.int .i64 0, .int .i64 0, .int .i64 0, .bool true, .int .i64 0], .agg #[.int .i64 2, .int .i64 2, .slice A 4 4], .agg #[.int .i64 0, .int .i64 0, .slice none 0 0]] V (EBytes V (code, 0)) from fun V A hC => rencode_calls V 0 0 0 true 0 2 2 A 4 aP 0 0 none 0 [] (by decide) (by decide) hC (Nat.le_refl _) (Kd.C_nil _ _) (Nat.le_refl _) aP_bytes nil_bytes _ he)
  have HDEC := Aside0.mk (show ∀ V (A : Option Addr) (c : Nat), Kd.C (Kd.int .u8) V A code.length code → code.length ≤ c → Calls Try.prog 19 #[.agg #[.int .i64 0, .int .i64 0, .int .i64 0, .bool true, .int .i64 0], .slice A code.length c, .int .i64 2, .int .i64 2, .agg #[.int .i64 0, .int .i64 0, .slice none 0 0]] V (DPost V ((2, 2, aP), 0)) from fun V A c hC hc => rdecode_calls V 0 0 0 true 0 A c code 2 2 0 0 none 0 [] (by decide) (by decide) hC hc hby.1 (by have := hby.2; omega) (Kd.C_nil _ _) (Nat.le_refl _) nil_bytes _ hbk)
  clear hok hokb hokr he hby hbk
  go_enter Try.func15, Try.ntmps15
  go_wp2_with ((with_reducible refine gate_dst (N := 9) rfl ?_); refine Kd.event_run (v := .slice (some ⟨w.heap.size, 0, none⟩) 4 4) (w1 := w.alloc (.cells (zcells 4) 5)) rfl (make_step w (.const (.int .i64 4)) (.const (.int .i64 4)) rfl (4 : Int) (4 : Nat) rfl rfl rfl (by decide)) ?_; (obtain ⟨gp, hgp⟩ : ∃ x, w.heap.size = x := ⟨_, rfl⟩); (obtain ⟨W1, hW1⟩ : ∃ x, w.alloc (.cells (zcells 4) 5) = x := ⟨_, rfl⟩); have HROW := Aside0.mk (show Kd.R (Kd.int .u8) 5 W1 w.heap.size (fun k => k = gp) (.slice (some ⟨gp, 0, none⟩) 4 4) aP by rw [← hW1, ← hgp]; exact made_row w w.heap.size 4 (Nat.le_refl _) (by decide)); have HB1 := Aside0.mk (show Below w.heap.size w W1 from hW1 ▸ below_alloc (Below.refl _ _) _); rw [hgp, hW1]; clear hgp hW1)
  obtain ⟨b2, hb2⟩ : ∃ x, W1.heap.size + 1 = x := ⟨_, rfl⟩
  obtain ⟨b1, hb1⟩ : ∃ x, W1.heap.size = x := ⟨_, rfl⟩
  obtain ⟨W3, hW3⟩ : ∃ x, ((W1.alloc (.cells #[.int .i64 2, .int .i64 2, .slice (some ⟨gp, 0, none⟩) 4 4] 31)).alloc (.cells #[.int .i64 0, .int .i64 0, .int .i64 0, .bool true, .int .i64 0] 23)) = x := ⟨_, rfl⟩
  have HB3 := Aside0.mk (show Below w.heap.size w W3 from hW3 ▸ below_alloc (below_alloc HB1.out _) _)
  have HZ2 := Aside0.mk (show W3.heap[b2]? = some (.cells #[.int .i64 0, .int .i64 0, .int .i64 0, .bool true, .int .i64 0] 23 (0, 0)) by
    have h := heap_new (W1.alloc (.cells #[.int .i64 2, .int .i64 2, .slice (some ⟨gp, 0, none⟩) 4 4] 31)) (.cells #[.int .i64 0, .int .i64 0, .int .i64 0, .bool true, .int .i64 0] 23)
    rw [World.size_alloc, hb2, hW3] at h
    exact h)
  have HZ1 := Aside0.mk (show W3.heap[b1]? = some (.cells #[.int .i64 2, .int .i64 2, .slice (some ⟨gp, 0, none⟩) 4 4] 31 (0, 0)) by
    have h := heap_new W1 (.cells #[.int .i64 2, .int .i64 2, .slice (some ⟨gp, 0, none⟩) 4 4] 31)
    rw [hb1] at h
    rw [← hW3]
    exact blk_alloc h _)
  have HC := Aside0.mk (show Kd.C (Kd.int .u8) W3 (some ⟨gp, 0, none⟩) 4 aP from Kd.C_below (Kd.R_reads' HROW.out).2.2 (hW3 ▸ below_alloc (below_alloc (Below.refl _ _) _) _))
  rw [hb2, hb1, hW3]
  clear hb2 hb1 hW3 HROW
  refine (HENC.out _ _ HC.out).mono ?_
  rintro e W4 ⟨A4, c4, rfl, hR4, hb⟩
  have HB4 := Aside0.mk hb
  have hc4 := (Kd.R_reads' hR4).2.1
  have HC4 := Aside0.mk (Kd.R_reads' hR4).2.2
  clear hR4 hb
  have q0 : W4.cell? ⟨b2, 0, none⟩ = some (.int .i64 0) := (blk_cell (blk_below HZ2.out HB4.out) 0).trans rfl
  have q1 : W4.cell? ⟨b2, 1, none⟩ = some (.int .i64 0) := (blk_cell (blk_below HZ2.out HB4.out) 1).trans rfl
  have q2 : W4.cell? ⟨b2, 2, none⟩ = some (.int .i64 0) := (blk_cell (blk_below HZ2.out HB4.out) 2).trans rfl
  have q3 : W4.cell? ⟨b2, 3, none⟩ = some (.bool true) := (blk_cell (blk_below HZ2.out HB4.out) 3).trans rfl
  have q4 : W4.cell? ⟨b2, 4, none⟩ = some (.int .i64 0) := (blk_cell (blk_below HZ2.out HB4.out) 4).trans rfl
  simp only at hc4 HC4 ⊢
  go_wp2_with (fail)
  refine (HDEC.out _ _ _ HC4.out hc4).mono ?_
  rintro e W5 ⟨A5, c5, rfl, hR5, hb⟩
  have HB5 := Aside0.mk (below_then HB4.out HB4.out.size hb)
  have hc5 := (Kd.R_reads' hR5).2.1
  have HC5 := Aside0.mk (Kd.R_reads' hR5).2.2
  clear hR5 hb q0 q1 q2 q3 q4 HC4 hc4
  have e5 : ((aP.length : Nat) : Int) = 4 := rfl
  obtain ⟨b5, hb5⟩ : ∃ x, W5.heap.size = x := ⟨_, rfl⟩
  obtain ⟨W6, hW6⟩ : ∃ x, W5.alloc (.cells #[.int .i64 2, .int .i64 2, .slice A5 aP.length c5] 31) = x := ⟨_, rfl⟩
  have HB6 := Aside0.mk (show Below W3.heap.size W3 W6 from hW6 ▸ below_alloc HB5.out _)
  have HZ5 := Aside0.mk (show W6.heap[b5]? = some (.cells #[.int .i64 2, .int .i64 2, .slice A5 aP.length c5] 31 (0, 0)) from hW6 ▸ hb5 ▸ heap_new W5 _)
  have HC6 := Aside0.mk (show Kd.C (Kd.int .u8) W6 A5 aP.length aP from Kd.C_below HC5.out (hW6 ▸ below_alloc (Below.refl _ _) _))
  simp only at hc5 ⊢
  generalize hap : aP.length = nP at *
  go_wp2_with (fail)
  clear hW6 hb5
  refine (refine_Size.calls 1 129 0 _ (by rw [psize_eq]; rfl)).mono ?_
  rintro e W7 ⟨rfl, hb⟩
  have HB7 := Aside0.mk (below_then HB6.out HB6.out.size hb)
  have HZ5 := Aside0.mk (blk_below HZ5.out hb)
  have HC7 := Aside0.mk (Kd.C_below HC6.out hb)
  clear hb
  have p0 : W7.cell? ⟨b5, 0, none⟩ = some (.int .i64 2) := (blk_cell HZ5.out 0).trans rfl
  have p1 : W7.cell? ⟨b5, 1, none⟩ = some (.int .i64 2) := (blk_cell HZ5.out 1).trans rfl
  have p2 : W7.cell? ⟨b5, 2, none⟩ = some (.slice A5 nP c5) := (blk_cell HZ5.out 2).trans rfl
  have r0 : W7.cell? ⟨b1, 0, none⟩ = some (.int .i64 2) := (blk_cell (blk_below HZ1.out HB7.out) 0).trans rfl
  have r1 : W7.cell? ⟨b1, 1, none⟩ = some (.int .i64 2) := (blk_cell (blk_below HZ1.out HB7.out) 1).trans rfl
  have r2 : W7.cell? ⟨b1, 2, none⟩ = some (.slice (some ⟨gp, 0, none⟩) 4 4) := (blk_cell (blk_below HZ1.out HB7.out) 2).trans rfl
  go_wp2_with (fail)
  obtain ⟨K1, hK1⟩ := Ev.rounds (same_ev 2 2 aP (by decide))
  subst hap
  refine (incunableref06_SameBitmap.calls K1 2 2 A5 c5 aP 2 2 (some ⟨gp, 0, none⟩) 4 aP true _ HC7.out hc5 (Kd.C_below HC.out HB7.out) (Nat.le_refl _) hK1).mono ?_
  rintro e W8 ⟨rfl, hb⟩
  have HB8 := Aside0.mk (below_then (below_then HB3.out HB3.out.size HB7.out) (Nat.le_trans HB3.out.size HB7.out.size) hb)
  clear hb p0 p1 p2 r0 r1 r2
  go_wp2_with (fail)
  go_ret
  exact ⟨rfl, HB8.out⟩
end Go.Proofs.Ytkfejicdjpffcaa.Raw
namespace Go.Proofs.Ytkfejicdjpffcaa.U
open Go.RowKit Go.Proofs.YtkfejicdjpffcaaW.PrintWords Go.Proofs.YtkfejicdjpffcaaW.PrintLast Go.Proofs.YtkfejicdjpffcaaW.PrintMore
attribute [local go_sem] max2_int min2_int max_two min_two max_three min_three max_four min_four   -- for this text's walks alone
def incunableref02_SameBytes.l0 : Nat → List Int → List Int → Int → Int → Option (Bool)
  | 0, _, _, _, _ => none
  | k + 1, x0, x1, x12, x13 => if x13 < x12 then (if 0 ≤ x13 then (if x13 < (x0.length : Int) then (if x13 < (x1.length : Int) then (if (rd x0 x13) = (rd x1 x13) then (incunableref02_SameBytes.l0 k x0 x1 x12 (wrap64 (x13 + 1))) else (some false)) else (none)) else (none)) else (none)) else (some true)
def incunableref02_SameBytes.f (k : Nat) (l0 : List Int) (l1 : List Int) : Option (Bool) := if (l0.length : Int) = (l1.length : Int) then (incunableref02_SameBytes.l0 k l0 l1 (l0.length : Int) 0) else (some false)
theorem incunableref02_SameBytes.mono_l : ∀ k, (∀ y0 y1 y2 y3, LeO (incunableref02_SameBytes.l0 k y0 y1 y2 y3) (incunableref02_SameBytes.l0 (k + 1) y0 y1 y2 y3))
  | 0 => fun _ _ _ _ r h => by simp [incunableref02_SameBytes.l0] at h
  | k + 1 => by
    have ih0 := incunableref02_SameBytes.mono_l k
    · intro y0 y1 y2 y3
      unfold incunableref02_SameBytes.l0
      repeat' first
      | (with_reducible exact ih0 _ _ _ _)
      | (with_reducible exact LeO.refl _)
      | (with_reducible exact LeO.none _)
      | (with_reducible refine LeO.ite ?_ ?_)
      | (with_reducible refine LeO.bind ?_ (fun _ => ?_))
      | exact ih0 _ _ _ _
      | exact LeO.none _
      | refine LeO.ite ?_ ?_
      | refine LeO.bind ?_ (fun _ => ?_)
theorem incunableref02_SameBytes.mono : ∀ a0 a1 k, LeO (incunableref02_SameBytes.f k a0 a1) (incunableref02_SameBytes.f (k + 1) a0 a1) := by
 intro a0 a1 k; have ih0 := incunableref02_SameBytes.mono_l k; unfold incunableref02_SameBytes.f
 repeat' first
  | (with_reducible exact ih0 _ _ _ _)
  | (with_reducible exact LeO.refl _)
  | (with_reducible exact LeO.none _)
  | (with_reducible refine LeO.ite ?_ ?_)
  | (with_reducible refine LeO.bind ?_ (fun _ => ?_))
  | exact ih0 _ _ _ _
  | exact LeO.none _
  | refine LeO.ite ?_ ?_
  | refine LeO.bind ?_ (fun _ => ?_)
set_option maxHeartbeats 8000000 in
set_option maxRecDepth 100000 in
theorem incunableref02_SameBytes.calls (k : Nat) (A0 : Option Addr) (c0 : Nat) (l0 : List Int) (A1 : Option Addr) (c1 : Nat) (l1 : List Int) (r : Bool) (w : World) (hr0 : Kd.C (Kd.int .u8) w A0 l0.length l0) (hc0 : l0.length ≤ c0) (hr1 : Kd.C (Kd.int .u8) w A1 l1.length l1) (hc1 : l1.length ≤ c1) (h : incunableref02_SameBytes.f k l0 l1 = some r) :
    Calls Try.prog 18 #[.slice A0 l0.length c0, .slice A1 l1.length c1] w fun e w' => e = .returned (.bool r) ∧ Drawn0 w w' := by
 have HR0 := Aside0.mk hr0; have HC0 := Aside0.mk hc0; clear hr0 hc0; have HR1 := Aside0.mk hr1; have HC1 := Aside0.mk hc1; clear hr1 hc1; have H : (if (l0.length : Int) = (l1.length : Int) then (incunableref02_SameBytes.l0 k l0 l1 (l0.length : Int) 0) else (some false)) = some r := h; clear h; by_cases c3 : (l0.length : Int) = (l1.length : Int)
 · rw [if_pos c3] at H
   have c3b0 : ((l0.length : Int) == (l1.length : Int)) = true := beq_iff_eq.mpr c3; have c3b1 : ((l0.length : Int) != (l1.length : Int)) = false := bne_eq_false_iff_eq.mpr c3; (have c3b2 : (l0.length == l1.length) = true := by first | simpa using c3 | (simp at c3 ⊢; omega)); clear c3; have H' := Aside0.mk H; clear H; go_enter Try.func18, Try.ntmps18; go_wp2; (repeat (go_quiet (fail); try go_wp2)); go_loopg [13] k (fun kq v13 w' => ∃ (x13_1 : Int), v13 = .int .i64 x13_1 ∧ Aside0 (incunableref02_SameBytes.l0 kq l0 l1 (l0.length : Int) x13_1 = some r) ∧ Aside0 (kq ≤ k) ∧ Drawn0 w w'); (case atStart => exact ⟨(0), (by first | rfl | (simp; done) | (simp [*]; done)), H', ⟨Nat.le_refl _⟩, by repeat (first | exact Drawn0.refl _ | apply Drawn0.step)⟩)
   case round =>
    clear H'; (try clear c1); (try clear p2); (try clear c3); (try clear c3b0); (try clear c3b1); (try clear c3b2); obtain ⟨x13_1, rfl, HA, HK1, ⟨m1, rfl⟩⟩ := hrel
    cases gk with
    | zero => exact absurd HA.out (by simp [incunableref02_SameBytes.l0])
    | succ k1 =>
     have H := HA.out; clear HA; simp only [incunableref02_SameBytes.l0] at H; by_cases c4 : x13_1 < (l0.length : Int)
     (· rw [if_pos c4] at H; have c4b0 : decide (x13_1 < (l0.length : Int)) = true := decide_eq_true c4; clear c4; by_cases c5 : 0 ≤ x13_1; (· rw [if_pos c5] at H; have c5b0 : decide (0 ≤ x13_1) = true := decide_eq_true c5; clear c5; by_cases c6 : x13_1 < (l0.length : Int); (· rw [if_pos c6] at H; have c6b0 : decide (x13_1 < (l0.length : Int)) = true := decide_eq_true c6; clear c6; by_cases c7 : x13_1 < (l1.length : Int); (· rw [if_pos c7] at H; have c7b0 : decide (x13_1 < (l1.length : Int)) = true := decide_eq_true c7; clear c7; by_cases c8 : (rd l0 x13_1) = (rd l1 x13_1); (· rw [if_pos c8] at H; have c8b0 : ((rd l0 x13_1) == (rd l1 x13_1)) = true := beq_iff_eq.mpr c8; have c8b1 : ((rd l0 x13_1) != (rd l1 x13_1)) = false := bne_eq_false_iff_eq.mpr c8; clear c8; have H' := Aside0.mk H; clear H; have p313 : 0 ≤ (x13_1 : Int) := of_decide_eq_true (by first | (with_reducible assumption) | assumption); have q313 : x13_1 < (l0.length : Int) := of_decide_eq_true (by first | (with_reducible assumption) | assumption); obtain ⟨ad313, e313, hx313_0⟩ := Kd.at_int HR0.out x13_1 p313 q313; cases e313; replace p313 := eq_true p313; replace q313 := eq_true q313; have p314 : 0 ≤ (x13_1 : Int) := of_decide_eq_true (by first | (with_reducible assumption) | assumption); have q314 : x13_1 < (l1.length : Int) := of_decide_eq_true (by first | (with_reducible assumption) | assumption); obtain ⟨ad314, e314, hx314_0⟩ := Kd.at_int HR1.out x13_1 p314 q314; cases e314; replace p314 := eq_true p314; replace q314 := eq_true q314; go_wp2; (repeat (go_quiet (fail); try go_wp2)); go_roundg k1; (case measure => have := HK1.out; omega); (case rel => exact ⟨(wrap64 (x13_1 + 1)), (by first | rfl | (simp; done) | (simp [*]; done)), H', ⟨by have := HK1.out; omega⟩, by repeat (first | exact Drawn0.refl _ | apply Drawn0.step)⟩)); (· rw [if_neg c8] at H; have c8b0 : ((rd l0 x13_1) == (rd l1 x13_1)) = false := beq_eq_false_iff_ne.mpr c8; have c8b1 : ((rd l0 x13_1) != (rd l1 x13_1)) = true := bne_iff_ne.mpr c8; obtain rfl := Option.some.inj H; have p313 : 0 ≤ (x13_1 : Int) := of_decide_eq_true (by first | (with_reducible assumption) | assumption); have q313 : x13_1 < (l0.length : Int) := of_decide_eq_true (by first | (with_reducible assumption) | assumption); obtain ⟨ad313, e313, hx313_0⟩ := Kd.at_int HR0.out x13_1 p313 q313; cases e313; replace p313 := eq_true p313; replace q313 := eq_true q313; have p314 : 0 ≤ (x13_1 : Int) := of_decide_eq_true (by first | (with_reducible assumption) | assumption); have q314 : x13_1 < (l1.length : Int) := of_decide_eq_true (by first | (with_reducible assumption) | assumption); obtain ⟨ad314, e314, hx314_0⟩ := Kd.at_int HR1.out x13_1 p314 q314; cases e314; replace p314 := eq_true p314; replace q314 := eq_true q314; go_wp2; (repeat (go_quiet (fail); try go_wp2)); go_ret; exact ⟨by first | rfl | (simp; done) | (simp [*]; done), by repeat (first | exact Drawn0.refl _ | apply Drawn0.step)⟩)); (· rw [if_neg c7] at H; exact absurd H (by simp))); (· rw [if_neg c6] at H; exact absurd H (by simp))); (· rw [if_neg c5] at H; exact absurd H (by simp)))
     (· rw [if_neg c4] at H; have c4b0 : decide (x13_1 < (l0.length : Int)) = false := decide_eq_false c4; clear c4; obtain rfl := Option.some.inj H; go_wp2; (repeat (go_quiet (fail); try go_wp2)); go_ret; exact ⟨by first | rfl | (simp; done) | (simp [*]; done), by repeat (first | exact Drawn0.refl _ | apply Drawn0.step)⟩)
 (· rw [if_neg c3] at H; have c3b0 : ((l0.length : Int) == (l1.length : Int)) = false := beq_eq_false_iff_ne.mpr c3; have c3b1 : ((l0.length : Int) != (l1.length : Int)) = true := bne_iff_ne.mpr c3; (have c3b2 : (l0.length == l1.length) = false := by first | simpa using c3 | (simp at c3 ⊢; omega)); obtain rfl := Option.some.inj H; go_enter Try.func18, Try.ntmps18; go_wp2; (repeat (go_quiet (fail); try go_wp2)); go_ret; exact ⟨by first | rfl | (simp; done) | (simp [*]; done), by repeat (first | exact Drawn0.refl _ | apply Drawn0.step)⟩)
end Go.Proofs.Ytkfejicdjpffcaa.U
namespace Go.Proofs.Ytkfejicdjpffcaa.Len
open Go Go.RowKit Go.Proofs.YtkfejicdjpffcaaW.PrintWords Go.Proofs.YtkfejicdjpffcaaW.PrintLast Go.Proofs.YtkfejicdjpffcaaW.PrintMore Go.Proofs.Ytkfejicdjpffcaa.U Go.Proofs.Ytkfejicdjpffcaa.Aid Go.Proofs.Ytkfejicdjpffcaa.HandAid Go.Proofs.Ytkfejicdjpffcaa.Cod1 Go.Proofs.Ytkfejicdjpffcaa.Cod2 Go.Proofs.Ytkfejicdjpffcaa.Cod3 Go.Proofs.Ytkfejicdjpffcaa.Mod Go.Proofs.Ytkfejicdjpffcaa.NewRef Go.Proofs.Ytkfejicdjpffcaa.Enc Go.Proofs.Ytkfejicdjpffcaa.Mods Go.Proofs.Ytkfejicdjpffcaa.EncAt Go.Proofs.Ytkfejicdjpffcaa.Put Go.Proofs.Ytkfejicdjpffcaa.End Go.Proofs.Ytkfejicdjpffcaa.Snc Go.Proofs.Ytkfejicdjpffcaa.Dec Go.Proofs.Ytkfejicdjpffcaa.Get Go.Proofs.Ytkfejicdjpffcaa.DecNew Go.Proofs.Ytkfejicdjpffcaa.RefAt Go.Proofs.Ytkfejicdjpffcaa.RefPut Go.Proofs.Ytkfejicdjpffcaa.RefEnd Go.Proofs.Ytkfejicdjpffcaa.RDec Go.Proofs.Ytkfejicdjpffcaa.RDecNew Go.Proofs.Ytkfejicdjpffcaa.Isk Go.Proofs.Ytkfejicdjpffcaa.Pse Go.Proofs.Ytkfejicdjpffcaa.Pwk Go.Proofs.Ytkfejicdjpffcaa.Bkp Go.Proofs.Ytkfejicdjpffcaa.Rpx Go.Proofs.Ytkfejicdjpffcaa.Rva Go.Proofs.Ytkfejicdjpffcaa.Rfl Go.Proofs.Ytkfejicdjpffcaa.Rcx Go.Proofs.Ytkfejicdjpffcaa.Rty Go.Proofs.Ytkfejicdjpffcaa.Rev Go.Proofs.Ytkfejicdjpffcaa.Rpt Go.Proofs.Ytkfejicdjpffcaa.Rrp Go.Proofs.Ytkfejicdjpffcaa.Ren Go.Proofs.Ytkfejicdjpffcaa.Rdv Go.Proofs.Ytkfejicdjpffcaa.Rrw Go.Proofs.Ytkfejicdjpffcaa.Rmk Go.Proofs.Ytkfejicdjpffcaa.Rgt Go.Proofs.Ytkfejicdjpffcaa.Rrg Go.Proofs.Ytkfejicdjpffcaa.Rde Go.Proofs.Ytkfejicdjpffcaa.Rbk Go.Proofs.Ytkfejicdjpffcaa.Cby Go.Proofs.Ytkfejicdjpffcaa.Raw
theorem same_bytes_loop (l : List Int) (hn : l.length ≤ 9223372036854775807) : ∀ (d i : Nat), i + d = l.length → Ev (fun k => incunableref02_SameBytes.l0 k l l (l.length : Int) (i : Int)) true
  | 0, i, h => by
    refine ev_succ ?_
    simp only [incunableref02_SameBytes.l0]
    exact ev_neg (by omega) (Ev.now _)
  | d + 1, i, h => by
    refine ev_succ ?_
    simp only [incunableref02_SameBytes.l0]
    refine ev_pos (by omega) (ev_pos (by omega) (ev_pos (by omega) ?_))
    rw [wrap_id (n := (i : Int) + 1) (by omega) (by omega)]
    have := same_bytes_loop l hn d (i + 1) (by omega)
    rw [show ((i + 1 : Nat) : Int) = (i : Int) + 1 by omega] at this
    exact ev_pos (by omega) (ev_pos trivial this)
theorem same_bytes_ev (l : List Int) (hn : l.length ≤ 9223372036854775807) : Ev (fun k => incunableref02_SameBytes.f k l l) true := by
  unfold incunableref02_SameBytes.f
  exact ev_pos rfl (same_bytes_loop l hn l.length 0 (by omega))
theorem SB (A1 : Option Addr) (c1 : Nat) (A2 : Option Addr) (c2 : Nat) (l : List Int) (W : World) (h1 : Kd.C (Kd.int .u8) W A1 l.length l) (hc1 : l.length ≤ c1) (h2 : Kd.C (Kd.int .u8) W A2 l.length l) (hc2 : l.length ≤ c2) :
    Calls Try.prog 18 #[.slice A1 l.length c1, .slice A2 l.length c2] W fun e W' => e = .returned (.bool true) ∧ Below W.heap.size W W' := by
  obtain ⟨K, hK⟩ := Ev.rounds (same_bytes_ev l (Kd.C_max h1))
  exact (incunableref02_SameBytes.calls K A1 c1 l A2 c2 l true W h1 hc1 h2 hc2 hK).mono fun e W' h => ⟨h.1, h.2.below⟩
end Go.Proofs.Ytkfejicdjpffcaa.Len
namespace Go.Proofs.Ytkfejicdjpffcaa.Enq
open Go Go.RowKit Go.Proofs.Ytkfejicdjpffcaa.U Go.Proofs.Ytkfejicdjpffcaa.Pse Go.Proofs.YtkfejicdjpffcaaW.PrintWords Go.Proofs.YtkfejicdjpffcaaW.PrintLast Go.Proofs.YtkfejicdjpffcaaW.PrintMore Go.Proofs.Ytkfejicdjpffcaa.Aid Go.Proofs.Ytkfejicdjpffcaa.HandAid Go.Proofs.Ytkfejicdjpffcaa.Cod1 Go.Proofs.Ytkfejicdjpffcaa.Cod2 Go.Proofs.Ytkfejicdjpffcaa.Cod3 Go.Proofs.Ytkfejicdjpffcaa.Mod Go.Proofs.Ytkfejicdjpffcaa.Enc Go.Proofs.Ytkfejicdjpffcaa.Mods Go.Proofs.Ytkfejicdjpffcaa.EncAt Go.Proofs.Ytkfejicdjpffcaa.Put Go.Proofs.Ytkfejicdjpffcaa.End Go.Proofs.Ytkfejicdjpffcaa.Snc Go.Proofs.Ytkfejicdjpffcaa.U
/-- Encode's answer: the code, the model, the error. -/
def encodeR (kind : Int) (st : List Int) (l : List S72) : List Int × Int × List Int × Int :=
  if okModel kind st then
    (if l.length > 100000 then ([], 0, [], 2) else if (putsE (newES kind st) l).2 = 0 then ((putsE (newES kind st) l).1.end_, (putsE (newES kind st) l).1.kind, (putsE (newES kind st) l).1.st, 0) else ([], 0, [], (putsE (newES kind st) l).2))
  else ([], 0, [], 10)
def EncodePost (w : World) (r : List Int × Int × List Int × Int) (e : Ending) (w' : World) : Prop :=
  ∃ A c A' c', e = .returned (.tuple #[.slice A r.1.length c, .agg #[.int .i64 r.2.1, .slice A' r.2.2.1.length c'], .int .i64 r.2.2.2]) ∧ Kd.R (Kd.int .u8) 5 w' w.heap.size (fun _ => True) (.slice A r.1.length c) r.1 ∧ Kd.R (Kd.int .i64) 3 w' w.heap.size (fun _ => True) (.slice A' r.2.2.1.length c') r.2.2.1 ∧ Below w.heap.size w w'
theorem enc_fail (w w' : World) (x : Int) (hb : Below w.heap.size w w') (e : Ending) (he : e = .returned (.tuple #[.slice none 0 0, .agg #[.int .i64 0, .slice none 0 0], .int .i64 x])) : EncodePost w ([], 0, [], x) e w' :=
  ⟨none, 0, none, 0, he, Kd.R_nil _ _ _ _ _, Kd.R_nil _ _ _ _ _, hb⟩
/-- What stands in Encode's loop. -/
structure EInv (w : World) (B b1 g : Nat) (s0 : ES) (l : List S72) (k : Nat) (s : ES) (W : World) : Prop where
  e : EncAt W (Since B W) g s
  o : s.ok
  n : s.out.length ≤ 4 * k
  p : putsE s (l.drop k) = putsE s0 l
  z : W.heap[b1]? = some (.cells #[.int .i64 0, .slice none 0 0] 45 (0, 0))
  b : Below w.heap.size w W
  wB : w.heap.size ≤ B
  BW : B ≤ W.heap.size
  bB : b1 < B
  wb : w.heap.size ≤ b1
theorem EInv.below {w : World} {B b1 g : Nat} {s0 : ES} {l : List S72} {k : Nat} {s : ES} {W W' : World} (h : EInv w B b1 g s0 l k s W) (hb : Below W.heap.size W W') : EInv w B b1 g s0 l k s W' :=
  ⟨(h.e.below hb).mono (fun k hk => ⟨hk.1, Nat.lt_of_lt_of_le hk.2 hb.size⟩), h.o, h.n, h.p, blk_below h.z hb, below_then h.b h.b.size hb, h.wB, Nat.le_trans h.BW hb.size, h.bB, h.wb⟩
theorem EInv.put {w : World} {B b1 g : Nat} {s0 : ES} {l : List S72} {k : Nat} {s : ES} {W W' : World} (h : EInv w B b1 g s0 l k s W) {i bit : Int} (hE : EncAt W' (fun k => (Since B W k ∨ W.heap.size ≤ k) ∧ k < W'.heap.size) g (s.putI i bit)) (hm : Mods W W' (Since B W)) (hn : (s.putI i bit).out.length ≤ 4 * (k + 1)) (hp : putsE (s.putI i bit) (l.drop (k + 1)) = putsE s0 l) : EInv w B b1 g s0 l (k + 1) (s.putI i bit) W' :=
  ⟨hE.mono (fun k hk => ⟨by have := h.BW; rcases hk.1 with h1 | h1; exact h1.1; omega, hk.2⟩), ES.putI_ok h.o _ _, hn, hp, blk_mods h.z hm (fun hk => by have := hk.1; have := h.bB; omega), below_mods h.b hm (fun k hk => Nat.le_trans h.wB hk.1) h.b.size, h.wB, Nat.le_trans h.BW hm.size, h.bB, h.wb⟩
set_option maxHeartbeats 4000000 in
set_option maxRecDepth 100000 in
theorem encode_calls (A : Option Addr) (c : Nat) (kind : Int) (st : List Int) (Ae : Option Addr) (ce : Nat) (l : List S72) (w : World) (hC : Kd.C (Kd.int .i64) w A st.length st) (hc : st.length ≤ c) (hCe : Kd.C k72 w Ae l.length l) (hce : l.length ≤ ce) :
    Calls Try.prog 44 #[.agg #[.int .i64 kind, .slice A st.length c], .slice Ae l.length ce] w (EncodePost w (encodeR kind st l)) := by
  have HC := Aside0.mk hC
  have HCE := Aside0.mk hCe
  have hu := Try.underlying45
  have hu2 := Try.underlying72
  have hmax : l.length ≤ 9223372036854775807 := Kd.C_max hCe
  clear hC hCe
  obtain ⟨r, hr⟩ : ∃ r, r = encodeR kind st l := ⟨_, rfl⟩
  rw [← hr]
  have HR := Aside0.mk hr
  clear hr
  by_cases hm : okModel kind st
  · have HM := Aside0.mk hm
    clear hm
    go_enter Try.func44, Try.ntmps44
    go_wp2_with (fail)
    obtain ⟨W0, hW0⟩ : ∃ W0, W0 = (w.alloc (.cells #[.int .i64 kind, .slice A st.length c] 45)).alloc (.cells #[.int .i64 0, .slice none 0 0] 45) := ⟨_, rfl⟩
    have hb0 := Aside0.mk (show Below w.heap.size w W0 from hW0 ▸ below_alloc (below_alloc (Below.refl w.heap.size w) _) _)
    have hz0 : Aside0 (W0.heap[w.heap.size + 1]? = some (.cells #[.int .i64 0, .slice none 0 0] 45 (0, 0))) := ⟨by
      have h := heap_new (w.alloc (.cells #[.int .i64 kind, .slice A st.length c] 45)) (.cells #[.int .i64 0, .slice none 0 0] 45)
      rw [World.size_alloc] at h
      rw [hW0]
      exact h⟩
    have hsz : Aside0 (W0.heap.size = w.heap.size + 2) := ⟨by rw [hW0]; simp⟩
    rw [← hW0]
    clear hW0
    refine (new_enc A c kind st _ (Kd.C_below HC.out hb0.out) hc HM.out).mono ?_
    rintro e w1 ⟨g, rfl, hE1, hB1⟩
    obtain ⟨b1, hb1⟩ : ∃ b1, w.heap.size + 1 = b1 := ⟨_, rfl⟩
    have HI1 : Aside0 (EInv w W0.heap.size b1 g (newES kind st) l 0 (newES kind st) w1) := ⟨⟨hE1, newES_ok HM.out, Nat.le_refl _, rfl, blk_below (hb1 ▸ hz0.out) hB1, below_then hb0.out hb0.out.size hB1, hb0.out.size, hB1.size, by have := hsz.out; omega, by omega⟩⟩
    rw [hb1] at hz0 ⊢
    have HB1 := Aside0.mk hB1
    clear hE1 hB1 hb1
    have z0 : w1.cell? ⟨b1, 0, none⟩ = some (.int .i64 0) := (blk_cell HI1.out.z 0).trans rfl
    have z1 : w1.cell? ⟨b1, 1, none⟩ = some (.slice none 0 0) := (blk_cell HI1.out.z 1).trans rfl
    have zf0 := blk_frozen HI1.out.z 0
    have zf1 := blk_frozen HI1.out.z 1
    by_cases hl : l.length > 100000
    · have hr : r = ([], 0, [], 2) := by rw [HR.out]; unfold encodeR; rw [if_pos HM.out, if_pos hl]
      have HR2 := Aside0.mk hr
      clear hr
      have hl' : (l.length : Int) > 100000 := by omega
      go_wp2
      refine bodyPost_ret (results_list (rs := [.tmp 4, .cell 5 45, .tmp 6]) rfl (by simp) (.tmp (.cell b1 45 #[.int .i64 0, .slice none 0 0] (0, 0) _ rfl (by refine blk_put (cs := #[.int .i64 0, .slice none 0 0]) ?_ 1 _ rfl; exact blk_put (cs := #[.int .i64 0, .slice none 0 0]) HI1.out.z 0 _ rfl) Try.underlying45 rfl (by kernel_rfl) (.tmp .nil)))) rfl ?_
      rw [HR2.out]
      refine enc_fail w _ 2 ?_ _ rfl
      have hwb : w.heap.size ≤ b1 := HI1.out.wb
      exact (HI1.out.b.setCell hwb _).setCell hwb _
    · have hl' : ¬ (l.length : Int) > 100000 := by omega
      have HL := Aside0.mk hl
      clear z0 z1 zf0 zf1 hl
      go_wp2
      go_loopw [26] (fun i wr => ∃ (k : Nat) (s : ES), k ≤ l.length ∧ i = .int .i64 k ∧ Aside0 (EInv w W0.heap.size b1 g (newES kind st) l k s wr)) (fun i _ => l.length - (intOf i).toNat)
      case atStart => exact ⟨0, newES kind st, Nat.zero_le _, rfl, HI1⟩
      clear HI1 HB1 hb0 hz0
      case round =>
        obtain ⟨k, s, hk, rfl, HI⟩ := hrel
        have hC := Kd.C_below HCE.out HI.out.b
        by_cases hlt : k < l.length
        · obtain ⟨ad, hA, hx0, hx1⟩ := at_T72 hC (k : Int) (by omega) (by omega)
          subst hA
          have hstep := putsE_step hlt s
          rw [HI.out.p] at hstep
          obtain ⟨x, hx⟩ : ∃ x, rd_T72 l (k : Int) = x := ⟨_, rfl⟩
          rw [hx] at hx0 hx1 hstep
          simp only [Int.toNat_natCast] at hx0 hx1
          have HST := Aside0.mk hstep
          have hlen : s.out.length ≤ 1099511627776 := by have := HI.out.n; omega
          have HI2 := Aside0.mk (HI.out.below (below_alloc (Below.refl _ _) (.cells #[.int .i64 x.f0, .int .i64 x.f1] 72)))
          clear hC hx hstep
          have HP := Aside0.mk (put_calls (wr.alloc (.cells #[.int .i64 x.f0, .int .i64 x.f1] 72)) (Since W0.heap.size (wr.alloc (.cells #[.int .i64 x.f0, .int .i64 x.f1] 72))) g s x.f0 x.f1 HI2.out.e HI2.out.o hlen)
          by_cases hgood : s.err x.f0 x.f1 = 0
          · rw [hgood] at HP
            have HG := Aside0.mk hgood
            clear hgood
            go_wp2_with (go_at_call 28; refine HP.out.mono ?_; rintro e w6 ⟨rfl, hE6, hM6⟩; have HI6 := Aside0.mk (HI2.out.put hE6 hM6 (by have := HI2.out.n; have := (ES.putI_len s x.f0 x.f1).1; omega) (by have h := HST.out; rw [if_pos HG.out] at h; exact h.symm)); clear hE6 hM6)
            go_roundw
            case rel => exact ⟨k + 1, _, by omega, by go_num, HI6⟩
            case measure => simp [intOf]; omega
          · have he2 : s.err x.f0 x.f1 = 2 := by unfold ES.err at hgood ⊢; split <;> simp_all
            have hfin : putsE (newES kind st) l = (s, 2) := by rw [HST.out, if_neg hgood, he2]
            rw [he2] at HP
            have HF := Aside0.mk hfin
            clear hgood he2 hfin
            go_wp2_with (go_at_call 28; refine HP.out.mono ?_; rintro e w6 ⟨rfl, hE6, hM6⟩; have HZ6 := Aside0.mk (blk_mods HI2.out.z hM6 (fun hk => by have := hk.1; have := HI2.out.bB; omega)); have HB6 := Aside0.mk (below_mods HI2.out.b hM6 (fun k hk => Nat.le_trans HI2.out.wB hk.1) HI2.out.b.size); have z0 : w6.cell? ⟨b1, 0, none⟩ = some (.int .i64 0) := (blk_cell HZ6.out 0).trans rfl; have z1 : w6.cell? ⟨b1, 1, none⟩ = some (.slice none 0 0) := (blk_cell HZ6.out 1).trans rfl; have zf0 := blk_frozen HZ6.out 0; have zf1 := blk_frozen HZ6.out 1; clear hE6 hM6)
            refine bodyPost_ret (results_list (rs := [.tmp 4, .cell 5 45, .tmp 6]) rfl (by simp) (.tmp (.cell b1 45 #[.int .i64 0, .slice none 0 0] (0, 0) _ rfl (by refine blk_put (cs := #[.int .i64 0, .slice none 0 0]) ?_ 1 _ rfl; exact blk_put (cs := #[.int .i64 0, .slice none 0 0]) HZ6.out 0 _ rfl) Try.underlying45 rfl (by kernel_rfl) (.tmp .nil)))) rfl ?_
            rw [show r = ([], 0, [], 2) by rw [HR.out]; unfold encodeR; rw [if_pos HM.out, if_neg HL.out, HF.out]; rfl]
            refine enc_fail w _ 2 ?_ _ rfl
            have hwb : w.heap.size ≤ b1 := HI2.out.wb
            exact (HB6.out.setCell hwb _).setCell hwb _
        · have hkl : k = l.length := by omega
          have hfin : putsE (newES kind st) l = (s, 0) := by
            have := HI.out.p
            rw [hkl, List.drop_length] at this
            exact this.symm
          have hlen : s.out.length ≤ 1099511627880 := by have := HI.out.n; omega
          have HF := Aside0.mk hfin
          clear hfin hkl
          obtain ⟨A0, c0, vo0, hEr⟩ := HI.out.e
          have HEr := Aside0.mk hEr
          have HBr := Aside0.mk HI.out.b
          have HZr := Aside0.mk HI.out.z
          have hED := end_row wr.drew (Since W0.heap.size wr) g s.kind A0 c0 s.st s.low s.high vo0 s.out hEr.drew HI.out.o.l HI.out.o.lh HI.out.o.h hlen
          have HED := Aside0.mk hED
          have k0 := HEr.out.iv.k
          have k1 := HEr.out.iv.s
          clear hEr hED hC
          go_wp2
          refine start_ (n := 10) (S := fun w' => w'.cell? ⟨g, 0, none⟩ = some (.int .i64 s.kind) ∧ w'.cell? ⟨g, 1, none⟩ = some (.slice A0 s.st.length c0)) (ds := [8]) #[N',N',N',N',N',N',N',N',N',N'] (by kernel_rfl) rfl rfl ⟨k0, k1⟩ (fun hHeld => ?_)
          refine pure_ (i := 0) (N := some 41) (v := ?_) (a' := ?_) #[Y',N',N',N',N',N',N',N',N',N'] rfl rfl (by kernel_rfl) (fun _ _ _ h => h) (Or.inl ⟨by rfl, ?_⟩) ?_ ?_; rotate_left; (intro w'; go_simp; with_reducible rfl); rotate_left; (simp only [Act.put, p1', p2', p3', i64_w, i32_w]; rfl)
          refine pure_ (i := 2) (N := some 43) (v := ?_) (a' := ?_) #[Y',N',Y',N',N',N',N',N',N',N'] rfl rfl (by kernel_rfl) (fun _ _ _ h => h) (Or.inl ⟨by rfl, ?_⟩) ?_ ?_; rotate_left; (intro w'; go_simp; with_reducible rfl); rotate_left; (simp only [Act.put, p1', p2', p3', i64_w, i32_w]; rfl)
          refine pure_ (i := 3) (N := some 44) (v := ?_) (a' := ?_) #[Y',N',Y',Y',N',N',N',N',N',N'] rfl rfl (by kernel_rfl) (fun _ _ _ h => h) (Or.inl ⟨by rfl, ?_⟩) ?_ ?_; rotate_left; (intro w'; go_simp; with_reducible rfl); rotate_left; (simp only [Act.put, p1', p2', p3', i64_w, i32_w]; rfl)
          refine pure_ (i := 4) (N := some 45) (v := ?_) (a' := ?_) #[Y',N',Y',Y',Y',N',N',N',N',N'] rfl rfl (by kernel_rfl) (fun _ _ _ h => h) (Or.inl ⟨by rfl, ?_⟩) ?_ ?_; rotate_left; (intro w'; go_simp; with_reducible rfl); rotate_left; (simp only [Act.put, p1', p2', p3', i64_w, i32_w]; rfl)
          refine pure_ (i := 5) (N := some 46) (v := ?_) (a' := ?_) #[Y',N',Y',Y',Y',Y',N',N',N',N'] rfl rfl (by kernel_rfl) (fun _ _ _ h => h) (Or.inl ⟨by rfl, ?_⟩) ?_ ?_; rotate_left; (intro w'; go_simp; with_reducible rfl); rotate_left; (simp only [Act.put, p1', p2', p3', i64_w, i32_w]; rfl)
          refine take_ (i := 6) (N := some 47) (v := ?_) (a' := ?_) #[Y',N',Y',Y',Y',Y',Y',N',N',N'] rfl rfl (by kernel_rfl) (fun _ _ _ h => h) (Or.inl ⟨by rfl, ?_⟩) hHeld ?_ ?_; rotate_left; (rintro w' ⟨s0, s1⟩; go_simp; with_reducible rfl); rotate_left; (simp only [Act.put, p1', p2', p3', i64_w, i32_w]; rfl)
          refine one_ (i := 1) (N := some 42) #[Y',Y',Y',Y',Y',Y',Y',N',N',N'] rfl rfl (by kernel_rfl) (by decide) (fun K hK => ?_)
          refine goes_ Try.func29 (by kernel_rfl) rfl #[.pointer (some ⟨g, 0, none⟩)] (by rfl) rfl rfl (by simp only [List.map_toArray, List.map_cons, List.map_nil]; rfl) ?_
          with_reducible refine (HED.out).mono ?_
          rintro e w7 ⟨A7, c7, rfl, hR7, hB7⟩
          refine ⟨_, rfl, ?_⟩
          have HR7 := Aside0.mk (Kd.R_lower hR7 HBr.out.size)
          have HB7 := Aside0.mk (below_then HBr.out HBr.out.size (below_undrew1 hB7))
          have HE7 := Aside0.mk (HEr.out.drew.below hB7)
          have t0 : w7.cell? ⟨g, 0, none⟩ = some (.int .i64 s.kind) := HE7.out.iv.k
          have t1 : w7.cell? ⟨g, 1, none⟩ = some (.slice A0 s.st.length c0) := HE7.out.iv.s
          have HZ7 := Aside0.mk (blk_below (g := b1) (w := wr.drew) HZr.out hB7)
          have z0 : w7.cell? ⟨b1, 0, none⟩ = some (.int .i64 0) := (blk_cell HZ7.out 0).trans rfl
          have z1 : w7.cell? ⟨b1, 1, none⟩ = some (.slice none 0 0) := (blk_cell HZ7.out 1).trans rfl
          have zf0 := blk_frozen HZ7.out 0
          have zf1 := blk_frozen HZ7.out 1
          clear hR7 hB7
          refine hK.out _ _ ⟨t0, t1⟩ (fun hHeld => ?_)
          clear hK K
          refine norm_ (a' := ?_) ?_ ?_; rotate_left; (show Act.put _ (some 42) _ = _; simp only [Act.put, p1', p2', p3', i64_w, i32_w]; rfl)
          refine pure_ (i := 7) (N := some 4) (v := ?_) (a' := ?_) #[Y',Y',Y',Y',Y',Y',Y',Y',N',N'] rfl rfl (by kernel_rfl) (fun _ _ _ h => h) (Or.inl ⟨by rfl, ?_⟩) ?_ ?_; rotate_left; (intro w'; go_simp; with_reducible rfl); rotate_left; (simp only [Act.put, p1', p2', p3', i64_w, i32_w]; rfl)
          refine last_ (i := 8) (N := none) #[Y',Y',Y',Y',Y',Y',Y',Y',Y',N'] rfl rfl (by kernel_rfl) (by decide) (fun K hK => ?_)
          refine skip_ (w1 := ?_) (by rfl) rfl ?_ ?_
          rotate_left
          · go_simp
            rfl
          refine hK.out _ _ ?_
          clear hK K
          refine pure_ (i := 9) (N := some 6) (v := ?_) (a' := ?_) #[Y',Y',Y',Y',Y',Y',Y',Y',Y',Y'] rfl rfl (by kernel_rfl) (fun _ _ _ h => h) (Or.inl ⟨by rfl, ?_⟩) ?_ ?_; rotate_left; (intro w'; go_simp; with_reducible rfl); rotate_left; (simp only [Act.put, p1', p2', p3', i64_w, i32_w]; rfl)
          refine done_ (by kernel_rfl) ?_
          go_wp2
          have hwb : w.heap.size ≤ b1 := HI.out.wb
          refine bodyPost_ret (results_list (rs := [.tmp 4, .cell 5 45, .tmp 6]) rfl (by simp) (.tmp (.cell b1 45 #[.int .i64 s.kind, .slice A0 s.st.length c0] (0, 0) _ rfl (by refine blk_put (cs := #[.int .i64 s.kind, .slice none 0 0]) ?_ 1 _ rfl; exact blk_put (cs := #[.int .i64 0, .slice none 0 0]) HZ7.out 0 _ rfl) Try.underlying45 rfl (by kernel_rfl) (.tmp .nil)))) rfl ?_
          have hr : r = (s.end_, s.kind, s.st, 0) := by rw [HR.out]; unfold encodeR; rw [if_pos HM.out, if_neg HL.out, HF.out]; rfl
          rw [hr]
          have hz2 : (w7.setCell ⟨b1, 0, none⟩ (.int .i64 s.kind)).heap[b1]? = some (.cells #[.int .i64 s.kind, .slice none 0 0] 45 (0, 0)) := blk_put (cs := #[.int .i64 0, .slice none 0 0]) HZ7.out 0 _ rfl
          refine ⟨A7, c7, A0, c0, by rw [show s.end_.length = s.out.length + (endOf s.low s.high).length from List.length_append]; rfl, ?_, ?_, ?_⟩
          · exact Kd.R_set (Kd.R_set HR7.out HZ7.out (by decide) _ _) hz2 (by decide) _ _
          · refine Kd.R_set (Kd.R_set ?_ HZ7.out (by decide) _ _) hz2 (by decide) _ _
            show Kd.R (Kd.int .i64) 3 w7 w.heap.size (fun _ => True) (.slice A0 s.st.length c0) s.st
            exact Kd.R_raise (b := 0) (fun _ _ _ _ h => h) (Kd.R_mono HE7.out.s (fun _ _ => trivial)) (fun k hk => Nat.le_trans HI.out.wB (HE7.out.s.1 k hk).1)
          · exact (HB7.out.setCell hwb _).setCell hwb _
  · have HM := Aside0.mk hm
    clear hm
    go_enter Try.func44, Try.ntmps44
    go_wp2_with (fail)
    obtain ⟨W0, hW0⟩ : ∃ W0, W0 = (w.alloc (.cells #[.int .i64 kind, .slice A st.length c] 45)).alloc (.cells #[.int .i64 0, .slice none 0 0] 45) := ⟨_, rfl⟩
    have hb0 := Aside0.mk (show Below w.heap.size w W0 from hW0 ▸ below_alloc (below_alloc (Below.refl w.heap.size w) _) _)
    have hz0 : Aside0 (W0.heap[w.heap.size + 1]? = some (.cells #[.int .i64 0, .slice none 0 0] 45 (0, 0))) := ⟨by
      have h := heap_new (w.alloc (.cells #[.int .i64 kind, .slice A st.length c] 45)) (.cells #[.int .i64 0, .slice none 0 0] 45)
      rw [World.size_alloc] at h
      rw [hW0]
      exact h⟩
    rw [← hW0]
    clear hW0
    refine (newenc_bad A c kind st _ (Kd.C_below HC.out hb0.out) hc HM.out).mono ?_
    rintro e w1 ⟨rfl, hB1⟩
    obtain ⟨b1, hb1⟩ : ∃ b1, w.heap.size + 1 = b1 := ⟨_, rfl⟩
    have hwb : w.heap.size ≤ b1 := by omega
    have HB1 := Aside0.mk (below_then hb0.out hb0.out.size hB1)
    have HZ1 := Aside0.mk (blk_below (hb1 ▸ hz0.out) hB1)
    rw [hb1]
    clear hB1 hb1 hz0 hb0
    have z0 : w1.cell? ⟨b1, 0, none⟩ = some (.int .i64 0) := (blk_cell HZ1.out 0).trans rfl
    have z1 : w1.cell? ⟨b1, 1, none⟩ = some (.slice none 0 0) := (blk_cell HZ1.out 1).trans rfl
    have zf0 := blk_frozen HZ1.out 0
    have zf1 := blk_frozen HZ1.out 1
    go_wp2
    refine bodyPost_ret (results_list (rs := [.tmp 4, .cell 5 45, .tmp 6]) rfl (by simp) (.tmp (.cell b1 45 #[.int .i64 0, .slice none 0 0] (0, 0) _ rfl (by refine blk_put (cs := #[.int .i64 0, .slice none 0 0]) ?_ 1 _ rfl; exact blk_put (cs := #[.int .i64 0, .slice none 0 0]) HZ1.out 0 _ rfl) Try.underlying45 rfl (by kernel_rfl) (.tmp .nil)))) rfl ?_
    rw [show r = ([], 0, [], 10) by rw [HR.out]; exact if_neg HM.out]
    refine enc_fail w _ 10 ?_ _ rfl
    exact (HB1.out.setCell hwb _).setCell hwb _
end Go.Proofs.Ytkfejicdjpffcaa.Enq
namespace Go.Proofs.Ytkfejicdjpffcaa.Lsm
open Go Go.RowKit Go.Proofs.YtkfejicdjpffcaaW.PrintWords Go.Proofs.YtkfejicdjpffcaaW.PrintLast Go.Proofs.YtkfejicdjpffcaaW.PrintMore Go.Proofs.Ytkfejicdjpffcaa.U Go.Proofs.Ytkfejicdjpffcaa.Aid Go.Proofs.Ytkfejicdjpffcaa.HandAid Go.Proofs.Ytkfejicdjpffcaa.Cod1 Go.Proofs.Ytkfejicdjpffcaa.Cod2 Go.Proofs.Ytkfejicdjpffcaa.Cod3 Go.Proofs.Ytkfejicdjpffcaa.Mod Go.Proofs.Ytkfejicdjpffcaa.NewRef Go.Proofs.Ytkfejicdjpffcaa.Enc Go.Proofs.Ytkfejicdjpffcaa.Mods Go.Proofs.Ytkfejicdjpffcaa.EncAt Go.Proofs.Ytkfejicdjpffcaa.Put Go.Proofs.Ytkfejicdjpffcaa.End Go.Proofs.Ytkfejicdjpffcaa.Snc Go.Proofs.Ytkfejicdjpffcaa.Dec Go.Proofs.Ytkfejicdjpffcaa.Get Go.Proofs.Ytkfejicdjpffcaa.DecNew Go.Proofs.Ytkfejicdjpffcaa.RefAt Go.Proofs.Ytkfejicdjpffcaa.RefPut Go.Proofs.Ytkfejicdjpffcaa.RefEnd Go.Proofs.Ytkfejicdjpffcaa.RDec Go.Proofs.Ytkfejicdjpffcaa.RDecNew Go.Proofs.Ytkfejicdjpffcaa.Isk Go.Proofs.Ytkfejicdjpffcaa.Pse Go.Proofs.Ytkfejicdjpffcaa.Pwk Go.Proofs.Ytkfejicdjpffcaa.Bkp Go.Proofs.Ytkfejicdjpffcaa.Rpx Go.Proofs.Ytkfejicdjpffcaa.Rva Go.Proofs.Ytkfejicdjpffcaa.Rfl Go.Proofs.Ytkfejicdjpffcaa.Rcx Go.Proofs.Ytkfejicdjpffcaa.Rty Go.Proofs.Ytkfejicdjpffcaa.Rev Go.Proofs.Ytkfejicdjpffcaa.Rpt Go.Proofs.Ytkfejicdjpffcaa.Rrp Go.Proofs.Ytkfejicdjpffcaa.Ren Go.Proofs.Ytkfejicdjpffcaa.Rdv Go.Proofs.Ytkfejicdjpffcaa.Rrw Go.Proofs.Ytkfejicdjpffcaa.Rmk Go.Proofs.Ytkfejicdjpffcaa.Rgt Go.Proofs.Ytkfejicdjpffcaa.Rrg Go.Proofs.Ytkfejicdjpffcaa.Rde Go.Proofs.Ytkfejicdjpffcaa.Rbk Go.Proofs.Ytkfejicdjpffcaa.Cby Go.Proofs.Ytkfejicdjpffcaa.Raw Go.Proofs.Ytkfejicdjpffcaa.Opn Go.Proofs.Ytkfejicdjpffcaa.Len Go.Proofs.Ytkfejicdjpffcaa.Enq
theorem flatF_own {W H : Int} {P : List Int} (x y c : Int) : ∀ (d i : Nat), (flatF W H P x y c d i).2 = true → (flatF W H P x y c d i).1 = c
  | 0, i, _ => rfl
  | d + 1, i, h => by
    unfold flatF at h ⊢
    by_cases hc : px W H P (x + (i : Int) % 3 - 1) (y + (i : Int) / 3 - 1) = c
    · rw [if_pos hc] at h ⊢
      exact flatF_own x y c d (i + 1) h
    · rw [if_neg hc] at h
      exact absurd h (by decide)
theorem rowP_own (W H : Int) (P : List Int) (y : Int) : ∀ (d i : Nat), rowP 0 0 W H P W H P y d i = true
  | 0, i => rfl
  | d + 1, i => by
    unfold rowP
    by_cases c : (flatP W H P ((i : Int) - 0) (y - 0)).2 = true
    · rw [if_pos c]
      have h := flatF_own ((i : Int) - 0) (y - 0) (px W H P ((i : Int) - 0) (y - 0)) 9 0 c
      rw [if_pos (by rw [Int.sub_zero, Int.sub_zero] at h ⊢; exact h.symm)]
      exact rowP_own W H P y d (i + 1)
    · rw [if_neg c]
      exact rowP_own W H P y d (i + 1)
set_option maxHeartbeats 8000000 in
set_option maxRecDepth 100000 in
theorem same_walk (w : World) (W : Int) (h5 : (Lit.int .i64 W).wf = true) (H : Int) (h6 : (Lit.int .i64 H).wf = true) (AB : Option Addr) (cB : Nat) (P : List Int) (hcB : P.length ≤ cB) (hB : Kd.C (Kd.int .u8) w AB P.length P) (hwP : P.length * 1 ≤ 140737488351232 ∧ ∀ x ∈ P, (Lit.int .u8 x).wf = true) (t : Int) (h0 : (Lit.int .i64 t).wf = true) (kd : Int) (h4 : (Lit.int .i64 kd).wf = true) :
    Calls Try.prog 10 #[.agg #[.int .i64 W, .int .i64 H, .slice AB P.length cB], .int .i64 t, .int .i64 kd] w fun e w' => e = .returned (.bool true) ∧ Below w.heap.size w w' := by
  have hu3 := Try.underlying23
  have hu4 := Try.underlying31
  have hu5 := Try.underlying45
  have hu6 := Try.underlying72
  have HB := Aside0.mk hB
  have HbP := Aside0.mk (bytes_of hwP.2)
  have hmP : P.length ≤ 9223372036854775807 := Kd.C_max hB
  clear h0 h4 h5 h6 hB hwP
  obtain ⟨b3, hb3⟩ : ∃ x, w.heap.size = x := ⟨_, rfl⟩
  obtain ⟨W1, hW1⟩ : ∃ x, w.alloc (.cells #[.int .i64 W, .int .i64 H, .slice AB P.length cB] 31) = x := ⟨_, rfl⟩
  obtain ⟨b7, hb7⟩ : ∃ x, W1.heap.size = x := ⟨_, rfl⟩
  obtain ⟨W2, hW2⟩ : ∃ x, W1.alloc (.cells #[.int .i64 t, .int .i64 0, .int .i64 0, .bool true, .int .i64 kd] 23) = x := ⟨_, rfl⟩
  have HB1 := Aside0.mk (show Below w.heap.size w W2 from hW2 ▸ hW1 ▸ below_alloc (below_alloc (Below.refl _ _) _) _)
  have HZb7 := Aside0.mk (show W2.heap[b7]? = some (.cells #[.int .i64 t, .int .i64 0, .int .i64 0, .bool true, .int .i64 kd] 23 (0, 0)) by
    have h := heap_new W1 (.cells #[.int .i64 t, .int .i64 0, .int .i64 0, .bool true, .int .i64 kd] 23)
    rw [hb7, hW2] at h
    exact h)
  have HZb3 := Aside0.mk (show W2.heap[b3]? = some (.cells #[.int .i64 W, .int .i64 H, .slice AB P.length cB] 31 (0, 0)) by
    have h := heap_new w (.cells #[.int .i64 W, .int .i64 H, .slice AB P.length cB] 31)
    rw [hb3, hW1] at h
    rw [← hW2]
    exact blk_alloc h _)
  have HD2 := Aside0.mk (Below.refl W2.heap.size W2)
  have qb70 : W2.cell? ⟨b7, 0, none⟩ = some (.int .i64 t) := (blk_cell (blk_below HZb7.out HD2.out) 0).trans rfl
  have qb71 : W2.cell? ⟨b7, 1, none⟩ = some (.int .i64 0) := (blk_cell (blk_below HZb7.out HD2.out) 1).trans rfl
  have qb72 : W2.cell? ⟨b7, 2, none⟩ = some (.int .i64 0) := (blk_cell (blk_below HZb7.out HD2.out) 2).trans rfl
  have qb73 : W2.cell? ⟨b7, 3, none⟩ = some (.bool true) := (blk_cell (blk_below HZb7.out HD2.out) 3).trans rfl
  have qb74 : W2.cell? ⟨b7, 4, none⟩ = some (.int .i64 kd) := (blk_cell (blk_below HZb7.out HD2.out) 4).trans rfl
  go_enter Try.func10, Try.ntmps10
  go_wp2_with (fail)
  clear hW1 hW2 hb3 hb7
  refine (Hsm.rvalid_calls t 0 0 true kd _).mono ?_
  rintro e W3 ⟨rfl, hb⟩
  have HD3 := Aside0.mk hb
  clear hb qb70 qb71 qb72 qb73 qb74
  obtain ⟨vo, hvo⟩ : ∃ z, okO t 0 0 kd = z := ⟨_, rfl⟩
  rw [hvo]
  cases vo
  · clear hvo
    go_wp2_with (fail)
    refine (Raw.awake_calls _).mono ?_
    rintro e W9 ⟨rfl, hb⟩
    have HD9 := Aside0.mk (below_then HD3.out HD3.out.size hb)
    clear hb
    go_wp2_with (fail)
    go_ret
    exact ⟨rfl, below_then HB1.out HB1.out.size HD9.out⟩
  have HOO := Aside0.mk hvo
  clear hvo
  have qb30 : W3.cell? ⟨b3, 0, none⟩ = some (.int .i64 W) := (blk_cell (blk_below HZb3.out HD3.out) 0).trans rfl
  have qb31 : W3.cell? ⟨b3, 1, none⟩ = some (.int .i64 H) := (blk_cell (blk_below HZb3.out HD3.out) 1).trans rfl
  have qb32 : W3.cell? ⟨b3, 2, none⟩ = some (.slice AB P.length cB) := (blk_cell (blk_below HZb3.out HD3.out) 2).trans rfl
  go_wp2_with (fail)
  obtain ⟨K1, hK1⟩ := Ev.rounds (isbitmap_ev W H P hmP)
  refine (incunableref06_IsBitmap.calls K1 W H AB cB P _ _ (Kd.C_below HB.out (below_then HB1.out HB1.out.size HD3.out)) hcB hK1).mono ?_
  rintro e W4 ⟨rfl, hb⟩
  have HD4 := Aside0.mk (below_then HD3.out HD3.out.size hb)
  clear hb hK1 qb30 qb31 qb32
  obtain ⟨vb, hvb⟩ : ∃ z, okB W H P = z := ⟨_, rfl⟩
  rw [hvb]
  cases vb
  · clear hvb
    go_wp2_with (fail)
    refine (Raw.awake_calls _).mono ?_
    rintro e W9 ⟨rfl, hb⟩
    have HD9 := Aside0.mk (below_then HD4.out HD4.out.size hb)
    clear hb
    go_wp2_with (fail)
    go_ret
    exact ⟨rfl, below_then HB1.out HB1.out.size HD9.out⟩
  have HVB := Aside0.mk hvb
  have HBM := Aside0.mk (okB_bm HbP.out hvb).1
  clear hvb
  have HT := Aside0.mk (okO_iff.1 HOO.out).1
  have hcx := ctxs_range t
  go_wp2_with (fail)
  refine (incunableref08_Size.calls t (ctxs t + 1) 0 _ (by rw [rsize_eq, if_pos HT.out])).mono ?_
  rintro e W5 ⟨rfl, hdr⟩
  have HD5 := Aside0.mk (below_then HD4.out HD4.out.size hdr.below)
  clear hdr
  have HAL := Aside0.mk (show ∀ V, Below W2.heap.size W2 V → ∀ x y, (-100000 ≤ x ∧ x ≤ 100000) → (-100000 ≤ y ∧ y ≤ 100000) → Calls Try.prog 41 #[.agg #[.int .i64 t, .int .i64 0, .int .i64 0, .bool true, .int .i64 kd], .agg #[.int .i64 W, .int .i64 H, .slice AB P.length cB], .int .i64 x, .int .i64 y] V fun e V' => e = .returned (.tuple #[.int .u8 (flatP W H P (x - 0) (y - 0)).1, .bool (flatP W H P (x - 0) (y - 0)).2]) ∧ Below V.heap.size V V' from fun V hV x y hx hy => by
    obtain ⟨K1, hK1⟩ := Ev.rounds (alike_ev HBM.out t 0 0 true kd x y hx hy (by omega) (by omega))
    exact incunableref08_Alike.calls K1 t 0 0 true kd W H AB cB P x y _ _ V (Kd.C_below HB.out (below_then HB1.out HB1.out.size hV)) hcB hK1)
  have HCT := Aside0.mk (show ∀ V, Below W2.heap.size W2 V → ∀ x y, (-100000 ≤ x ∧ x ≤ 100000) → (-100000 ≤ y ∧ y ≤ 100000) → Calls Try.prog 40 #[.agg #[.int .i64 t, .int .i64 0, .int .i64 0, .bool true, .int .i64 kd], .agg #[.int .i64 W, .int .i64 H, .slice AB P.length cB], .agg #[.int .i64 W, .int .i64 H, .slice AB P.length cB], .int .i64 x, .int .i64 y] V fun e V' => e = .returned (.int .i64 (ctxP t 0 0 W H P W H P x y)) ∧ Below V.heap.size V V' from fun V hV x y hx hy => by
    obtain ⟨K1, hK1⟩ := Ev.rounds (context_ev HBM.out HBM.out t 0 0 true kd x y hx hy (by omega) (by omega))
    exact incunableref08_Context.calls K1 t 0 0 true kd W H AB cB P W H AB cB P x y _ V (Kd.C_below HB.out (below_then HB1.out HB1.out.size hV)) hcB (Kd.C_below HB.out (below_then HB1.out HB1.out.size hV)) hcB hK1)
  have HPX := Aside0.mk (show ∀ V, Below W2.heap.size W2 V → ∀ x y, Calls Try.prog 42 #[.agg #[.int .i64 W, .int .i64 H, .slice AB P.length cB], .int .i64 x, .int .i64 y] V fun e V' => e = .returned (.int .u8 (px W H P x y)) ∧ Below V.heap.size V V' from fun V hV x y => incunableref06_Pix.calls W H AB cB P x y _ V (Kd.C_below HB.out (below_then HB1.out HB1.out.size hV)) hcB (pix_eq HBM.out x y))
  have hw := HBM.out.w
  have hh := HBM.out.h
  obtain ⟨q, hq⟩ : ∃ q : RQ, q = ⟨t, 0, 0, true, W, H, W, H, P, 0⟩ := ⟨_, rfl⟩
  have HQT := Aside0.mk (show ∀ k : Nat, q.typ P k = true from fun k => by rw [hq]; unfold RQ.typ; simp only [Bool.true_and]; exact rowP_own W H P k W.toNat 0)
  have HQF := Aside0.mk (show ∀ x y, q.flat x y = flatP W H P (x - 0) (y - 0) from fun x y => by rw [hq]; rfl)
  have HQC := Aside0.mk (show ∀ x y, (⟨q.base + q.ctx P x y, px q.W q.H P x y⟩ : S72) = ⟨ctxP t 0 0 W H P W H P x y, px W H P x y⟩ from fun x y => by rw [hq]; unfold RQ.ctx; simp only [Int.zero_add])
  have HQE := Aside0.mk (show evR q P = evY q P H.toNat 0 by rw [hq]; rfl)
  have HQL := Aside0.mk (show (evR q P).length ≤ 40200 from evR_len q P (by rw [hq]; exact hw.2) (by rw [hq]; exact hh.2))
  have HQY := Aside0.mk (show ∀ d j, evY q P (d + 1) j = ⟨ctxs t, 1⟩ :: (evX q P j true W.toNat 0 ++ evY q P d (j + 1)) from fun d j => by
    conv => lhs; unfold evY evH
    rw [HQT.out]
    rw [hq]
    simp only [if_true, Int.zero_add]
    rfl)
  have HQQ := Aside0.mk hq
  clear hq
  obtain ⟨EV, hEV⟩ : ∃ l, evR q P = l := ⟨_, rfl⟩
  have HEV := Aside0.mk hEV
  have hQL := HQL.out
  have hQE := HQE.out
  rw [hEV] at hQL hQE
  have HL0 := Aside0.mk (show [] ++ evY q P (H.toNat - 0) 0 = EV by rw [List.nil_append, Nat.sub_zero]; exact hQE.symm)
  have HQL := Aside0.mk hQL
  have HO0 := Aside0.mk (Kd.R_nil k72 72 W5 W2.heap.size (fun _ => True))
  clear hEV hQE HQE hQL
  have qb30 : W5.cell? ⟨b3, 0, none⟩ = some (.int .i64 W) := (blk_cell (blk_below HZb3.out HD5.out) 0).trans rfl
  have qb31 : W5.cell? ⟨b3, 1, none⟩ = some (.int .i64 H) := (blk_cell (blk_below HZb3.out HD5.out) 1).trans rfl
  have qb32 : W5.cell? ⟨b3, 2, none⟩ = some (.slice AB P.length cB) := (blk_cell (blk_below HZb3.out HD5.out) 2).trans rfl
  go_wp2_with (fail)
  clear qb30 qb31 qb32
  go_loopw [10, 41] (fun v j wr => ∃ (k : Nat) (L : List S72), k ≤ H.toNat ∧ j = .int .i64 k ∧ Aside0 (L ++ evY q P (H.toNat - k) k = EV) ∧ Aside0 (Kd.R k72 72 wr W2.heap.size (fun _ => True) v L) ∧ Aside0 (Below W2.heap.size W2 wr)) (fun _ j _ => H.toNat - (intOf j).toNat)
  case atStart => exact ⟨0, [], Nat.zero_le _, rfl, HL0, HO0, HD5⟩
  clear HL0 HO0
  case round =>
    obtain ⟨k, L, hk, rfl, HE, HO, HD⟩ := hrel
    by_cases hlt : k < H.toNat
    · have hltk : (k : Int) < H := by omega
      have hE := HE.out
      rw [show H.toNat - k = (H.toNat - (k + 1)) + 1 by omega, HQY.out] at hE
      have hll : (L.length + 1) * 16 ≤ 140737488355328 := by
        have h1 := congrArg List.length hE
        rw [List.length_append, List.length_cons] at h1
        have h2 := HQL.out
        omega
      have HE2 := Aside0.mk (show (L ++ [⟨ctxs t, 1⟩]) ++ (evX q P k true (W.toNat - 0) 0 ++ evY q P (H.toNat - (k + 1)) (k + 1)) = EV by rw [Nat.sub_zero, List.append_assoc, List.cons_append, List.nil_append]; exact hE)
      clear hE
      have qb30 : wr.cell? ⟨b3, 0, none⟩ = some (.int .i64 W) := (blk_cell (blk_below HZb3.out HD.out) 0).trans rfl
      have qb31 : wr.cell? ⟨b3, 1, none⟩ = some (.int .i64 H) := (blk_cell (blk_below HZb3.out HD.out) 1).trans rfl
      have qb32 : wr.cell? ⟨b3, 2, none⟩ = some (.slice AB P.length cB) := (blk_cell (blk_below HZb3.out HD.out) 2).trans rfl
      go_wp2_with ((with_reducible refine gate_builtin (b := .append) (xs := #[.tmp 44, .tmp 48]) rfl ?_); at_builtin; refine Kd.R_append k72 (w0 := W2) W2.heap.size rfl (.tmp 44) (.tmp 48) 70 72 (.agg #[(.int .i64 0), (.int .i64 0)]) 16 rfl Try.underlying70 info72 rfl (by decide) (by omega) u10 L (⟨ctxs t, 1⟩ : S72) [.int .i64 (ctxs t), .int .i64 1] (fun _ => True) (fun _ => False) rfl ?aX (k72_mkM _ _ _ (⟨ctxs t, 1⟩ : S72)) (fun _ hk => hk.elim) (fun _ _ => trivial) HO.out HD.out HD.out.size hll ?_; (case aX => first | (go_simp; done) | rfl); intro v2 w3 ho hb2 hgr hat; have HO2 := Aside0.mk ho; have HDn := Aside0.mk hb2; clear ho hb2 hgr hat; have p0 : w3.cell? ⟨b3, 0, none⟩ = some (.int .i64 W) := (blk_cell (blk_below HZb3.out HDn.out) 0).trans rfl)
      clear p0 hll qb30 qb31 qb32
      go_loopw [10, 52] (fun v i wr => ∃ (m : Nat) (L : List S72), m ≤ W.toNat ∧ i = .int .i64 m ∧ Aside0 (L ++ (evX q P k true (W.toNat - m) m ++ evY q P (H.toNat - (k + 1)) (k + 1)) = EV) ∧ Aside0 (Kd.R k72 72 wr W2.heap.size (fun _ => True) v L) ∧ Aside0 (Below W2.heap.size W2 wr)) (fun _ i _ => W.toNat - (intOf i).toNat)
      case atStart => exact ⟨0, _, Nat.zero_le _, rfl, HE2, HO2, HDn⟩
      clear HE HO HD HE2 HO2 HDn
      case round =>
        obtain ⟨m, L, hm, rfl, HE, HO, HD⟩ := hrel
        by_cases hltm : m < W.toNat
        · have hltm2 : (m : Int) < W := by omega
          have qb30 : wr.cell? ⟨b3, 0, none⟩ = some (.int .i64 W) := (blk_cell (blk_below HZb3.out HD.out) 0).trans rfl
          have qb31 : wr.cell? ⟨b3, 1, none⟩ = some (.int .i64 H) := (blk_cell (blk_below HZb3.out HD.out) 1).trans rfl
          have qb32 : wr.cell? ⟨b3, 2, none⟩ = some (.slice AB P.length cB) := (blk_cell (blk_below HZb3.out HD.out) 2).trans rfl
          have qb70 : wr.cell? ⟨b7, 0, none⟩ = some (.int .i64 t) := (blk_cell (blk_below HZb7.out HD.out) 0).trans rfl
          have qb71 : wr.cell? ⟨b7, 1, none⟩ = some (.int .i64 0) := (blk_cell (blk_below HZb7.out HD.out) 1).trans rfl
          have qb72 : wr.cell? ⟨b7, 2, none⟩ = some (.int .i64 0) := (blk_cell (blk_below HZb7.out HD.out) 2).trans rfl
          have qb73 : wr.cell? ⟨b7, 3, none⟩ = some (.bool true) := (blk_cell (blk_below HZb7.out HD.out) 3).trans rfl
          have qb74 : wr.cell? ⟨b7, 4, none⟩ = some (.int .i64 kd) := (blk_cell (blk_below HZb7.out HD.out) 4).trans rfl
          go_wp2_with (fail)
          refine (HAL.out _ HD.out (m : Int) (k : Int) (by omega) (by omega)).mono ?_
          rintro e X0 ⟨rfl, hb⟩
          have HD := Aside0.mk (below_then HD.out HD.out.size hb)
          have HO := Aside0.mk (Kd.R_below HO.out hb)
          clear hb qb30 qb31 qb32 qb70 qb71 qb72 qb73 qb74
          obtain ⟨⟨fc, is⟩, hF⟩ : ∃ r, flatP W H P ((m : Int) - 0) ((k : Int) - 0) = r := ⟨_, rfl⟩
          rw [hF]
          have HF := Aside0.mk (show (q.flat (m : Int) (k : Int)).2 = is by rw [HQF.out, hF])
          clear hF
          simp only
          have hE := HE.out
          rw [show W.toNat - m = (W.toNat - (m + 1)) + 1 by omega] at hE
          unfold evX at hE
          cases is
          · rw [if_neg (show ¬ (true = true ∧ (q.flat (m : Int) (k : Int)).2 = true) by rw [HF.out]; simp), HQC.out, List.cons_append] at hE
            have HLL := Aside0.mk (show (L.length + 1) * 16 ≤ 140737488355328 by
              have h1 := congrArg List.length hE
              rw [List.length_append, List.length_cons] at h1
              have h2 := HQL.out
              omega)
            have hpx := px_01 HBM.out (m : Int) (k : Int)
            have HE2 := Aside0.mk (show (L ++ [⟨ctxP t 0 0 W H P W H P (m : Int) (k : Int), wrap64 (px W H P (m : Int) (k : Int))⟩]) ++ (evX q P k true (W.toNat - (m + 1)) (m + 1) ++ evY q P (H.toNat - (k + 1)) (k + 1)) = EV by rw [wrap_id (n := px W H P (m : Int) (k : Int)) (by omega) (by omega), List.append_assoc, List.cons_append, List.nil_append]; exact hE)
            have HQ0 := Aside0.mk (below_drew HD.out)
            have HO0 := Aside0.mk (Kd.R_drew HO.out)
            clear hE
            go_wp2_with (fail)
            refine start_ (n := 16) (S := fun w' => w'.cell? ⟨b3, 0, none⟩ = some (.int .i64 W) ∧ w'.cell? ⟨b3, 1, none⟩ = some (.int .i64 H) ∧ w'.cell? ⟨b3, 2, none⟩ = some (.slice AB P.length cB) ∧ w'.cell? ⟨b7, 0, none⟩ = some (.int .i64 t) ∧ w'.cell? ⟨b7, 1, none⟩ = some (.int .i64 0) ∧ w'.cell? ⟨b7, 2, none⟩ = some (.int .i64 0) ∧ w'.cell? ⟨b7, 3, none⟩ = some (.bool true) ∧ w'.cell? ⟨b7, 4, none⟩ = some (.int .i64 kd)) (ds := []) #[N',N',N',N',N',N',N',N',N',N',N',N',N',N',N',N'] (by kernel_rfl) rfl rfl ⟨(blk_cell (blk_below HZb3.out HQ0.out) 0).trans rfl, (blk_cell (blk_below HZb3.out HQ0.out) 1).trans rfl, (blk_cell (blk_below HZb3.out HQ0.out) 2).trans rfl, (blk_cell (blk_below HZb7.out HQ0.out) 0).trans rfl, (blk_cell (blk_below HZb7.out HQ0.out) 1).trans rfl, (blk_cell (blk_below HZb7.out HQ0.out) 2).trans rfl, (blk_cell (blk_below HZb7.out HQ0.out) 3).trans rfl, (blk_cell (blk_below HZb7.out HQ0.out) 4).trans rfl⟩ (fun hHeld => ?_)
            refine pure_ (i := 0) (N := some 65) (v := ?_) (a' := ?_) #[Y',N',N',N',N',N',N',N',N',N',N',N',N',N',N',N'] rfl rfl (by kernel_rfl) (fun _ _ _ h => h) (Or.inl ⟨by rfl, ?_⟩) ?_ ?_; rotate_left; (intro w'; go_simp; with_reducible rfl); rotate_left; (simp only [Act.put, p1', p2', p3', i64_w, i32_w]; rfl)
            refine pure_ (i := 4) (N := some 69) (v := ?_) (a' := ?_) #[Y',N',N',N',Y',N',N',N',N',N',N',N',N',N',N',N'] rfl rfl (by kernel_rfl) (fun _ _ _ h => h) (Or.inl ⟨by rfl, ?_⟩) ?_ ?_; rotate_left; (intro w'; go_simp; with_reducible rfl); rotate_left; (simp only [Act.put, p1', p2', p3', i64_w, i32_w]; rfl)
            refine pure_ (i := 5) (N := some 70) (v := ?_) (a' := ?_) #[Y',N',N',N',Y',Y',N',N',N',N',N',N',N',N',N',N'] rfl rfl (by kernel_rfl) (fun _ _ _ h => h) (Or.inl ⟨by rfl, ?_⟩) ?_ ?_; rotate_left; (intro w'; go_simp; with_reducible rfl); rotate_left; (simp only [Act.put, p1', p2', p3', i64_w, i32_w]; rfl)
            refine pure_ (i := 8) (N := some 73) (v := ?_) (a' := ?_) #[Y',N',N',N',Y',Y',N',N',Y',N',N',N',N',N',N',N'] rfl rfl (by kernel_rfl) (fun _ _ _ h => h) (Or.inl ⟨by rfl, ?_⟩) ?_ ?_; rotate_left; (intro w'; go_simp; with_reducible rfl); rotate_left; (simp only [Act.put, p1', p2', p3', i64_w, i32_w]; rfl)
            refine pure_ (i := 9) (N := some 74) (v := ?_) (a' := ?_) #[Y',N',N',N',Y',Y',N',N',Y',Y',N',N',N',N',N',N'] rfl rfl (by kernel_rfl) (fun _ _ _ h => h) (Or.inl ⟨by rfl, ?_⟩) ?_ ?_; rotate_left; (intro w'; go_simp; with_reducible rfl); rotate_left; (simp only [Act.put, p1', p2', p3', i64_w, i32_w]; rfl)
            refine take_ (i := 1) (N := some 66) (v := ?_) (a' := ?_) #[Y',Y',N',N',Y',Y',N',N',Y',Y',N',N',N',N',N',N'] rfl rfl (by kernel_rfl) (fun _ _ _ h => h) (Or.inl ⟨by rfl, ?_⟩) hHeld ?_ ?_; rotate_left; (rintro w' ⟨s0, s1, s2, s3, s4, s5, s6, s7⟩; go_simp; with_reducible rfl); rotate_left; (simp only [Act.put, p1', p2', p3', i64_w, i32_w]; rfl)
            refine take_ (i := 2) (N := some 67) (v := ?_) (a' := ?_) #[Y',Y',Y',N',Y',Y',N',N',Y',Y',N',N',N',N',N',N'] rfl rfl (by kernel_rfl) (fun _ _ _ h => h) (Or.inl ⟨by rfl, ?_⟩) hHeld ?_ ?_; rotate_left; (rintro w' ⟨s0, s1, s2, s3, s4, s5, s6, s7⟩; go_simp; with_reducible rfl); rotate_left; (simp only [Act.put, p1', p2', p3', i64_w, i32_w]; rfl)
            refine take_ (i := 3) (N := some 68) (v := ?_) (a' := ?_) #[Y',Y',Y',Y',Y',Y',N',N',Y',Y',N',N',N',N',N',N'] rfl rfl (by kernel_rfl) (fun _ _ _ h => h) (Or.inl ⟨by rfl, ?_⟩) hHeld ?_ ?_; rotate_left; (rintro w' ⟨s0, s1, s2, s3, s4, s5, s6, s7⟩; go_simp; with_reducible rfl); rotate_left; (simp only [Act.put, p1', p2', p3', i64_w, i32_w]; rfl)
            refine take_ (i := 7) (N := some 72) (v := ?_) (a' := ?_) #[Y',Y',Y',Y',Y',Y',N',Y',Y',Y',N',N',N',N',N',N'] rfl rfl (by kernel_rfl) (fun _ _ _ h => h) (Or.inl ⟨by rfl, ?_⟩) hHeld ?_ ?_; rotate_left; (rintro w' ⟨s0, s1, s2, s3, s4, s5, s6, s7⟩; go_simp; with_reducible rfl); rotate_left; (simp only [Act.put, p1', p2', p3', i64_w, i32_w]; rfl)
            refine one_ (i := 6) (N := some 71) #[Y',Y',Y',Y',Y',Y',Y',Y',Y',Y',N',N',N',N',N',N'] rfl rfl (by kernel_rfl) (by decide) (fun K hK => ?_)
            refine goes_ Try.func40 (by kernel_rfl) rfl #[.agg #[.int .i64 t, .int .i64 0, .int .i64 0, .bool true, .int .i64 kd], .agg #[.int .i64 W, .int .i64 H, .slice AB P.length cB], .agg #[.int .i64 W, .int .i64 H, .slice AB P.length cB], .int .i64 (m : Int), .int .i64 (k : Int)] (by rfl) rfl rfl (by simp only [List.map_toArray, List.map_cons, List.map_nil]; rfl) ?_
            with_reducible refine (HCT.out _ HQ0.out (m : Int) (k : Int) (by omega) (by omega)).mono ?_
            rintro e X1 ⟨rfl, hb⟩
            refine ⟨_, rfl, ?_⟩
            have HQ1 := Aside0.mk (below_then HQ0.out HQ0.out.size hb)
            have HO1 := Aside0.mk (Kd.R_below HO0.out hb)
            clear hb
            refine hK.out _ _ ⟨(blk_cell (blk_below HZb3.out HQ1.out) 0).trans rfl, (blk_cell (blk_below HZb3.out HQ1.out) 1).trans rfl, (blk_cell (blk_below HZb3.out HQ1.out) 2).trans rfl, (blk_cell (blk_below HZb7.out HQ1.out) 0).trans rfl, (blk_cell (blk_below HZb7.out HQ1.out) 1).trans rfl, (blk_cell (blk_below HZb7.out HQ1.out) 2).trans rfl, (blk_cell (blk_below HZb7.out HQ1.out) 3).trans rfl, (blk_cell (blk_below HZb7.out HQ1.out) 4).trans rfl⟩ (fun hHeld => ?_)
            clear hK K
            refine norm_ (a' := ?_) ?_ ?_; rotate_left; (show Act.put _ (some 71) _ = _; simp only [Act.put, p1', p2', p3', i64_w, i32_w]; rfl)
            refine one_ (i := 10) (N := some 75) #[Y',Y',Y',Y',Y',Y',Y',Y',Y',Y',Y',N',N',N',N',N'] rfl rfl (by kernel_rfl) (by decide) (fun K hK => ?_)
            refine goes_ Try.func42 (by kernel_rfl) rfl #[.agg #[.int .i64 W, .int .i64 H, .slice AB P.length cB], .int .i64 (m : Int), .int .i64 (k : Int)] (by rfl) rfl rfl (by simp only [List.map_toArray, List.map_cons, List.map_nil]; rfl) ?_
            with_reducible refine (HPX.out _ HQ1.out (m : Int) (k : Int)).mono ?_
            rintro e X2 ⟨rfl, hb⟩
            refine ⟨_, rfl, ?_⟩
            have HQ2 := Aside0.mk (below_then HQ1.out HQ1.out.size hb)
            have HO2 := Aside0.mk (Kd.R_below HO1.out hb)
            have HQ3 := Aside0.mk (below_alloc HQ2.out (.cells #[.int .i64 (ctxP t 0 0 W H P W H P (m : Int) (k : Int)), .int .i64 (wrap64 (px W H P (m : Int) (k : Int)))] 72))
            clear hb
            refine hK.out _ _ ⟨(blk_cell (blk_below HZb3.out HQ2.out) 0).trans rfl, (blk_cell (blk_below HZb3.out HQ2.out) 1).trans rfl, (blk_cell (blk_below HZb3.out HQ2.out) 2).trans rfl, (blk_cell (blk_below HZb7.out HQ2.out) 0).trans rfl, (blk_cell (blk_below HZb7.out HQ2.out) 1).trans rfl, (blk_cell (blk_below HZb7.out HQ2.out) 2).trans rfl, (blk_cell (blk_below HZb7.out HQ2.out) 3).trans rfl, (blk_cell (blk_below HZb7.out HQ2.out) 4).trans rfl⟩ (fun hHeld => ?_)
            clear hK K
            refine norm_ (a' := ?_) ?_ ?_; rotate_left; (show Act.put _ (some 75) _ = _; simp only [Act.put, p1', p2', p3', i64_w, i32_w]; rfl)
            refine pure_ (i := 11) (N := some 76) (v := ?_) (a' := ?_) #[Y',Y',Y',Y',Y',Y',Y',Y',Y',Y',Y',Y',N',N',N',N'] rfl rfl (by kernel_rfl) (fun _ _ _ h => h) (Or.inl ⟨by rfl, ?_⟩) ?_ ?_; rotate_left; (intro w'; go_simp; with_reducible rfl); rotate_left; (simp only [Act.put, p1', p2', p3', i64_w, i32_w]; rfl)
            refine pure_ (i := 12) (N := some 77) (v := ?_) (a' := ?_) #[Y',Y',Y',Y',Y',Y',Y',Y',Y',Y',Y',Y',Y',N',N',N'] rfl rfl (by kernel_rfl) (fun _ _ _ h => h) (Or.inl ⟨by rfl, ?_⟩) ?_ ?_; rotate_left; (intro w'; go_simp; with_reducible rfl); rotate_left; (simp only [Act.put, p1', p2', p3', i64_w, i32_w]; rfl)
            refine one_ (i := 13) (N := some 78) #[Y',Y',Y',Y',Y',Y',Y',Y',Y',Y',Y',Y',Y',Y',N',N'] rfl rfl (by kernel_rfl) (by decide) (fun K hK => ?_)
            refine value_ (w1 := X2.alloc (.cells #[.int .i64 (ctxP t 0 0 W H P W H P (m : Int) (k : Int)), .int .i64 (wrap64 (px W H P (m : Int) (k : Int)))] 72)) (v := .slice (some ⟨X2.heap.size, 0, none⟩) 1 1) (by rfl) rfl ?_ ?_
            · go_simp
              try rfl
            refine hK.out _ _ ⟨(blk_cell (blk_below HZb3.out HQ3.out) 0).trans rfl, (blk_cell (blk_below HZb3.out HQ3.out) 1).trans rfl, (blk_cell (blk_below HZb3.out HQ3.out) 2).trans rfl, (blk_cell (blk_below HZb7.out HQ3.out) 0).trans rfl, (blk_cell (blk_below HZb7.out HQ3.out) 1).trans rfl, (blk_cell (blk_below HZb7.out HQ3.out) 2).trans rfl, (blk_cell (blk_below HZb7.out HQ3.out) 3).trans rfl, (blk_cell (blk_below HZb7.out HQ3.out) 4).trans rfl⟩ (fun hHeld => ?_)
            clear hK K
            refine norm_ (a' := ?_) ?_ ?_; rotate_left; (show Act.put _ (some 78) _ = _; simp only [Act.put, p1', p2', p3', i64_w, i32_w]; rfl)
            refine one_ (i := 14) (N := some 79) #[Y',Y',Y',Y',Y',Y',Y',Y',Y',Y',Y',Y',Y',Y',Y',N'] rfl rfl (by kernel_rfl) (by decide) (fun K hK => ?_)
            refine Kd.R_append_step k72 (w0 := W2) W2.heap.size (by rfl) (.tmp 65) (.tmp 78) 70 72 (.agg #[(.int .i64 0), (.int .i64 0)]) 16 rfl Try.underlying70 info72 rfl (by decide) (by decide) u10 L (⟨ctxP t 0 0 W H P W H P (m : Int) (k : Int), wrap64 (px W H P (m : Int) (k : Int))⟩ : S72) [.int .i64 (ctxP t 0 0 W H P W H P (m : Int) (k : Int)), .int .i64 (wrap64 (px W H P (m : Int) (k : Int)))] (fun _ => True) (fun _ => False) rfl rfl (k72_mkM _ _ _ (⟨ctxP t 0 0 W H P W H P (m : Int) (k : Int), wrap64 (px W H P (m : Int) (k : Int))⟩ : S72)) (fun _ hk => hk.elim) (fun _ _ => trivial) HO2.out HQ2.out HQ2.out.size HLL.out ?_
            intro v4 X4 ho hb hgr hat
            have HO4 := Aside0.mk ho
            have HQ4 := Aside0.mk hb
            clear ho hb hgr hat
            refine hK.out _ _ ⟨(blk_cell (blk_below HZb3.out HQ4.out) 0).trans rfl, (blk_cell (blk_below HZb3.out HQ4.out) 1).trans rfl, (blk_cell (blk_below HZb3.out HQ4.out) 2).trans rfl, (blk_cell (blk_below HZb7.out HQ4.out) 0).trans rfl, (blk_cell (blk_below HZb7.out HQ4.out) 1).trans rfl, (blk_cell (blk_below HZb7.out HQ4.out) 2).trans rfl, (blk_cell (blk_below HZb7.out HQ4.out) 3).trans rfl, (blk_cell (blk_below HZb7.out HQ4.out) 4).trans rfl⟩ (fun hHeld => ?_)
            clear hK K
            refine norm_ (a' := ?_) ?_ ?_; rotate_left; (show Act.put _ (some 79) _ = _; simp only [Act.put, p1', p2', p3', i64_w, i32_w]; rfl)
            refine pure_ (i := 15) (N := some 10) (v := ?_) (a' := ?_) #[Y',Y',Y',Y',Y',Y',Y',Y',Y',Y',Y',Y',Y',Y',Y',Y'] rfl rfl (by kernel_rfl) (fun _ _ _ h => h) (Or.inl ⟨by rfl, ?_⟩) ?_ ?_; rotate_left; (intro w'; go_simp; with_reducible rfl); rotate_left; (simp only [Act.put, p1', p2', p3', i64_w, i32_w]; rfl)
            refine done_ (by kernel_rfl) ?_
            go_wp2_with (fail)
            exact ⟨⟨m + 1, _, by omega, by go_num, HE2, HO4, HQ4⟩, by simp [intOf]; omega⟩
          · rw [if_pos (show true = true ∧ (q.flat (m : Int) (k : Int)).2 = true from ⟨rfl, HF.out⟩)] at hE
            have HE2 := Aside0.mk hE
            clear hE
            go_wp2_with (fail)
            exact ⟨⟨m + 1, L, by omega, by go_num, HE2, HO, HD⟩, by simp [intOf]; omega⟩
        · have hE := HE.out
          rw [show W.toNat - m = 0 by omega] at hE
          simp only [evX, List.nil_append] at hE
          have HE2 := Aside0.mk hE
          clear hE
          go_wp2_with (fail)
          exact ⟨⟨k + 1, L, by omega, by go_num, HE2, HO, HD⟩, by simp [intOf]; omega⟩
    · have hE := HE.out
      rw [show H.toNat - k = 0 by omega] at hE
      simp only [evY, List.append_nil] at hE
      subst hE
      obtain ⟨Ae, ce, hv⟩ := Kd.R_slice HO.out
      subst hv
      have hce := (Kd.R_reads' HO.out).2.1
      have HCe := Aside0.mk (Kd.R_reads' HO.out).2.2
      have hoo := okO_iff.1 HOO.out
      have HK := Aside0.mk (stN_ok t kd hoo.2.1)
      have hnm : newModel kd (ctxs t + 1) = (kd, List.replicate (ctxs t + 1).toNat 0, 0) := by unfold newModel; rw [if_pos ⟨hoo.2.1, by omega, by omega⟩]
      have hgood : (evR q P).all (goodL (newES kd (List.replicate (ctxs t + 1).toNat 0)).st.length) = true := by
        have h1 : okF (List.replicate (ctxs t + 1).toNat (0 : Int)).length q.base q.t = true := by rw [HQQ.out]; exact stN_fits t
        exact evY_good (q := q) (by rw [HQQ.out]; exact HBM.out) (by rw [HQQ.out]; exact HBM.out) (by rw [HQQ.out]; exact hoo.1) h1 q.H.toNat 0
      have hen : encodeR kd (List.replicate (ctxs t + 1).toNat 0) (evR q P) = ((putsI (newES kd (List.replicate (ctxs t + 1).toNat 0)) (evR q P)).end_, (putsI (newES kd (List.replicate (ctxs t + 1).toNat 0)) (evR q P)).kind, (putsI (newES kd (List.replicate (ctxs t + 1).toNat 0)) (evR q P)).st, 0) := by
        unfold encodeR
        have h2 := HQL.out
        rw [← HEV.out] at h2
        rw [if_pos HK.out, if_neg (by omega), putsI_E _ _ hgood]
        simp only [if_true]
      have heb : encB ⟨t, 0, 0, true, W, H, W, H, P, 0⟩ kd P = ((putsI (newES kd (List.replicate (ctxs t + 1).toNat 0)) (evR q P)).end_, 0) := by
        unfold encB
        rw [if_pos HOO.out, if_pos ⟨HVB.out, HVB.out⟩, HQQ.out]
      rw [HEV.out] at hen heb
      generalize (putsI (newES kd (List.replicate (ctxs t + 1).toNat 0)) L) = s6 at hen heb
      obtain ⟨code, hcode⟩ : ∃ c, s6.end_ = c := ⟨_, rfl⟩
      rw [hcode] at hen heb
      obtain ⟨k6, hk6⟩ : ∃ c, s6.kind = c := ⟨_, rfl⟩
      obtain ⟨st6, hst6⟩ : ∃ c, s6.st = c := ⟨_, rfl⟩
      rw [hk6, hst6] at hen
      have HEN := Aside0.mk hen
      have HEB := Aside0.mk heb
      have HNM := Aside0.mk hnm
      have hln : (List.replicate (ctxs t + 1).toNat (0 : Int)).length = (ctxs t + 1).toNat := List.length_replicate
      clear hen heb hcode hk6 hst6 hgood hnm
      go_wp2_with (fail)
      refine (ref_new_calls kd (ctxs t + 1) _).mono ?_
      rintro e W6 ⟨A6, c6, rfl, hR6, hb⟩
      rw [HNM.out] at hR6 ⊢
      simp only at hR6 ⊢
      generalize List.replicate (ctxs t + 1).toNat (0 : Int) = st at hR6 HEN HK hln ⊢
      have HD6 := Aside0.mk (below_then HD.out HD.out.size hb)
      have HCe := Aside0.mk (Kd.C_below HCe.out hb)
      have hc6 := (Kd.R_reads' hR6).2.1
      have HC6 := Aside0.mk (Kd.R_reads' hR6).2.2
      clear hR6 hb
      obtain ⟨b15, hb15⟩ : ∃ x, W6.heap.size = x := ⟨_, rfl⟩
      obtain ⟨W7, hW7⟩ : ∃ x, W6.alloc (.cells #[.int .i64 kd, .slice A6 st.length c6] 45) = x := ⟨_, rfl⟩
      have hb7 : Below W6.heap.size W6 W7 := hW7 ▸ below_alloc (Below.refl _ _) _
      have HD7 := Aside0.mk (below_then HD6.out HD6.out.size hb7)
      have HCe := Aside0.mk (Kd.C_below HCe.out hb7)
      have HC6 := Aside0.mk (Kd.C_below HC6.out hb7)
      have HZ15 := Aside0.mk (show W7.heap[b15]? = some (.cells #[.int .i64 kd, .slice A6 st.length c6] 45 (0, 0)) from hW7 ▸ hb15 ▸ heap_new W6 _)
      have p0 : W7.cell? ⟨b15, 0, none⟩ = some (.int .i64 kd) := (blk_cell HZ15.out 0).trans rfl
      have p1 : W7.cell? ⟨b15, 1, none⟩ = some (.slice A6 st.length c6) := (blk_cell HZ15.out 1).trans rfl
      clear hb7 hln
      go_wp2_with (fail)
      clear hW7 hb15 p0 p1
      refine (encode_calls A6 c6 kd st Ae ce L _ HC6.out hc6 HCe.out hce).mono ?_
      rintro e W8 ⟨A8, c8, A8b, c8b, rfl, hR8, hR8b, hb⟩
      rw [HEN.out] at hR8 hR8b ⊢
      simp only at hR8 hR8b ⊢
      have HD8 := Aside0.mk (below_then HD7.out HD7.out.size hb)
      have hc8 := (Kd.R_reads' hR8).2.1
      have HC8 := Aside0.mk (Kd.R_reads' hR8).2.2
      clear hR8 hR8b hb
      obtain ⟨W9, hW9⟩ : ∃ x, W8.alloc (.cells #[.int .i64 k6, .slice A8b st6.length c8b] 45) = x := ⟨_, rfl⟩
      have hb9 : Below W8.heap.size W8 W9 := hW9 ▸ below_alloc (Below.refl _ _) _
      have HD9 := Aside0.mk (below_then HD8.out HD8.out.size hb9)
      have HC8 := Aside0.mk (Kd.C_below HC8.out hb9)
      clear hb9
      have qb30 : W9.cell? ⟨b3, 0, none⟩ = some (.int .i64 W) := (blk_cell (blk_below HZb3.out HD9.out) 0).trans rfl
      have qb31 : W9.cell? ⟨b3, 1, none⟩ = some (.int .i64 H) := (blk_cell (blk_below HZb3.out HD9.out) 1).trans rfl
      have qb32 : W9.cell? ⟨b3, 2, none⟩ = some (.slice AB P.length cB) := (blk_cell (blk_below HZb3.out HD9.out) 2).trans rfl
      have qb70 : W9.cell? ⟨b7, 0, none⟩ = some (.int .i64 t) := (blk_cell (blk_below HZb7.out HD9.out) 0).trans rfl
      have qb71 : W9.cell? ⟨b7, 1, none⟩ = some (.int .i64 0) := (blk_cell (blk_below HZb7.out HD9.out) 1).trans rfl
      have qb72 : W9.cell? ⟨b7, 2, none⟩ = some (.int .i64 0) := (blk_cell (blk_below HZb7.out HD9.out) 2).trans rfl
      have qb73 : W9.cell? ⟨b7, 3, none⟩ = some (.bool true) := (blk_cell (blk_below HZb7.out HD9.out) 3).trans rfl
      have qb74 : W9.cell? ⟨b7, 4, none⟩ = some (.int .i64 kd) := (blk_cell (blk_below HZb7.out HD9.out) 4).trans rfl
      go_wp2_with (fail)
      clear hW9
      refine (rencode_calls _ t 0 0 true kd W H AB cB P W H AB cB P (by decide) (by decide) (Kd.C_below HB.out (below_then HB1.out HB1.out.size HD9.out)) hcB (Kd.C_below HB.out (below_then HB1.out HB1.out.size HD9.out)) hcB HbP.out HbP.out _ HEB.out).mono ?_
      rintro e W10 ⟨A10, c10, rfl, hR10, hb⟩
      have HD10 := Aside0.mk (below_then HD9.out HD9.out.size hb)
      have HC8 := Aside0.mk (Kd.C_below HC8.out hb)
      simp only at hR10 ⊢
      have hc10 := (Kd.R_reads' hR10).2.1
      have HC10 := Aside0.mk (Kd.R_reads' hR10).2.2
      clear hR10 hb qb30 qb31 qb32 qb70 qb71 qb72 qb73 qb74
      go_wp2_with (fail)
      refine (Len.SB A10 c10 A8 c8 code _ HC10.out hc10 HC8.out hc8).mono ?_
      rintro e W11 ⟨rfl, hb⟩
      have HD11 := Aside0.mk (below_then HD10.out HD10.out.size hb)
      clear hb
      go_wp2_with (fail)
      refine (Raw.awake_calls _).mono ?_
      rintro e W12 ⟨rfl, hb⟩
      have HD12 := Aside0.mk (below_then HD11.out HD11.out.size hb)
      clear hb
      go_wp2_with (fail)
      go_ret
      exact ⟨rfl, below_then HB1.out HB1.out.size HD12.out⟩
end Go.Proofs.Ytkfejicdjpffcaa.Lsm
