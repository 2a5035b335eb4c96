import Derived.Test.YtkfejicdjpffcaaMRefineDecodes2
import Derived.Test.YtkfejicdjpffcaaMRefineDecodes3
import Derived.Test.YtkfejicdjpffcaaMRefineDecodes1
import Derived.Laws.ResultCell
import Derived.Test.YtkfejicdjpffcaaMRefineDecodes0
set_option linter.unusedVariables false
set_option linter.unusedSimpArgs false
namespace Go.Proofs.Ytkfejicdjpffcaa.Rfl
open Go Go.RowKit YtkfejicdjpffcaaW PrintWords PrintLast PrintMore U Aid HandAid Mods Rpx
/-- A region's cells. -/
def regc (t dx dy : Int) (ty : Bool) (kd W H : Int) (vb : Value) (RW RH : Int) (vr : Value) : Array Value := #[.int .i64 t, .int .i64 dx, .int .i64 dy, .bool ty, .int .i64 kd, .int .i64 W, .int .i64 H, vb, .int .i64 RW, .int .i64 RH, vr]
set_option maxHeartbeats 2000000 in
set_option maxRecDepth 100000 in
theorem flat_calls (w : World) (g : Nat) (t dx dy : Int) (ty : Bool) (kd W H : Int) (vb : Value) (RW RH : Int) (AR : Option Addr) (cR : Nat) (RP : List Int) (x y : Int) (hZ : w.heap[g]? = some (.cells (regc t dx dy ty kd W H vb RW RH (.slice AR RP.length cR)) 109 (0, 0))) (hC : Kd.C (Kd.int .u8) w AR RP.length RP) (hcR : RP.length ≤ cR) (b : Bm RW RH RP) (hx : -100000 ≤ x ∧ x ≤ 100000) (hy : -100000 ≤ y ∧ y ≤ 100000) (hdx : -100000 ≤ dx ∧ dx ≤ 100000) (hdy : -100000 ≤ dy ∧ dy ≤ 100000) :
 Calls Try.prog 60 #[.pointer (some ⟨g, 0, none⟩), .int .i64 x, .int .i64 y] w fun e w' => e = .returned (.tuple #[.int .u8 (flatP RW RH RP (x - dx) (y - dy)).1, .bool (flatP RW RH RP (x - dx) (y - dy)).2]) ∧ Below w.heap.size w w' := by
 have HZ := A' hZ
 have HCR := A' hC
 have hbm := A' b
 have HG := A' (show ∀ (W : World), Below w.heap.size w W → ∀ (a b2 a' b' : Int), a' = a → b' = b2 → Calls Try.prog 62 #[.agg #[.int .i64 RW, .int .i64 RH, .slice AR RP.length cR], .int .i64 a', .int .i64 b'] W fun e W' => e = .returned (.int .u8 (px RW RH RP a b2)) ∧ Below W.heap.size W W' from fun W hb a b2 a' b' ea eb => by subst ea eb; exact refine_grid_at.calls RW RH AR cR RP _ _ _ _ (Kd.C_below hC hb) hcR (grid_eq b _ _))
 have hu1 := Try.underlying109
 have hu2 := Try.underlying107
 have hu3 := Try.underlying23
 clear hZ hC b
 obtain ⟨⟨Rc, Rb⟩, hR⟩ : ∃ r, flatP RW RH RP (x - dx) (y - dy) = r := ⟨_, rfl⟩
 rw [hR]
 unfold flatP at hR
 go_enter Try.func60, Try.ntmps60
 go_wp2_with (fail)
 have HB0 := A' (below_drew (Below.refl w.heap.size w))
 refine start_ (n := 20) (S := fun w' => w'.cell? ⟨g, 8, none⟩ = some (.int .i64 RW) ∧ w'.cell? ⟨g, 9, none⟩ = some (.int .i64 RH) ∧ w'.cell? ⟨g, 10, none⟩ = some (.slice AR RP.length cR) ∧ w'.cell? ⟨g, 1, none⟩ = some (.int .i64 dx) ∧ w'.cell? ⟨g, 2, none⟩ = some (.int .i64 dy)) (ds := []) #[false, false, false, false, false, false, false, false, false, false, false, false, false, false, false, false, false, false, false, false] (by kernel_rfl) rfl rfl ⟨(blk_cell (blk_below HZ.out HB0.out) 8).trans rfl, (blk_cell (blk_below HZ.out HB0.out) 9).trans rfl, (blk_cell (blk_below HZ.out HB0.out) 10).trans rfl, (blk_cell (blk_below HZ.out HB0.out) 1).trans rfl, (blk_cell (blk_below HZ.out HB0.out) 2).trans rfl⟩ (fun hHeld => ?_)
 refine u' 0 10 (B' 20 1) ?_ rfl rfl (by kernel_rfl) (fun _ _ _ h => h) (.inl ⟨by rfl, ?_⟩) ?_ ?_ ?_; rotate_left; (intro w'; go_simp; with_reducible rfl); rotate_left; (simp only [Act.put, p1', p2', p3', i64_w, i32_w]; rfl)
 refine u' 1 11 (B' 20 3) ?_ rfl rfl (by kernel_rfl) (fun _ _ _ h => h) (.inl ⟨by rfl, ?_⟩) ?_ ?_ ?_; rotate_left; (intro w'; go_simp; with_reducible rfl); rotate_left; (simp only [Act.put, p1', p2', p3', i64_w, i32_w]; rfl)
 refine u' 2 12 (B' 20 7) ?_ rfl rfl (by kernel_rfl) (fun _ _ _ h => h) (.inl ⟨by rfl, ?_⟩) ?_ ?_ ?_; rotate_left; (intro w'; go_simp; with_reducible rfl); rotate_left; (simp only [Act.put, p1', p2', p3', i64_w, i32_w]; rfl)
 refine u' 4 14 (B' 20 23) ?_ rfl rfl (by kernel_rfl) (fun _ _ _ h => h) (.inl ⟨by rfl, ?_⟩) ?_ ?_ ?_; rotate_left; (intro w'; go_simp; with_reducible rfl); rotate_left; (simp only [Act.put, p1', p2', p3', i64_w, i32_w]; rfl)
 refine u' 5 15 (B' 20 55) ?_ rfl rfl (by kernel_rfl) (fun _ _ _ h => h) (.inl ⟨by rfl, ?_⟩) ?_ ?_ ?_; rotate_left; (intro w'; go_simp; with_reducible rfl); rotate_left; (simp only [Act.put, p1', p2', p3', i64_w, i32_w]; rfl)
 refine u' 6 16 (B' 20 119) ?_ rfl rfl (by kernel_rfl) (fun _ _ _ h => h) (.inl ⟨by rfl, ?_⟩) ?_ ?_ ?_; rotate_left; (intro w'; go_simp; with_reducible rfl); rotate_left; (simp only [Act.put, p1', p2', p3', i64_w, i32_w]; rfl)
 refine u' 7 17 (B' 20 247) ?_ rfl rfl (by kernel_rfl) (fun _ _ _ h => h) (.inl ⟨by rfl, ?_⟩) ?_ ?_ ?_; rotate_left; (intro w'; go_simp; with_reducible rfl); rotate_left; (simp only [Act.put, p1', p2', p3', i64_w, i32_w]; rfl)
 refine u' 8 18 (B' 20 503) ?_ rfl rfl (by kernel_rfl) (fun _ _ _ h => h) (.inl ⟨by rfl, ?_⟩) ?_ ?_ ?_; rotate_left; (intro w'; go_simp; with_reducible rfl); rotate_left; (simp only [Act.put, p1', p2', p3', i64_w, i32_w]; rfl)
 refine u' 11 21 (B' 20 2551) ?_ rfl rfl (by kernel_rfl) (fun _ _ _ h => h) (.inl ⟨by rfl, ?_⟩) ?_ ?_ ?_; rotate_left; (intro w'; go_simp; with_reducible rfl); rotate_left; (simp only [Act.put, p1', p2', p3', i64_w, i32_w]; rfl)
 refine u' 12 22 (B' 20 6647) ?_ rfl rfl (by kernel_rfl) (fun _ _ _ h => h) (.inl ⟨by rfl, ?_⟩) ?_ ?_ ?_; rotate_left; (intro w'; go_simp; with_reducible rfl); rotate_left; (simp only [Act.put, p1', p2', p3', i64_w, i32_w]; rfl)
 refine u' 13 23 (B' 20 14839) ?_ rfl rfl (by kernel_rfl) (fun _ _ _ h => h) (.inl ⟨by rfl, ?_⟩) ?_ ?_ ?_; rotate_left; (intro w'; go_simp; with_reducible rfl); rotate_left; (simp only [Act.put, p1', p2', p3', i64_w, i32_w]; rfl)
 refine u' 14 24 (B' 20 31223) ?_ rfl rfl (by kernel_rfl) (fun _ _ _ h => h) (.inl ⟨by rfl, ?_⟩) ?_ ?_ ?_; rotate_left; (intro w'; go_simp; with_reducible rfl); rotate_left; (simp only [Act.put, p1', p2', p3', i64_w, i32_w]; rfl)
 refine u' 15 25 (B' 20 63991) ?_ rfl rfl (by kernel_rfl) (fun _ _ _ h => h) (.inl ⟨by rfl, ?_⟩) ?_ ?_ ?_; rotate_left; (intro w'; go_simp; with_reducible rfl); rotate_left; (simp only [Act.put, p1', p2', p3', i64_w, i32_w]; rfl)
 refine t' 3 13 (B' 20 63999) ?_ rfl rfl (by kernel_rfl) (fun _ _ _ h => h) (.inl ⟨by rfl, ?_⟩) hHeld ?_ ?_ ?_; rotate_left; (rintro w' ⟨s0, s1, s2, s3, s4⟩; go_simp; with_reducible rfl); rotate_left; (simp only [Act.put, p1', p2', p3', i64_w, i32_w]; rfl)
 refine t' 9 19 (B' 20 64511) ?_ rfl rfl (by kernel_rfl) (fun _ _ _ h => h) (.inl ⟨by rfl, ?_⟩) hHeld ?_ ?_ ?_; rotate_left; (rintro w' ⟨s0, s1, s2, s3, s4⟩; go_simp; with_reducible rfl); rotate_left; (simp only [Act.put, p1', p2', p3', i64_w, i32_w]; rfl)
 refine u' 10 20 (B' 20 65535) ?_ rfl rfl (by kernel_rfl) (fun _ _ _ h => h) (.inl ⟨by rfl, ?_⟩) ?_ ?_ ?_; rotate_left; (intro w'; go_simp; with_reducible rfl); rotate_left; (simp only [Act.put, p1', p2', p3', i64_w, i32_w]; rfl)
 refine t' 16 26 (B' 20 131071) ?_ rfl rfl (by kernel_rfl) (fun _ _ _ h => h) (.inl ⟨by rfl, ?_⟩) hHeld ?_ ?_ ?_; rotate_left; (rintro w' ⟨s0, s1, s2, s3, s4⟩; go_simp; with_reducible rfl); rotate_left; (simp only [Act.put, p1', p2', p3', i64_w, i32_w]; rfl)
 refine u' 17 27 (B' 20 262143) ?_ rfl rfl (by kernel_rfl) (fun _ _ _ h => h) (.inl ⟨by rfl, ?_⟩) ?_ ?_ ?_; rotate_left; (intro w'; go_simp; with_reducible rfl); rotate_left; (simp only [Act.put, p1', p2', p3', i64_w, i32_w]; rfl)
 refine one_ (i := 18) (N := some 28) (B' 20 524287) rfl rfl (by kernel_rfl) (by decide) (fun K hK => ?_)
 refine goes_ Try.func62 (by kernel_rfl) rfl #[.agg #[.int .i64 RW, .int .i64 RH, .slice AR RP.length cR], .int .i64 (wrap64 (x - dx)), .int .i64 (wrap64 (y - dy))] (by rfl) rfl rfl (by simp only [List.map_toArray, List.map_cons, List.map_nil]; rfl) ?_
 with_reducible refine (HG.out _ HB0.out _ _ _ _ (by rw [wrap_id] <;> omega) (by rw [wrap_id] <;> omega)).mono ?_
 rintro e W1 ⟨rfl, hb⟩
 refine ⟨_, rfl, ?_⟩
 have HB1 := A' (below_then HB0.out HB0.out.size hb)
 clear hb
 refine hK.out _ _ ⟨(blk_cell (blk_below HZ.out HB1.out) 8).trans rfl, (blk_cell (blk_below HZ.out HB1.out) 9).trans rfl, (blk_cell (blk_below HZ.out HB1.out) 10).trans rfl, (blk_cell (blk_below HZ.out HB1.out) 1).trans rfl, (blk_cell (blk_below HZ.out HB1.out) 2).trans rfl⟩ (fun hHeld => ?_)
 clear hK K
 refine norm_ (a' := ?_) ?_ ?_; rotate_left; (show Act.put _ (some 28) _ = _; simp only [Act.put, p1', p2', p3', i64_w, i32_w]; rfl)
 refine u' 19 8 (B' 20 1048575) ?_ rfl rfl (by kernel_rfl) (fun _ _ _ h => h) (.inl ⟨by rfl, ?_⟩) ?_ ?_ ?_; rotate_left; (intro w'; go_simp; with_reducible rfl); rotate_left; (simp only [Act.put, p1', p2', p3', i64_w, i32_w]; rfl)
 refine done_ (by kernel_rfl) ?_
 obtain ⟨c, hc⟩ : ∃ c, px RW RH RP (x - dx) (y - dy) = c := ⟨_, rfl⟩
 rw [hc] at hR ⊢
 go_wp2_with (fail)
 go_loopw [29] (fun i wr => ∃ k : Nat, k ≤ 9 ∧ i = .int .i64 k ∧ flatF RW RH RP (x - dx) (y - dy) c (9 - k) k = (Rc, Rb) ∧ Aside0 (Below w.heap.size w wr)) (fun i _ => 9 - (intOf i).toNat)
 case atStart => exact ⟨0, by omega, rfl, hR, HB1⟩
 case round =>
  obtain ⟨k, hk, rfl, hF, HB2⟩ := hrel
  by_cases hlt : k < 9
  · have hltk : (k : Int) < 9 := by omega
    go_wp2_with (fail)
    have HB3 := A' (below_drew1 HB2.out)
    refine start_ (n := 29) (S := fun w' => w'.cell? ⟨g, 8, none⟩ = some (.int .i64 RW) ∧ w'.cell? ⟨g, 9, none⟩ = some (.int .i64 RH) ∧ w'.cell? ⟨g, 10, none⟩ = some (.slice AR RP.length cR) ∧ w'.cell? ⟨g, 1, none⟩ = some (.int .i64 dx) ∧ w'.cell? ⟨g, 2, none⟩ = some (.int .i64 dy)) (ds := []) #[false, false, false, false, false, false, false, false, false, false, false, false, false, false, false, false, false, false, false, false, false, false, false, false, false, false, false, false, false] (by kernel_rfl) rfl rfl ⟨(blk_cell (blk_below HZ.out HB3.out) 8).trans rfl, (blk_cell (blk_below HZ.out HB3.out) 9).trans rfl, (blk_cell (blk_below HZ.out HB3.out) 10).trans rfl, (blk_cell (blk_below HZ.out HB3.out) 1).trans rfl, (blk_cell (blk_below HZ.out HB3.out) 2).trans rfl⟩ (fun hHeld => ?_)
    refine u' 0 32 (B' 29 1) ?_ rfl rfl (by kernel_rfl) (fun _ _ _ h => h) (.inl ⟨by rfl, ?_⟩) ?_ ?_ ?_; rotate_left; (intro w'; go_simp; with_reducible rfl); rotate_left; (simp only [Act.put, p1', p2', p3', i64_w, i32_w]; rfl)
    refine u' 1 33 (B' 29 3) ?_ rfl rfl (by kernel_rfl) (fun _ _ _ h => h) (.inl ⟨by rfl, ?_⟩) ?_ ?_ ?_; rotate_left; (intro w'; go_simp; with_reducible rfl); rotate_left; (simp only [Act.put, p1', p2', p3', i64_w, i32_w]; rfl)
    refine u' 2 34 (B' 29 7) ?_ rfl rfl (by kernel_rfl) (fun _ _ _ h => h) (.inl ⟨by rfl, ?_⟩) ?_ ?_ ?_; rotate_left; (intro w'; go_simp; with_reducible rfl); rotate_left; (simp only [Act.put, p1', p2', p3', i64_w, i32_w]; rfl)
    refine u' 4 36 (B' 29 23) ?_ rfl rfl (by kernel_rfl) (fun _ _ _ h => h) (.inl ⟨by rfl, ?_⟩) ?_ ?_ ?_; rotate_left; (intro w'; go_simp; with_reducible rfl); rotate_left; (simp only [Act.put, p1', p2', p3', i64_w, i32_w]; rfl)
    refine u' 5 37 (B' 29 55) ?_ rfl rfl (by kernel_rfl) (fun _ _ _ h => h) (.inl ⟨by rfl, ?_⟩) ?_ ?_ ?_; rotate_left; (intro w'; go_simp; with_reducible rfl); rotate_left; (simp only [Act.put, p1', p2', p3', i64_w, i32_w]; rfl)
    refine u' 6 38 (B' 29 119) ?_ rfl rfl (by kernel_rfl) (fun _ _ _ h => h) (.inl ⟨by rfl, ?_⟩) ?_ ?_ ?_; rotate_left; (intro w'; go_simp; with_reducible rfl); rotate_left; (simp only [Act.put, p1', p2', p3', i64_w, i32_w]; rfl)
    refine u' 7 39 (B' 29 247) ?_ rfl rfl (by kernel_rfl) (fun _ _ _ h => h) (.inl ⟨by rfl, ?_⟩) ?_ ?_ ?_; rotate_left; (intro w'; go_simp; with_reducible rfl); rotate_left; (simp only [Act.put, p1', p2', p3', i64_w, i32_w]; rfl)
    refine u' 8 40 (B' 29 503) ?_ rfl rfl (by kernel_rfl) (fun _ _ _ h => h) (.inl ⟨by rfl, ?_⟩) ?_ ?_ ?_; rotate_left; (intro w'; go_simp; with_reducible rfl); rotate_left; (simp only [Act.put, p1', p2', p3', i64_w, i32_w]; rfl)
    refine u' 11 43 (B' 29 2551) ?_ rfl rfl (by kernel_rfl) (fun _ _ _ h => h) (.inl ⟨by rfl, ?_⟩) ?_ ?_ ?_; rotate_left; (intro w'; go_simp; with_reducible rfl); rotate_left; (simp only [Act.put, p1', p2', p3', i64_w, i32_w]; rfl)
    refine u' 12 44 (B' 29 6647) ?_ rfl rfl (by kernel_rfl) (fun _ _ _ h => h) (.inl ⟨by rfl, ?_⟩) ?_ ?_ ?_; rotate_left; (intro w'; go_simp; with_reducible rfl); rotate_left; (simp only [Act.put, p1', p2', p3', i64_w, i32_w]; rfl)
    refine u' 15 47 (B' 29 39415) ?_ rfl rfl (by kernel_rfl) (fun _ _ _ h => h) (.inl ⟨by rfl, ?_⟩) ?_ ?_ ?_; rotate_left; (intro w'; go_simp; with_reducible rfl); rotate_left; (simp only [Act.put, p1', p2', p3', i64_w, i32_w]; rfl)
    refine u' 16 48 (B' 29 104951) ?_ rfl rfl (by kernel_rfl) (fun _ _ _ h => h) (.inl ⟨by rfl, ?_⟩) ?_ ?_ ?_; rotate_left; (intro w'; go_simp; with_reducible rfl); rotate_left; (simp only [Act.put, p1', p2', p3', i64_w, i32_w]; rfl)
    refine u' 17 49 (B' 29 236023) ?_ rfl rfl (by kernel_rfl) (fun _ _ _ h => h) (.inl ⟨by rfl, ?_⟩) ?_ ?_ ?_; rotate_left; (intro w'; go_simp; with_reducible rfl); rotate_left; (simp only [Act.put, p1', p2', p3', i64_w, i32_w]; rfl)
    refine u' 18 50 (B' 29 498167) ?_ rfl rfl (by kernel_rfl) (fun _ _ _ h => h) (.inl ⟨by rfl, ?_⟩) ?_ ?_ ?_; rotate_left; (intro w'; go_simp; with_reducible rfl); rotate_left; (simp only [Act.put, p1', p2', p3', i64_w, i32_w]; rfl)
    refine u' 19 51 (B' 29 1022455) ?_ rfl rfl (by kernel_rfl) (fun _ _ _ h => h) (.inl ⟨by rfl, ?_⟩) ?_ ?_ ?_; rotate_left; (intro w'; go_simp; with_reducible rfl); rotate_left; (simp only [Act.put, p1', p2', p3', i64_w, i32_w]; rfl)
    refine u' 22 54 (B' 29 5216759) ?_ rfl rfl (by kernel_rfl) (fun _ _ _ h => h) (.inl ⟨by rfl, ?_⟩) ?_ ?_ ?_; rotate_left; (intro w'; go_simp; with_reducible rfl); rotate_left; (simp only [Act.put, p1', p2', p3', i64_w, i32_w]; rfl)
    refine u' 23 55 (B' 29 13605367) ?_ rfl rfl (by kernel_rfl) (fun _ _ _ h => h) (.inl ⟨by rfl, ?_⟩) ?_ ?_ ?_; rotate_left; (intro w'; go_simp; with_reducible rfl); rotate_left; (simp only [Act.put, p1', p2', p3', i64_w, i32_w]; rfl)
    refine u' 27 59 (B' 29 147823095) ?_ rfl rfl (by kernel_rfl) (fun _ _ _ h => h) (.inl ⟨by rfl, ?_⟩) ?_ ?_ ?_; rotate_left; (intro w'; go_simp; with_reducible rfl); rotate_left; (simp only [Act.put, p1', p2', p3', i64_w, i32_w]; rfl)
    refine t' 3 35 (B' 29 147823103) ?_ rfl rfl (by kernel_rfl) (fun _ _ _ h => h) (.inl ⟨by rfl, ?_⟩) hHeld ?_ ?_ ?_; rotate_left; (rintro w' ⟨s0, s1, s2, s3, s4⟩; go_simp; with_reducible rfl); rotate_left; (simp only [Act.put, p1', p2', p3', i64_w, i32_w]; rfl)
    refine t' 9 41 (B' 29 147823615) ?_ rfl rfl (by kernel_rfl) (fun _ _ _ h => h) (.inl ⟨by rfl, ?_⟩) hHeld ?_ ?_ ?_; rotate_left; (rintro w' ⟨s0, s1, s2, s3, s4⟩; go_simp; with_reducible rfl); rotate_left; (simp only [Act.put, p1', p2', p3', i64_w, i32_w]; rfl)
    refine u' 10 42 (B' 29 147824639) ?_ rfl rfl (by kernel_rfl) (fun _ _ _ h => h) (.inl ⟨by rfl, ?_⟩) ?_ ?_ ?_; rotate_left; (intro w'; go_simp; with_reducible rfl); rotate_left; (simp only [Act.put, p1', p2', p3', i64_w, i32_w]; rfl)
    refine u' 13 45 (B' 29 147832831) ?_ rfl rfl (by kernel_rfl) (fun _ _ _ h => h) (.inl ⟨by rfl, ?_⟩) ?_ ?_ ?_; rotate_left; (intro w'; go_simp; with_reducible rfl); rotate_left; (simp only [Act.put, p1', p2', p3', i64_w, i32_w]; rfl)
    refine u' 14 46 (B' 29 147849215) ?_ rfl rfl (by kernel_rfl) (fun _ _ _ h => h) (.inl ⟨by rfl, ?_⟩) ?_ ?_ ?_; rotate_left; (intro w'; go_simp; with_reducible rfl); rotate_left; (simp only [Act.put, p1', p2', p3', i64_w, i32_w]; rfl)
    refine t' 20 52 (B' 29 148897791) ?_ rfl rfl (by kernel_rfl) (fun _ _ _ h => h) (.inl ⟨by rfl, ?_⟩) hHeld ?_ ?_ ?_; rotate_left; (rintro w' ⟨s0, s1, s2, s3, s4⟩; go_simp; with_reducible rfl); rotate_left; (simp only [Act.put, p1', p2', p3', i64_w, i32_w]; rfl)
    refine u' 21 53 (B' 29 150994943) ?_ rfl rfl (by kernel_rfl) (fun _ _ _ h => h) (.inl ⟨by rfl, ?_⟩) ?_ ?_ ?_; rotate_left; (intro w'; go_simp; with_reducible rfl); rotate_left; (simp only [Act.put, p1', p2', p3', i64_w, i32_w]; rfl)
    refine u' 24 56 (B' 29 167772159) ?_ rfl rfl (by kernel_rfl) (fun _ _ _ h => h) (.inl ⟨by rfl, ?_⟩) ?_ ?_ ?_; rotate_left; (intro w'; go_simp; with_reducible rfl); rotate_left; (simp only [Act.put, p1', p2', p3', i64_w, i32_w]; rfl)
    refine u' 25 57 (B' 29 201326591) ?_ rfl rfl (by kernel_rfl) (fun _ _ _ h => h) (.inl ⟨by rfl, ?_⟩) ?_ ?_ ?_; rotate_left; (intro w'; go_simp; with_reducible rfl); rotate_left; (simp only [Act.put, p1', p2', p3', i64_w, i32_w]; rfl)
    refine one_ (i := 26) (N := some 58) (B' 29 268435455) rfl rfl (by kernel_rfl) (by decide) (fun K hK => ?_)
    refine goes_ Try.func62 (by kernel_rfl) rfl #[.agg #[.int .i64 RW, .int .i64 RH, .slice AR RP.length cR], .int .i64 (wrap64 (wrap64 (wrap64 (x - dx) + Int.tmod (k : Int) 3) - 1)), .int .i64 (wrap64 (wrap64 (wrap64 (y - dy) + wrap64 (Int.tdiv (k : Int) 3)) - 1))] (by rfl) rfl rfl (by simp only [List.map_toArray, List.map_cons, List.map_nil]; rfl) ?_
    with_reducible refine (HG.out _ HB3.out (x - dx + (k : Int) % 3 - 1) (y - dy + (k : Int) / 3 - 1) _ _ (by rw [Int.tmod_eq_emod_of_nonneg (by omega)]; simp (disch := omega) only [wrap_id]) (by rw [Int.tdiv_eq_ediv_of_nonneg (by omega)]; simp (disch := omega) only [wrap_id])).mono ?_
    rintro e W4 ⟨rfl, hb⟩
    refine ⟨_, rfl, ?_⟩
    have HB4 := A' (below_then HB3.out HB3.out.size hb)
    clear hb
    refine hK.out _ _ ⟨(blk_cell (blk_below HZ.out HB4.out) 8).trans rfl, (blk_cell (blk_below HZ.out HB4.out) 9).trans rfl, (blk_cell (blk_below HZ.out HB4.out) 10).trans rfl, (blk_cell (blk_below HZ.out HB4.out) 1).trans rfl, (blk_cell (blk_below HZ.out HB4.out) 2).trans rfl⟩ (fun hHeld => ?_)
    clear hK K
    refine norm_ (a' := ?_) ?_ ?_; rotate_left; (show Act.put _ (some 58) _ = _; simp only [Act.put, p1', p2', p3', i64_w, i32_w]; rfl)
    refine u' 28 60 (B' 29 536870911) ?_ rfl rfl (by kernel_rfl) (fun _ _ _ h => h) (.inl ⟨by rfl, ?_⟩) ?_ ?_ ?_; rotate_left; (intro w'; go_simp; with_reducible rfl); rotate_left; (simp only [Act.put, p1', p2', p3', i64_w, i32_w]; rfl)
    refine done_ (by kernel_rfl) ?_
    obtain ⟨pv, hpv⟩ : ∃ v, px RW RH RP (x - dx + (k : Int) % 3 - 1) (y - dy + (k : Int) / 3 - 1) = v := ⟨_, rfl⟩
    rw [show 9 - k = (9 - (k + 1)) + 1 by omega] at hF
    unfold flatF at hF
    rw [hpv] at hF ⊢
    clear hpv
    by_cases he : pv = c
    · have e1 : (pv != c) = false := by simp [he]
      rw [if_pos he] at hF
      have HF := A' hF
      clear hF he
      go_wp2_with (fail)
      exact ⟨⟨k + 1, by omega, by go_num, HF.out, HB4⟩, by simp [intOf] <;> omega⟩
    · have e1 : (pv != c) = true := bne_iff_ne.mpr he
      rw [if_neg he] at hF
      simp only [Prod.mk.injEq] at hF
      obtain ⟨rfl, rfl⟩ := hF
      clear he
      go_wp2_with (fail)
      go_ret2
      exact ⟨rfl, HB4.out⟩
  · obtain rfl : k = 9 := by omega
    have hF2 : (c, true) = (Rc, Rb) := hF
    simp only [Prod.mk.injEq] at hF2
    obtain ⟨rfl, rfl⟩ := hF2
    clear hF
    go_wp2_with (fail)
    go_ret2
    exact ⟨rfl, HB2.out⟩
end Go.Proofs.Ytkfejicdjpffcaa.Rfl
namespace Go.Proofs.Ytkfejicdjpffcaa.Rcx
open Go Go.RowKit YtkfejicdjpffcaaW PrintWords PrintLast PrintMore U Aid HandAid Mods Rpx Rfl
set_option maxHeartbeats 2000000 in
set_option maxRecDepth 100000 in
theorem context_calls (w : World) (g : Nat) (t dx dy : Int) (ty : Bool) (kd W H : Int) (AB : Option Addr) (cB : Nat) (P : List Int) (RW RH : Int) (AR : Option Addr) (cR : Nat) (RP : List Int) (x y : Int) (hZ : w.heap[g]? = some (.cells (regc t dx dy ty kd W H (.slice AB P.length cB) RW RH (.slice AR RP.length cR)) 109 (0, 0))) (hB : Kd.C (Kd.int .u8) w AB P.length P) (hcB : P.length ≤ cB) (hC : Kd.C (Kd.int .u8) w AR RP.length RP) (hcR : RP.length ≤ cR) (b : Bm W H P) (br : Bm RW RH RP) (ht : t = 0 ∨ t = 1) (hx : -100000 ≤ x ∧ x ≤ 100000) (hy : -100000 ≤ y ∧ y ≤ 100000) (hdx : -100000 ≤ dx ∧ dx ≤ 100000) (hdy : -100000 ≤ dy ∧ dy ≤ 100000) :
 Calls Try.prog 61 #[.pointer (some ⟨g, 0, none⟩), .int .i64 x, .int .i64 y] w fun e w' => e = .returned (.int .i64 (ctxP t dx dy W H P RW RH RP x y)) ∧ Below w.heap.size w w' := by
 have HZ := A' hZ
 have HBM := A' b
 have HBR := A' br
 have HG1 := A' (show ∀ (V : World), Below w.heap.size w V → ∀ (a b2 a' b' : Int), a' = a → b' = b2 → Calls Try.prog 62 #[.agg #[.int .i64 W, .int .i64 H, .slice AB P.length cB], .int .i64 a', .int .i64 b'] V fun e W' => e = .returned (.int .u8 (px W H P a b2)) ∧ Below V.heap.size V W' from fun V hb a b2 a' b' ea eb => by subst ea eb; exact refine_grid_at.calls W H AB cB P _ _ _ _ (Kd.C_below hB hb) hcB (grid_eq b _ _))
 have HG2 := A' (show ∀ (V : World), Below w.heap.size w V → ∀ (a b2 a' b' : Int), a' = a → b' = b2 → Calls Try.prog 62 #[.agg #[.int .i64 RW, .int .i64 RH, .slice AR RP.length cR], .int .i64 a', .int .i64 b'] V fun e W' => e = .returned (.int .u8 (px RW RH RP a b2)) ∧ Below V.heap.size V W' from fun V hb a b2 a' b' ea eb => by subst ea eb; exact refine_grid_at.calls RW RH AR cR RP _ _ _ _ (Kd.C_below hC hb) hcR (grid_eq br _ _))
 have hu1 := Try.underlying109
 have hu2 := Try.underlying107
 have hu3 := Try.underlying23
 have hu4 := Try.underlying127
 have hk0 : w.cell? ⟨g, 0, none⟩ = some (.int .i64 t) := (blk_cell hZ 0).trans rfl
 have hfr : refine_fresh.f t = some (news t) := by
  rcases ht with rfl | rfl <;> rfl
 have hnl : (news t).length ≤ 4 := by rw [news_len]; split <;> omega
 have hnear := near_news t
 obtain ⟨R, hR⟩ : ∃ r, ctxP t dx dy W H P RW RH RP x y = r := ⟨_, rfl⟩
 rw [hR]
 unfold ctxP at hR
 generalize news t = L at hfr hnl hnear hR
 have HNEAR1 := A' hnear
 have HFR := A' hfr
 have HR := A' hR
 clear hZ hC hB ht hfr hnear b br hR
 go_enter Try.func61, Try.ntmps61
 go_wp2_with (fail)
 refine (refine_fresh.calls t L _ HFR.out).mono ?_
 rintro e W1 ⟨v, rfl, hRv, hb1⟩
 obtain ⟨A1, c1, rfl⟩ := Kd.R_slice hRv
 obtain ⟨-, hc1, hC1⟩ := Kd.R_reads' hRv
 have HC1 := A' hC1
 have HB1 := A' hb1
 have HD1 := A' (Below.refl W1.heap.size W1)
 clear hRv hC1 hb1 hk0
 have hc := ctxN_range HBM.out x y L 0 (Int.le_refl _)
 obtain ⟨C1, hC1⟩ : ∃ r, ctxN W H P x y L 0 = r := ⟨_, rfl⟩
 rw [hC1] at hc HR
 go_wp2_with (fail)
 go_loopw [7, 19] (fun n i wr => ∃ (k : Nat) (nv : Int), k ≤ L.length ∧ n = .int .i64 nv ∧ i = .int .i64 k ∧ 0 ≤ nv ∧ nv ≤ 1048576 ∧ Aside0 ((nv + 1) * 2 ^ (L.length - k) ≤ 1048576) ∧ Aside0 (ctxN W H P x y (L.drop k) nv = C1) ∧ Aside0 (Below w.heap.size w wr) ∧ Aside0 (Below W1.heap.size W1 wr)) (fun _ i _ => L.length - (intOf i).toNat)
 case atStart => exact ⟨0, 0, Nat.zero_le _, rfl, rfl, Int.le_refl _, by decide, ⟨by rw [Nat.sub_zero]; have h2 : (2 : Nat) ^ L.length ≤ 2 ^ 4 := Nat.pow_le_pow_right (by decide) hnl; have e : ((2 ^ L.length : Nat) : Int) = (2 : Int) ^ L.length := Int.natCast_pow 2 _; omega⟩, ⟨by rw [List.drop_zero]; exact hC1⟩, HB1, HD1⟩
 case round =>
  obtain ⟨k, nv, hk, rfl, rfl, hn0, hn1, HP, HQ, HB2, HD2⟩ := hrel
  by_cases hlt : k < L.length
  · have hltk : (k : Int) < L.length := by omega
    obtain ⟨ad, hA, hx0, hx1⟩ := at_T127 (Kd.C_below HC1.out HD2.out) (k : Int) (by omega) hltk
    subst hA
    simp only [Int.toNat_natCast] at hx0 hx1
    obtain ⟨e1, e2⟩ := drop127 hlt
    obtain ⟨d, hd⟩ : ∃ d, rd_T127 L (k : Int) = d := ⟨_, rfl⟩
    rw [hd] at hx0 hx1 e1 e2
    have hdn := HNEAR1.out d e2
    unfold near at hdn
    have hQ := HQ.out
    rw [e1] at hQ
    simp only [ctxN] at hQ
    have HQ2 := A' hQ
    have hv := px_01 HBM.out (x + d.f0) (y + d.f1)
    have HS := A' (n_step hn0 (d := L.length - (k + 1)) (by have := HP.out; rwa [show L.length - k = L.length - (k + 1) + 1 by omega] at this) hv)
    have hns := HS.out.1
    have hnt : 2 * nv + px W H P (x + d.f0) (y + d.f1) ≤ 1048576 := by
     have h1 : (1 : Int) ≤ 2 ^ (L.length - (k + 1)) := by have : (0 : Int) < 2 ^ (L.length - (k + 1)) := Int.pow_pos (by decide); omega
     have h2 := HS.out.2.1
     have h3 : (2 * nv + px W H P (x + d.f0) (y + d.f1) + 1) * 1 ≤ (2 * nv + px W H P (x + d.f0) (y + d.f1) + 1) * 2 ^ (L.length - (k + 1)) := Int.mul_le_mul_of_nonneg_left h1 (by omega)
     omega
    obtain ⟨g2, hg2⟩ : ∃ q, wr.heap.size = q := ⟨_, rfl⟩
    obtain ⟨W3, hW3⟩ : ∃ q, wr.alloc (.cells #[.int .i64 d.f0, .int .i64 d.f1] 127) = q := ⟨_, rfl⟩
    have HB3 := A' (show Below w.heap.size w W3.drew from hW3 ▸ below_drew (below_alloc HB2.out _))
    have HD3 := A' (show Below W1.heap.size W1 W3.drew from hW3 ▸ below_drew (below_alloc HD2.out _))
    have HY := A' (show W3.drew.heap[g2]? = some (.cells #[.int .i64 d.f0, .int .i64 d.f1] 127 (0, 0)) from hW3 ▸ hg2 ▸ heap_new wr _)
    clear hd e1 e2 hQ HQ HB2 HD2
    go_wp2_with (fail)
    clear hW3 hg2 hx0 hx1
    refine start_ (n := 18) (S := fun w' => w'.cell? ⟨g, 5, none⟩ = some (.int .i64 W) ∧ w'.cell? ⟨g, 6, none⟩ = some (.int .i64 H) ∧ w'.cell? ⟨g, 7, none⟩ = some (.slice AB P.length cB) ∧ w'.cell? ⟨g2, 0, none⟩ = some (.int .i64 d.f0) ∧ w'.cell? ⟨g2, 1, none⟩ = some (.int .i64 d.f1)) (ds := []) #[false, false, false, false, false, false, false, false, false, false, false, false, false, false, false, false, false, false] (by kernel_rfl) rfl rfl ⟨(blk_cell (blk_below HZ.out HB3.out) 5).trans rfl, (blk_cell (blk_below HZ.out HB3.out) 6).trans rfl, (blk_cell (blk_below HZ.out HB3.out) 7).trans rfl, (blk_cell (HY.out) 0).trans rfl, (blk_cell (HY.out) 1).trans rfl⟩ (fun hHeld => ?_)
    refine u' 0 23 (B' 18 1) ?_ rfl rfl (by kernel_rfl) (fun _ _ _ h => h) (.inl ⟨by rfl, ?_⟩) ?_ ?_ ?_; rotate_left; (intro w'; go_simp; with_reducible rfl); rotate_left; (simp only [Act.put, p1', p2', p3', i64_w, i32_w]; rfl)
    refine u' 1 24 (B' 18 3) ?_ rfl rfl (by kernel_rfl) (fun _ _ _ h => h) (.inl ⟨by rfl, ?_⟩) ?_ ?_ ?_; rotate_left; (intro w'; go_simp; with_reducible rfl); rotate_left; (simp only [Act.put, p1', p2', p3', i64_w, i32_w]; rfl)
    refine u' 2 25 (B' 18 7) ?_ rfl rfl (by kernel_rfl) (fun _ _ _ h => h) (.inl ⟨by rfl, ?_⟩) ?_ ?_ ?_; rotate_left; (intro w'; go_simp; with_reducible rfl); rotate_left; (simp only [Act.put, p1', p2', p3', i64_w, i32_w]; rfl)
    refine u' 3 26 (B' 18 15) ?_ rfl rfl (by kernel_rfl) (fun _ _ _ h => h) (.inl ⟨by rfl, ?_⟩) ?_ ?_ ?_; rotate_left; (intro w'; go_simp; with_reducible rfl); rotate_left; (simp only [Act.put, p1', p2', p3', i64_w, i32_w]; rfl)
    refine u' 4 27 (B' 18 31) ?_ rfl rfl (by kernel_rfl) (fun _ _ _ h => h) (.inl ⟨by rfl, ?_⟩) ?_ ?_ ?_; rotate_left; (intro w'; go_simp; with_reducible rfl); rotate_left; (simp only [Act.put, p1', p2', p3', i64_w, i32_w]; rfl)
    refine u' 6 29 (B' 18 95) ?_ rfl rfl (by kernel_rfl) (fun _ _ _ h => h) (.inl ⟨by rfl, ?_⟩) ?_ ?_ ?_; rotate_left; (intro w'; go_simp; with_reducible rfl); rotate_left; (simp only [Act.put, p1', p2', p3', i64_w, i32_w]; rfl)
    refine u' 7 30 (B' 18 223) ?_ rfl rfl (by kernel_rfl) (fun _ _ _ h => h) (.inl ⟨by rfl, ?_⟩) ?_ ?_ ?_; rotate_left; (intro w'; go_simp; with_reducible rfl); rotate_left; (simp only [Act.put, p1', p2', p3', i64_w, i32_w]; rfl)
    refine u' 10 33 (B' 18 1247) ?_ rfl rfl (by kernel_rfl) (fun _ _ _ h => h) (.inl ⟨by rfl, ?_⟩) ?_ ?_ ?_; rotate_left; (intro w'; go_simp; with_reducible rfl); rotate_left; (simp only [Act.put, p1', p2', p3', i64_w, i32_w]; rfl)
    refine u' 11 34 (B' 18 3295) ?_ rfl rfl (by kernel_rfl) (fun _ _ _ h => h) (.inl ⟨by rfl, ?_⟩) ?_ ?_ ?_; rotate_left; (intro w'; go_simp; with_reducible rfl); rotate_left; (simp only [Act.put, p1', p2', p3', i64_w, i32_w]; rfl)
    refine t' 5 28 (B' 18 3327) ?_ rfl rfl (by kernel_rfl) (fun _ _ _ h => h) (.inl ⟨by rfl, ?_⟩) hHeld ?_ ?_ ?_; rotate_left; (rintro w' ⟨s0, s1, s2, s3, s4⟩; go_simp; with_reducible rfl); rotate_left; (simp only [Act.put, p1', p2', p3', i64_w, i32_w]; rfl)
    refine t' 8 31 (B' 18 3583) ?_ rfl rfl (by kernel_rfl) (fun _ _ _ h => h) (.inl ⟨by rfl, ?_⟩) hHeld ?_ ?_ ?_; rotate_left; (rintro w' ⟨s0, s1, s2, s3, s4⟩; go_simp; with_reducible rfl); rotate_left; (simp only [Act.put, p1', p2', p3', i64_w, i32_w]; rfl)
    refine u' 9 32 (B' 18 4095) ?_ rfl rfl (by kernel_rfl) (fun _ _ _ h => h) (.inl ⟨by rfl, ?_⟩) ?_ ?_ ?_; rotate_left; (intro w'; go_simp; with_reducible rfl); rotate_left; (simp only [Act.put, p1', p2', p3', i64_w, i32_w]; rfl)
    refine t' 12 35 (B' 18 8191) ?_ rfl rfl (by kernel_rfl) (fun _ _ _ h => h) (.inl ⟨by rfl, ?_⟩) hHeld ?_ ?_ ?_; rotate_left; (rintro w' ⟨s0, s1, s2, s3, s4⟩; go_simp; with_reducible rfl); rotate_left; (simp only [Act.put, p1', p2', p3', i64_w, i32_w]; rfl)
    refine u' 13 36 (B' 18 16383) ?_ rfl rfl (by kernel_rfl) (fun _ _ _ h => h) (.inl ⟨by rfl, ?_⟩) ?_ ?_ ?_; rotate_left; (intro w'; go_simp; with_reducible rfl); rotate_left; (simp only [Act.put, p1', p2', p3', i64_w, i32_w]; rfl)
    refine one_ (i := 14) (N := some 37) (B' 18 32767) rfl rfl (by kernel_rfl) (by decide) (fun K hK => ?_)
    refine goes_ Try.func62 (by kernel_rfl) rfl #[.agg #[.int .i64 W, .int .i64 H, .slice AB P.length cB], .int .i64 (wrap64 (x + d.f0)), .int .i64 (wrap64 (y + d.f1))] (by rfl) rfl rfl (by simp only [List.map_toArray, List.map_cons, List.map_nil]; rfl) ?_
    with_reducible refine (HG1.out _ HB3.out (x + d.f0) (y + d.f1) _ _ (by rw [wrap_id] <;> omega) (by rw [wrap_id] <;> omega)).mono ?_
    rintro e W4 ⟨rfl, hb⟩
    refine ⟨_, rfl, ?_⟩
    have HB4 := A' (below_then HB3.out HB3.out.size hb)
    have HD4 := A' (below_then HD3.out HD3.out.size hb)
    have HY4 := A' (blk_below HY.out hb)
    clear hb
    refine hK.out _ _ ⟨(blk_cell (blk_below HZ.out HB4.out) 5).trans rfl, (blk_cell (blk_below HZ.out HB4.out) 6).trans rfl, (blk_cell (blk_below HZ.out HB4.out) 7).trans rfl, (blk_cell (HY4.out) 0).trans rfl, (blk_cell (HY4.out) 1).trans rfl⟩ (fun hHeld => ?_)
    clear hK K
    refine norm_ (a' := ?_) ?_ ?_; rotate_left; (show Act.put _ (some 37) _ = _; simp only [Act.put, p1', p2', p3', i64_w, i32_w]; rfl)
    refine u' 15 38 (B' 18 65535) ?_ rfl rfl (by kernel_rfl) (fun _ _ _ h => h) (.inl ⟨by rfl, ?_⟩) ?_ ?_ ?_; rotate_left; (intro w'; go_simp; with_reducible rfl); rotate_left; (simp only [Act.put, p1', p2', p3', i64_w, i32_w]; rfl)
    refine u' 16 39 (B' 18 131071) ?_ rfl rfl (by kernel_rfl) (fun _ _ _ h => h) (.inl ⟨by rfl, ?_⟩) ?_ ?_ ?_; rotate_left; (intro w'; go_simp; with_reducible rfl); rotate_left; (simp only [Act.put, p1', p2', p3', i64_w, i32_w]; rfl)
    refine u' 17 7 (B' 18 262143) ?_ rfl rfl (by kernel_rfl) (fun _ _ _ h => h) (.inl ⟨by rfl, ?_⟩) ?_ ?_ ?_; rotate_left; (intro w'; go_simp; with_reducible rfl); rotate_left; (simp only [Act.put, p1', p2', p3', i64_w, i32_w]; rfl)
    refine done_ (by kernel_rfl) ?_
    obtain ⟨pv, hpv⟩ : ∃ q, px W H P (x + d.f0) (y + d.f1) = q := ⟨_, rfl⟩
    rw [hpv] at HQ2 HS hv hns hnt ⊢
    clear hpv
    go_wp2_with (fail)
    go_roundw
    case rel => exact ⟨k + 1, 2 * nv + pv, by omega, by first | rfl | (simp (disch := omega) only [wrap_id]), by go_num, hns, hnt, ⟨HS.out.2.1⟩, HQ2, HB4, HD4⟩
    case measure => simp [intOf]; omega
  · have hQ := HQ.out
    rw [List.drop_of_length_le (by omega)] at hQ
    simp only [ctxN] at hQ
    subst hQ
    clear HQ HP HC1 HD1 HD2
    have hc2 := hc.2
    have hp16 : (2 : Int) ^ L.length ≤ 16 := by
     have h2 : (2 : Nat) ^ L.length ≤ 2 ^ 4 := Nat.pow_le_pow_right (by decide) hnl
     have e : ((2 ^ L.length : Nat) : Int) = (2 : Int) ^ L.length := Int.natCast_pow 2 _
     omega
    have hn16 : nv ≤ 15 := by omega
    have hn00 := hc.1
    clear hc hc2 hp16
    go_wp2_with (fail)
    refine (refine_beside.calls besides _ rfl).mono ?_
    rintro e W2 ⟨v2, rfl, hRv, hb2⟩
    obtain ⟨A2, c2, rfl⟩ := Kd.R_slice hRv
    obtain ⟨-, hc2, hC2⟩ := Kd.R_reads' hRv
    have HC2 := A' hC2
    have HBn := A' (below_then HB2.out HB2.out.size hb2)
    have HD2 := A' (Below.refl W2.heap.size W2)
    clear hRv hC2 hb2 HB2
    have HNEAR2 := A' (show ∀ d ∈ besides, near d by unfold besides near; simp)
    obtain ⟨M, hM⟩ : ∃ M, besides = M := ⟨_, rfl⟩
    have hml : M.length = 5 := by rw [← hM]; rfl
    rw [hM] at HR HC2 HNEAR2 ⊢
    clear hM
    have HM := A' hml
    have hml5 : M.length ≤ 5 := by omega
    clear hml
    have HR2 := HR
    clear HR
    go_wp2_with (fail)
    go_loopw [7, 43] (fun n i wr => ∃ (k : Nat) (nv : Int), k ≤ M.length ∧ n = .int .i64 nv ∧ i = .int .i64 k ∧ 0 ≤ nv ∧ nv ≤ 1048576 ∧ Aside0 ((nv + 1) * 2 ^ (M.length - k) ≤ 1048576) ∧ Aside0 (ctxN RW RH RP (x - dx) (y - dy) (M.drop k) nv = R) ∧ Aside0 (Below w.heap.size w wr) ∧ Aside0 (Below W2.heap.size W2 wr)) (fun _ i _ => M.length - (intOf i).toNat)
    case atStart => exact ⟨0, nv, Nat.zero_le _, rfl, rfl, hn00, by omega, ⟨by rw [HM.out]; have : (2 : Int) ^ (5 - 0) = 32 := rfl; rw [this]; omega⟩, ⟨HR2.out⟩, HBn, HD2⟩
    case round =>
     obtain ⟨k, nv, hk, rfl, rfl, hn0, hn1, HP, HQ, HB2, HD2⟩ := hrel
     by_cases hlt : k < M.length
     · have hltk : (k : Int) < M.length := by omega
       obtain ⟨ad, hA, hx0, hx1⟩ := at_T127 (Kd.C_below HC2.out HD2.out) (k : Int) (by omega) hltk
       subst hA
       simp only [Int.toNat_natCast] at hx0 hx1
       obtain ⟨e1, e2⟩ := drop127 hlt
       obtain ⟨d, hd⟩ : ∃ d, rd_T127 M (k : Int) = d := ⟨_, rfl⟩
       rw [hd] at hx0 hx1 e1 e2
       have hdn := HNEAR2.out d e2
       unfold near at hdn
       have hQ := HQ.out
       rw [e1] at hQ
       simp only [ctxN] at hQ
       have HQ2 := A' hQ
       have hv := px_01 HBR.out (x - dx + d.f0) (y - dy + d.f1)
       have HS := A' (n_step hn0 (d := M.length - (k + 1)) (by have := HP.out; rwa [show M.length - k = M.length - (k + 1) + 1 by omega] at this) hv)
       have hns := HS.out.1
       have hnt : 2 * nv + px RW RH RP (x - dx + d.f0) (y - dy + d.f1) ≤ 1048576 := by
        have h1 : (1 : Int) ≤ 2 ^ (M.length - (k + 1)) := by have : (0 : Int) < 2 ^ (M.length - (k + 1)) := Int.pow_pos (by decide); omega
        have h2 := HS.out.2.1
        have h3 : (2 * nv + px RW RH RP (x - dx + d.f0) (y - dy + d.f1) + 1) * 1 ≤ (2 * nv + px RW RH RP (x - dx + d.f0) (y - dy + d.f1) + 1) * 2 ^ (M.length - (k + 1)) := Int.mul_le_mul_of_nonneg_left h1 (by omega)
        omega
       obtain ⟨g2, hg2⟩ : ∃ q, wr.heap.size = q := ⟨_, rfl⟩
       obtain ⟨W3, hW3⟩ : ∃ q, wr.alloc (.cells #[.int .i64 d.f0, .int .i64 d.f1] 127) = q := ⟨_, rfl⟩
       have HB3 := A' (show Below w.heap.size w W3.drew from hW3 ▸ below_drew (below_alloc HB2.out _))
       have HD3 := A' (show Below W2.heap.size W2 W3.drew from hW3 ▸ below_drew (below_alloc HD2.out _))
       have HY := A' (show W3.drew.heap[g2]? = some (.cells #[.int .i64 d.f0, .int .i64 d.f1] 127 (0, 0)) from hW3 ▸ hg2 ▸ heap_new wr _)
       clear hd e1 e2 hQ HQ HB2 HD2
       go_wp2_with (fail)
       clear hW3 hg2 hx0 hx1
       refine start_ (n := 30) (S := fun w' => w'.cell? ⟨g, 8, none⟩ = some (.int .i64 RW) ∧ w'.cell? ⟨g, 9, none⟩ = some (.int .i64 RH) ∧ w'.cell? ⟨g, 10, none⟩ = some (.slice AR RP.length cR) ∧ w'.cell? ⟨g, 1, none⟩ = some (.int .i64 dx) ∧ w'.cell? ⟨g, 2, none⟩ = some (.int .i64 dy) ∧ w'.cell? ⟨g2, 0, none⟩ = some (.int .i64 d.f0) ∧ w'.cell? ⟨g2, 1, none⟩ = some (.int .i64 d.f1)) (ds := []) #[false, false, false, false, false, false, false, false, false, false, false, false, false, false, false, false, false, false, false, false, false, false, false, false, false, false, false, false, false, false] (by kernel_rfl) rfl rfl ⟨(blk_cell (blk_below HZ.out HB3.out) 8).trans rfl, (blk_cell (blk_below HZ.out HB3.out) 9).trans rfl, (blk_cell (blk_below HZ.out HB3.out) 10).trans rfl, (blk_cell (blk_below HZ.out HB3.out) 1).trans rfl, (blk_cell (blk_below HZ.out HB3.out) 2).trans rfl, (blk_cell (HY.out) 0).trans rfl, (blk_cell (HY.out) 1).trans rfl⟩ (fun hHeld => ?_)
       refine u' 0 47 (B' 30 1) ?_ rfl rfl (by kernel_rfl) (fun _ _ _ h => h) (.inl ⟨by rfl, ?_⟩) ?_ ?_ ?_; rotate_left; (intro w'; go_simp; with_reducible rfl); rotate_left; (simp only [Act.put, p1', p2', p3', i64_w, i32_w]; rfl)
       refine u' 1 48 (B' 30 3) ?_ rfl rfl (by kernel_rfl) (fun _ _ _ h => h) (.inl ⟨by rfl, ?_⟩) ?_ ?_ ?_; rotate_left; (intro w'; go_simp; with_reducible rfl); rotate_left; (simp only [Act.put, p1', p2', p3', i64_w, i32_w]; rfl)
       refine u' 2 49 (B' 30 7) ?_ rfl rfl (by kernel_rfl) (fun _ _ _ h => h) (.inl ⟨by rfl, ?_⟩) ?_ ?_ ?_; rotate_left; (intro w'; go_simp; with_reducible rfl); rotate_left; (simp only [Act.put, p1', p2', p3', i64_w, i32_w]; rfl)
       refine u' 3 50 (B' 30 15) ?_ rfl rfl (by kernel_rfl) (fun _ _ _ h => h) (.inl ⟨by rfl, ?_⟩) ?_ ?_ ?_; rotate_left; (intro w'; go_simp; with_reducible rfl); rotate_left; (simp only [Act.put, p1', p2', p3', i64_w, i32_w]; rfl)
       refine u' 4 51 (B' 30 31) ?_ rfl rfl (by kernel_rfl) (fun _ _ _ h => h) (.inl ⟨by rfl, ?_⟩) ?_ ?_ ?_; rotate_left; (intro w'; go_simp; with_reducible rfl); rotate_left; (simp only [Act.put, p1', p2', p3', i64_w, i32_w]; rfl)
       refine u' 6 53 (B' 30 95) ?_ rfl rfl (by kernel_rfl) (fun _ _ _ h => h) (.inl ⟨by rfl, ?_⟩) ?_ ?_ ?_; rotate_left; (intro w'; go_simp; with_reducible rfl); rotate_left; (simp only [Act.put, p1', p2', p3', i64_w, i32_w]; rfl)
       refine u' 7 54 (B' 30 223) ?_ rfl rfl (by kernel_rfl) (fun _ _ _ h => h) (.inl ⟨by rfl, ?_⟩) ?_ ?_ ?_; rotate_left; (intro w'; go_simp; with_reducible rfl); rotate_left; (simp only [Act.put, p1', p2', p3', i64_w, i32_w]; rfl)
       refine u' 8 55 (B' 30 479) ?_ rfl rfl (by kernel_rfl) (fun _ _ _ h => h) (.inl ⟨by rfl, ?_⟩) ?_ ?_ ?_; rotate_left; (intro w'; go_simp; with_reducible rfl); rotate_left; (simp only [Act.put, p1', p2', p3', i64_w, i32_w]; rfl)
       refine u' 9 56 (B' 30 991) ?_ rfl rfl (by kernel_rfl) (fun _ _ _ h => h) (.inl ⟨by rfl, ?_⟩) ?_ ?_ ?_; rotate_left; (intro w'; go_simp; with_reducible rfl); rotate_left; (simp only [Act.put, p1', p2', p3', i64_w, i32_w]; rfl)
       refine u' 10 57 (B' 30 2015) ?_ rfl rfl (by kernel_rfl) (fun _ _ _ h => h) (.inl ⟨by rfl, ?_⟩) ?_ ?_ ?_; rotate_left; (intro w'; go_simp; with_reducible rfl); rotate_left; (simp only [Act.put, p1', p2', p3', i64_w, i32_w]; rfl)
       refine u' 13 60 (B' 30 10207) ?_ rfl rfl (by kernel_rfl) (fun _ _ _ h => h) (.inl ⟨by rfl, ?_⟩) ?_ ?_ ?_; rotate_left; (intro w'; go_simp; with_reducible rfl); rotate_left; (simp only [Act.put, p1', p2', p3', i64_w, i32_w]; rfl)
       refine u' 16 63 (B' 30 75743) ?_ rfl rfl (by kernel_rfl) (fun _ _ _ h => h) (.inl ⟨by rfl, ?_⟩) ?_ ?_ ?_; rotate_left; (intro w'; go_simp; with_reducible rfl); rotate_left; (simp only [Act.put, p1', p2', p3', i64_w, i32_w]; rfl)
       refine u' 17 64 (B' 30 206815) ?_ rfl rfl (by kernel_rfl) (fun _ _ _ h => h) (.inl ⟨by rfl, ?_⟩) ?_ ?_ ?_; rotate_left; (intro w'; go_simp; with_reducible rfl); rotate_left; (simp only [Act.put, p1', p2', p3', i64_w, i32_w]; rfl)
       refine u' 18 65 (B' 30 468959) ?_ rfl rfl (by kernel_rfl) (fun _ _ _ h => h) (.inl ⟨by rfl, ?_⟩) ?_ ?_ ?_; rotate_left; (intro w'; go_simp; with_reducible rfl); rotate_left; (simp only [Act.put, p1', p2', p3', i64_w, i32_w]; rfl)
       refine u' 19 66 (B' 30 993247) ?_ rfl rfl (by kernel_rfl) (fun _ _ _ h => h) (.inl ⟨by rfl, ?_⟩) ?_ ?_ ?_; rotate_left; (intro w'; go_simp; with_reducible rfl); rotate_left; (simp only [Act.put, p1', p2', p3', i64_w, i32_w]; rfl)
       refine u' 20 67 (B' 30 2041823) ?_ rfl rfl (by kernel_rfl) (fun _ _ _ h => h) (.inl ⟨by rfl, ?_⟩) ?_ ?_ ?_; rotate_left; (intro w'; go_simp; with_reducible rfl); rotate_left; (simp only [Act.put, p1', p2', p3', i64_w, i32_w]; rfl)
       refine u' 23 70 (B' 30 10430431) ?_ rfl rfl (by kernel_rfl) (fun _ _ _ h => h) (.inl ⟨by rfl, ?_⟩) ?_ ?_ ?_; rotate_left; (intro w'; go_simp; with_reducible rfl); rotate_left; (simp only [Act.put, p1', p2', p3', i64_w, i32_w]; rfl)
       refine t' 5 52 (B' 30 10430463) ?_ rfl rfl (by kernel_rfl) (fun _ _ _ h => h) (.inl ⟨by rfl, ?_⟩) hHeld ?_ ?_ ?_; rotate_left; (rintro w' ⟨s0, s1, s2, s3, s4, s5, s6⟩; go_simp; with_reducible rfl); rotate_left; (simp only [Act.put, p1', p2', p3', i64_w, i32_w]; rfl)
       refine t' 11 58 (B' 30 10432511) ?_ rfl rfl (by kernel_rfl) (fun _ _ _ h => h) (.inl ⟨by rfl, ?_⟩) hHeld ?_ ?_ ?_; rotate_left; (rintro w' ⟨s0, s1, s2, s3, s4, s5, s6⟩; go_simp; with_reducible rfl); rotate_left; (simp only [Act.put, p1', p2', p3', i64_w, i32_w]; rfl)
       refine u' 12 59 (B' 30 10436607) ?_ rfl rfl (by kernel_rfl) (fun _ _ _ h => h) (.inl ⟨by rfl, ?_⟩) ?_ ?_ ?_; rotate_left; (intro w'; go_simp; with_reducible rfl); rotate_left; (simp only [Act.put, p1', p2', p3', i64_w, i32_w]; rfl)
       refine t' 14 61 (B' 30 10452991) ?_ rfl rfl (by kernel_rfl) (fun _ _ _ h => h) (.inl ⟨by rfl, ?_⟩) hHeld ?_ ?_ ?_; rotate_left; (rintro w' ⟨s0, s1, s2, s3, s4, s5, s6⟩; go_simp; with_reducible rfl); rotate_left; (simp only [Act.put, p1', p2', p3', i64_w, i32_w]; rfl)
       refine u' 15 62 (B' 30 10485759) ?_ rfl rfl (by kernel_rfl) (fun _ _ _ h => h) (.inl ⟨by rfl, ?_⟩) ?_ ?_ ?_; rotate_left; (intro w'; go_simp; with_reducible rfl); rotate_left; (simp only [Act.put, p1', p2', p3', i64_w, i32_w]; rfl)
       refine t' 21 68 (B' 30 12582911) ?_ rfl rfl (by kernel_rfl) (fun _ _ _ h => h) (.inl ⟨by rfl, ?_⟩) hHeld ?_ ?_ ?_; rotate_left; (rintro w' ⟨s0, s1, s2, s3, s4, s5, s6⟩; go_simp; with_reducible rfl); rotate_left; (simp only [Act.put, p1', p2', p3', i64_w, i32_w]; rfl)
       refine u' 22 69 (B' 30 16777215) ?_ rfl rfl (by kernel_rfl) (fun _ _ _ h => h) (.inl ⟨by rfl, ?_⟩) ?_ ?_ ?_; rotate_left; (intro w'; go_simp; with_reducible rfl); rotate_left; (simp only [Act.put, p1', p2', p3', i64_w, i32_w]; rfl)
       refine t' 24 71 (B' 30 33554431) ?_ rfl rfl (by kernel_rfl) (fun _ _ _ h => h) (.inl ⟨by rfl, ?_⟩) hHeld ?_ ?_ ?_; rotate_left; (rintro w' ⟨s0, s1, s2, s3, s4, s5, s6⟩; go_simp; with_reducible rfl); rotate_left; (simp only [Act.put, p1', p2', p3', i64_w, i32_w]; rfl)
       refine u' 25 72 (B' 30 67108863) ?_ rfl rfl (by kernel_rfl) (fun _ _ _ h => h) (.inl ⟨by rfl, ?_⟩) ?_ ?_ ?_; rotate_left; (intro w'; go_simp; with_reducible rfl); rotate_left; (simp only [Act.put, p1', p2', p3', i64_w, i32_w]; rfl)
       refine one_ (i := 26) (N := some 73) (B' 30 134217727) rfl rfl (by kernel_rfl) (by decide) (fun K hK => ?_)
       refine goes_ Try.func62 (by kernel_rfl) rfl #[.agg #[.int .i64 RW, .int .i64 RH, .slice AR RP.length cR], .int .i64 (wrap64 (wrap64 (x - dx) + d.f0)), .int .i64 (wrap64 (wrap64 (y - dy) + d.f1))] (by rfl) rfl rfl (by simp only [List.map_toArray, List.map_cons, List.map_nil]; rfl) ?_
       with_reducible refine (HG2.out _ HB3.out (x - dx + d.f0) (y - dy + d.f1) _ _ (by simp (disch := omega) only [wrap_id]) (by simp (disch := omega) only [wrap_id])).mono ?_
       rintro e W4 ⟨rfl, hb⟩
       refine ⟨_, rfl, ?_⟩
       have HB4 := A' (below_then HB3.out HB3.out.size hb)
       have HD4 := A' (below_then HD3.out HD3.out.size hb)
       have HY4 := A' (blk_below HY.out hb)
       clear hb
       refine hK.out _ _ ⟨(blk_cell (blk_below HZ.out HB4.out) 8).trans rfl, (blk_cell (blk_below HZ.out HB4.out) 9).trans rfl, (blk_cell (blk_below HZ.out HB4.out) 10).trans rfl, (blk_cell (blk_below HZ.out HB4.out) 1).trans rfl, (blk_cell (blk_below HZ.out HB4.out) 2).trans rfl, (blk_cell (HY4.out) 0).trans rfl, (blk_cell (HY4.out) 1).trans rfl⟩ (fun hHeld => ?_)
       clear hK K
       refine norm_ (a' := ?_) ?_ ?_; rotate_left; (show Act.put _ (some 73) _ = _; simp only [Act.put, p1', p2', p3', i64_w, i32_w]; rfl)
       refine u' 27 74 (B' 30 268435455) ?_ rfl rfl (by kernel_rfl) (fun _ _ _ h => h) (.inl ⟨by rfl, ?_⟩) ?_ ?_ ?_; rotate_left; (intro w'; go_simp; with_reducible rfl); rotate_left; (simp only [Act.put, p1', p2', p3', i64_w, i32_w]; rfl)
       refine u' 28 75 (B' 30 536870911) ?_ rfl rfl (by kernel_rfl) (fun _ _ _ h => h) (.inl ⟨by rfl, ?_⟩) ?_ ?_ ?_; rotate_left; (intro w'; go_simp; with_reducible rfl); rotate_left; (simp only [Act.put, p1', p2', p3', i64_w, i32_w]; rfl)
       refine u' 29 7 (B' 30 1073741823) ?_ rfl rfl (by kernel_rfl) (fun _ _ _ h => h) (.inl ⟨by rfl, ?_⟩) ?_ ?_ ?_; rotate_left; (intro w'; go_simp; with_reducible rfl); rotate_left; (simp only [Act.put, p1', p2', p3', i64_w, i32_w]; rfl)
       refine done_ (by kernel_rfl) ?_
       obtain ⟨pv, hpv⟩ : ∃ q, px RW RH RP (x - dx + d.f0) (y - dy + d.f1) = q := ⟨_, rfl⟩
       rw [hpv] at HQ2 HS hv hns hnt ⊢
       clear hpv
       go_wp2_with (fail)
       go_roundw
       case rel => exact ⟨k + 1, 2 * nv + pv, by omega, by first | rfl | (simp (disch := omega) only [wrap_id]), by go_num, hns, hnt, ⟨HS.out.2.1⟩, HQ2, HB4, HD4⟩
       case measure => simp [intOf]; omega
     · have hQ := HQ.out
       rw [List.drop_of_length_le (by omega)] at hQ
       simp only [ctxN] at hQ
       subst hQ
       go_wp2_with (fail)
       go_ret
       exact ⟨rfl, HB2.out⟩
end Go.Proofs.Ytkfejicdjpffcaa.Rcx
namespace Go.Proofs.Ytkfejicdjpffcaa.Rty
open Go Go.RowKit YtkfejicdjpffcaaW PrintWords PrintLast PrintMore U Aid HandAid Mods Rpx Rfl Rcx
/-- A region at g: its cells, its two bitmaps' rows. -/
structure Reg (w : World) (g : Nat) (t dx dy : Int) (ty : Bool) (kd W H : Int) (AB : Option Addr) (cB : Nat) (P : List Int) (RW RH : Int) (AR : Option Addr) (cR : Nat) (RP : List Int) : Prop where
 z : w.heap[g]? = some (.cells (regc t dx dy ty kd W H (.slice AB P.length cB) RW RH (.slice AR RP.length cR)) 109 (0, 0))
 cb : Kd.C (Kd.int .u8) w AB P.length P
 hcb : P.length ≤ cB
 cr : Kd.C (Kd.int .u8) w AR RP.length RP
 hcr : RP.length ≤ cR
 b : Bm W H P
 r : Bm RW RH RP
 t01 : t = 0 ∨ t = 1
 dx_ : -100000 ≤ dx ∧ dx ≤ 100000
 dy_ : -100000 ≤ dy ∧ dy ≤ 100000
section
variable {w w' : World} {g : Nat} {t dx dy : Int} {ty : Bool} {kd W H : Int} {AB : Option Addr} {cB : Nat} {P : List Int} {RW RH : Int} {AR : Option Addr} {cR : Nat} {RP : List Int}
theorem Reg.below (R : Reg w g t dx dy ty kd W H AB cB P RW RH AR cR RP) (hb : Below w.heap.size w w') : Reg w' g t dx dy ty kd W H AB cB P RW RH AR cR RP :=
 ⟨blk_below R.z hb, Kd.C_below R.cb hb, R.hcb, Kd.C_below R.cr hb, R.hcr, R.b, R.r, R.t01, R.dx_, R.dy_⟩
theorem Reg.flat (R : Reg w g t dx dy ty kd W H AB cB P RW RH AR cR RP) (x y : Int) (hx : -100000 ≤ x ∧ x ≤ 100000) (hy : -100000 ≤ y ∧ y ≤ 100000) :
 Calls Try.prog 60 #[.pointer (some ⟨g, 0, none⟩), .int .i64 x, .int .i64 y] w fun e w' => e = .returned (.tuple #[.int .u8 (flatP RW RH RP (x - dx) (y - dy)).1, .bool (flatP RW RH RP (x - dx) (y - dy)).2]) ∧ Below w.heap.size w w' :=
 flat_calls w g t dx dy ty kd W H _ RW RH AR cR RP x y R.z R.cr R.hcr R.r hx hy R.dx_ R.dy_
theorem Reg.context (R : Reg w g t dx dy ty kd W H AB cB P RW RH AR cR RP) (x y : Int) (hx : -100000 ≤ x ∧ x ≤ 100000) (hy : -100000 ≤ y ∧ y ≤ 100000) :
 Calls Try.prog 61 #[.pointer (some ⟨g, 0, none⟩), .int .i64 x, .int .i64 y] w fun e w' => e = .returned (.int .i64 (ctxP t dx dy W H P RW RH RP x y)) ∧ Below w.heap.size w w' :=
 context_calls w g t dx dy ty kd W H AB cB P RW RH AR cR RP x y R.z R.cb R.hcb R.cr R.hcr R.b R.r R.t01 hx hy R.dx_ R.dy_
theorem Reg.at_ (R : Reg w g t dx dy ty kd W H AB cB P RW RH AR cR RP) (x y : Int) :
 Calls Try.prog 62 #[.agg #[.int .i64 W, .int .i64 H, .slice AB P.length cB], .int .i64 x, .int .i64 y] w fun e w' => e = .returned (.int .u8 (px W H P x y)) ∧ Below w.heap.size w w' :=
 refine_grid_at.calls W H AB cB P _ _ _ _ R.cb R.hcb (grid_eq R.b _ _)
end
set_option maxHeartbeats 2000000 in
set_option maxRecDepth 100000 in
theorem typical_calls (w : World) (g : Nat) (t dx dy : Int) (ty : Bool) (kd W H : Int) (AB : Option Addr) (cB : Nat) (P : List Int) (RW RH : Int) (AR : Option Addr) (cR : Nat) (RP : List Int) (y : Int) (hR : Reg w g t dx dy ty kd W H AB cB P RW RH AR cR RP) (hy : -100000 ≤ y ∧ y ≤ 100000) :
 Calls Try.prog 59 #[.pointer (some ⟨g, 0, none⟩), .int .i64 y] w fun e w' => e = .returned (.bool (rowP dx dy W H P RW RH RP y W.toNat 0)) ∧ Below w.heap.size w w' := by
 have HR := A' hR
 have hu1 := Try.underlying109
 have hu2 := Try.underlying107
 have hu3 := Try.underlying23
 have hw := hR.b.w
 have hk5 : w.cell? ⟨g, 5, none⟩ = some (.int .i64 W) := (blk_cell hR.z 5).trans rfl
 have HB0 := A' (Below.refl w.heap.size w)
 clear hR
 obtain ⟨R, hQ⟩ : ∃ r, rowP dx dy W H P RW RH RP y W.toNat 0 = r := ⟨_, rfl⟩
 rw [hQ]
 go_enter Try.func59, Try.ntmps59
 go_wp2_with (fail)
 go_loopw [13] (fun i wr => ∃ k : Nat, k ≤ W.toNat ∧ i = .int .i64 k ∧ rowP dx dy W H P RW RH RP y (W.toNat - k) k = R ∧ Aside0 (Below w.heap.size w wr)) (fun i _ => W.toNat - (intOf i).toNat)
 case atStart => exact ⟨0, Nat.zero_le _, rfl, hQ, HB0⟩
 clear hk5 HB0 hQ
 case round =>
  obtain ⟨k, hk, rfl, hQ, HB1⟩ := hrel
  by_cases hlt : k < W.toNat
  · have hltk : (k : Int) < W := by omega
    rw [show W.toNat - k = (W.toNat - (k + 1)) + 1 by omega] at hQ
    unfold rowP at hQ
    go_wp2_with (fail)
    refine ((HR.out.below HB1.out).flat (k : Int) y (by omega) hy).mono ?_
    rintro e W2 ⟨rfl, hb⟩
    have HB2 := A' (below_then HB1.out HB1.out.size hb)
    clear hb HB1
    obtain ⟨⟨c, is⟩, hF⟩ : ∃ r, flatP RW RH RP ((k : Int) - dx) (y - dy) = r := ⟨_, rfl⟩
    rw [hF] at hQ ⊢
    clear hF
    simp only at hQ ⊢
    cases is
    · rw [if_neg (by decide)] at hQ
      have HQ := A' hQ
      clear hQ
      go_wp2_with (fail)
      exact ⟨⟨k + 1, by omega, by go_num, HQ.out, HB2⟩, by simp [intOf]; omega⟩
    · rw [if_pos rfl] at hQ
      have hR2 := HR.out.below HB2.out
      have q5 : W2.cell? ⟨g, 5, none⟩ = some (.int .i64 W) := (blk_cell hR2.z 5).trans rfl
      have q6 : W2.cell? ⟨g, 6, none⟩ = some (.int .i64 H) := (blk_cell hR2.z 6).trans rfl
      have q7 : W2.cell? ⟨g, 7, none⟩ = some (.slice AB P.length cB) := (blk_cell hR2.z 7).trans rfl
      have HR2 := A' hR2
      have HQ := A' hQ
      clear hR2 hQ
      go_wp2_with (fail)
      refine (HR2.out.at_ (k : Int) y).mono ?_
      rintro e W3 ⟨rfl, hb⟩
      have HB3 := A' (below_then HB2.out HB2.out.size hb)
      clear hb
      have hQ := HQ.out
      clear HQ q5 q6 q7
      obtain ⟨pv, hpv⟩ : ∃ q, px W H P (k : Int) y = q := ⟨_, rfl⟩
      rw [hpv] at hQ ⊢
      clear hpv
      by_cases he : pv = c
      · have e1 : (c != pv) = false := by simp [he]
        rw [if_pos he] at hQ
        have HQ := A' hQ
        clear hQ he
        go_wp2_with (fail)
        exact ⟨⟨k + 1, by omega, by go_num, HQ.out, HB3⟩, by simp [intOf]; omega⟩
      · have e1 : (c != pv) = true := bne_iff_ne.mpr (fun h => he h.symm)
        rw [if_neg he] at hQ
        subst hQ
        clear he
        go_wp2_with (fail)
        go_ret
        exact ⟨rfl, HB3.out⟩
  · obtain rfl : k = W.toNat := by omega
    rw [Nat.sub_self] at hQ
    have hQ2 : true = R := hQ
    subst hQ2
    go_wp2_with (fail)
    go_ret
    exact ⟨rfl, HB1.out⟩
set_option maxHeartbeats 1000000 in
set_option maxRecDepth 100000 in
theorem newRegion_calls (w : World) (t dx dy : Int) (ty : Bool) (kd W H : Int) (vb : Value) (RW RH : Int) (vr : Value) (AB : Option Addr) (nB cB : Nat) (AR : Option Addr) (nR cR : Nat) (hvb : vb = .slice AB nB cB) (hvr : vr = .slice AR nR cR) :
 Calls Try.prog 58 #[.agg #[.int .i64 t, .int .i64 dx, .int .i64 dy, .bool ty, .int .i64 kd], .int .i64 W, .int .i64 H, vb, .agg #[.int .i64 RW, .int .i64 RH, vr]] w fun e w' => ∃ g, e = .returned (.pointer (some ⟨g, 0, none⟩)) ∧ w.heap.size ≤ g ∧ w'.heap[g]? = some (.cells (regc t dx dy ty kd W H vb RW RH vr) 109 (0, 0)) ∧ Below w.heap.size w w' := by
 subst hvb hvr
 have hu1 := Try.underlying109
 have hu2 := Try.underlying107
 have hu3 := Try.underlying23
 have hu4 := Try.underlying31
 go_enter Try.func58, Try.ntmps58
 go_wp2_with (fail)
 go_ret
 refine ⟨_, rfl, ?_, ?_, below_alloc (below_alloc (below_alloc (Below.refl _ _) _) _) _⟩
 · omega
 · have h := heap_new ((w.alloc (.cells #[.int .i64 t, .int .i64 dx, .int .i64 dy, .bool ty, .int .i64 kd] 23)).alloc (.cells #[.int .i64 RW, .int .i64 RH, .slice AR nR cR] 31)) (.cells (regc t dx dy ty kd W H (.slice AB nB cB) RW RH (.slice AR nR cR)) 109)
   rw [World.size_alloc, World.size_alloc] at h
   exact h
end Go.Proofs.Ytkfejicdjpffcaa.Rty
namespace Go.Proofs.Ytkfejicdjpffcaa.Rev
open Go Go.RowKit YtkfejicdjpffcaaW PrintWords PrintLast PrintMore U Aid HandAid Cod1 Cod2 Cod3 Ytkfejicdjpffcaa.Mod Enc Mods EncAt Put End Snc Pse Rpx Rva
/-- What a region is coded by: options, sides, the reference, the base of its contexts. -/
structure RQ where
 t : Int
 dx : Int
 dy : Int
 ty : Bool
 W : Int
 H : Int
 RW : Int
 RH : Int
 RP : List Int
 base : Int
def RQ.ctx (q : RQ) (P : List Int) (x y : Int) : Int := ctxP q.t q.dx q.dy q.W q.H P q.RW q.RH q.RP x y
def RQ.flat (q : RQ) (x y : Int) : Int × Bool := flatP q.RW q.RH q.RP (x - q.dx) (y - q.dy)
def RQ.typ (q : RQ) (P : List Int) (y : Int) : Bool := q.ty && rowP q.dx q.dy q.W q.H P q.RW q.RH q.RP y q.W.toNat 0
/-- The events of a row, from pixel i on. -/
def evX (q : RQ) (P : List Int) (y : Int) (typ : Bool) : Nat → Nat → List S72
 | 0, _ => []
 | d + 1, i => if typ = true ∧ (q.flat i y).2 = true then evX q P y typ d (i + 1) else ⟨q.base + q.ctx P i y, px q.W q.H P i y⟩ :: evX q P y typ d (i + 1)
def bit1 (b : Bool) : Int := if b = true then 1 else 0
/-- The event ahead of a row. -/
def evH (q : RQ) (P : List Int) (y : Int) : List S72 := if q.ty = true then [⟨q.base + ctxs q.t, bit1 (q.typ P y)⟩] else []
/-- The events of the rows from j on. -/
def evY (q : RQ) (P : List Int) : Nat → Nat → List S72
 | 0, _ => []
 | d + 1, j => evH q P j ++ (evX q P j (q.typ P j) q.W.toNat 0 ++ evY q P d (j + 1))
/-- The events of a region. -/
def evR (q : RQ) (P : List Int) : List S72 := evY q P q.H.toNat 0
theorem evX_len (q : RQ) (P : List Int) (y : Int) (typ : Bool) : ∀ d i, (evX q P y typ d i).length ≤ d
 | 0, i => Nat.le_refl _
 | d + 1, i => by
   unfold evX
   have := evX_len q P y typ d (i + 1)
   split
   · omega
   · rw [List.length_cons]; omega
theorem evH_len (q : RQ) (P : List Int) (y : Int) : (evH q P y).length ≤ 1 := by
 unfold evH
 split <;> simp
theorem evY_len (q : RQ) (P : List Int) : ∀ d j, (evY q P d j).length ≤ d * (q.W.toNat + 1)
 | 0, j => Nat.zero_le _
 | d + 1, j => by
   unfold evY
   have h1 := evY_len q P d (j + 1)
   have h2 := evX_len q P j (q.typ P j) q.W.toNat 0
   have h3 := evH_len q P j
   rw [List.length_append, List.length_append, Nat.succ_mul]
   omega
theorem evR_len (q : RQ) (P : List Int) (hw : q.W ≤ 200) (hh : q.H ≤ 200) : (evR q P).length ≤ 40200 := by
 have h1 := evY_len q P q.H.toNat 0
 have h2 : q.H.toNat * (q.W.toNat + 1) ≤ 200 * 201 := Nat.mul_le_mul (by omega) (by omega)
 unfold evR
 omega
/-- Events are put, one behind the other. -/
def putsI (s : ES) (l : List S72) : ES := l.foldl (fun s x => s.putI x.f0 x.f1) s
theorem putsI_cons (s : ES) (x : S72) (l : List S72) : putsI s (x :: l) = putsI (s.putI x.f0 x.f1) l := rfl
theorem putsI_ok : ∀ (l : List S72) (s : ES), s.ok → (putsI s l).ok
 | [], s, h => h
 | x :: l, s, h => putsI_ok l _ (ES.putI_ok h _ _)
theorem putsI_out : ∀ (l : List S72) (s : ES), (putsI s l).out.length ≤ s.out.length + 4 * l.length
 | [], s => by simp [putsI]
 | x :: l, s => by
   have h1 := putsI_out l (s.putI x.f0 x.f1)
   have h2 := (ES.putI_len s x.f0 x.f1).1
   rw [putsI_cons, List.length_cons]
   omega
theorem putsI_E : ∀ (l : List S72) (s : ES), l.all (goodL s.st.length) = true → putsE s l = (putsI s l, 0)
 | [], s, _ => rfl
 | x :: l, s, h => by
   rw [List.all_cons, Bool.and_eq_true] at h
   unfold putsE
   rw [if_pos (show s.err x.f0 x.f1 = 0 from if_pos h.1), putsI_cons]
   exact putsI_E l _ (by rw [(ES.putI_len s x.f0 x.f1).2.2]; exact h.2)
theorem ctxP_range {W H RW RH : Int} {P RP : List Int} (b : Bm W H P) (br : Bm RW RH RP) (t dx dy x y : Int) (ht : t = 0 ∨ t = 1) : 0 ≤ ctxP t dx dy W H P RW RH RP x y ∧ ctxP t dx dy W H P RW RH RP x y < ctxs t := by
 have h1 := ctxN_range b x y (news t) 0 (Int.le_refl _)
 have h2 := ctxN_range br (x - dx) (y - dy) besides (ctxN W H P x y (news t) 0) h1.1
 have e5 : (2 : Int) ^ besides.length = 32 := rfl
 rw [e5] at h2
 unfold ctxP ctxs
 rcases ht with rfl | rfl
 · have e : (2 : Int) ^ (news 0).length = 16 := rfl
   rw [e] at h1
   rw [if_pos rfl]
   omega
 · have e : (2 : Int) ^ (news 1).length = 4 := rfl
   rw [e] at h1
   rw [if_neg (by decide)]
   omega
theorem goodL_iff {n : Nat} {x : S72} : goodL n x = true ↔ (0 ≤ x.f0 ∧ x.f0 < n ∧ (x.f1 = 0 ∨ x.f1 = 1)) := by
 unfold goodL
 simp only [Bool.and_eq_true, Bool.or_eq_true, decide_eq_true_eq]
 exact and_assoc
theorem evX_good {q : RQ} {P : List Int} {n : Nat} (b : Bm q.W q.H P) (br : Bm q.RW q.RH q.RP) (ht : q.t = 0 ∨ q.t = 1) (hf : okF n q.base q.t = true) (y : Int) (typ : Bool) : ∀ d i, (evX q P y typ d i).all (goodL n) = true
 | 0, i => rfl
 | d + 1, i => by
   unfold evX
   split
   · exact evX_good b br ht hf y typ d (i + 1)
   · rw [List.all_cons, evX_good b br ht hf y typ d (i + 1), Bool.and_true, goodL_iff]
     have h1 := okF_iff.1 hf
     have h2 := ctxP_range b br q.t q.dx q.dy (i : Int) y ht
     have h3 := px_01 b (i : Int) y
     show 0 ≤ q.base + ctxP q.t q.dx q.dy q.W q.H P q.RW q.RH q.RP i y ∧ q.base + ctxP q.t q.dx q.dy q.W q.H P q.RW q.RH q.RP i y < n ∧ (px q.W q.H P i y = 0 ∨ px q.W q.H P i y = 1)
     omega
theorem evY_good {q : RQ} {P : List Int} {n : Nat} (b : Bm q.W q.H P) (br : Bm q.RW q.RH q.RP) (ht : q.t = 0 ∨ q.t = 1) (hf : okF n q.base q.t = true) : ∀ d j, (evY q P d j).all (goodL n) = true
 | 0, j => rfl
 | d + 1, j => by
   unfold evY
   rw [List.all_append, List.all_append, evY_good b br ht hf d (j + 1), evX_good b br ht hf, Bool.and_true, Bool.and_true]
   unfold evH
   split
   · rw [List.all_cons, List.all_nil, Bool.and_true, goodL_iff]
     have h1 := okF_iff.1 hf
     have hr := ctxs_range q.t
     refine ⟨by show 0 ≤ q.base + ctxs q.t; omega, by show q.base + ctxs q.t < n; omega, ?_⟩
     show bit1 _ = 0 ∨ bit1 _ = 1
     unfold bit1
     split
     · exact .inr rfl
     · exact .inl rfl
   · rfl
/-- What Put answers. -/
def putErr (q : RQ) (kd : Int) (P : List Int) (n : Nat) : Int := if okO q.t q.dx q.dy kd = true then (if okB q.W q.H P = true ∧ okB q.RW q.RH q.RP = true then (if okF n q.base q.t = true then 0 else 2) else 30) else 2
def putR (q : RQ) (kd : Int) (P : List Int) (s : ES) : ES × Int := (if putErr q kd P s.st.length = 0 then putsI s (evR q P) else s, putErr q kd P s.st.length)
end Go.Proofs.Ytkfejicdjpffcaa.Rev
namespace Go.Proofs.Ytkfejicdjpffcaa.Hsm
open Go Go.RowKit YtkfejicdjpffcaaW PrintWords PrintLast PrintMore U Aid HandAid Rpx Rva
section
attribute [local go_sem] max2_int min2_int max_two min_two max_four
set_option maxHeartbeats 4000000 in
set_option maxRecDepth 100000 in
theorem rvalid_calls (t dx dy : Int) (ty : Bool) (kd : Int) (w : World) : Calls Try.prog 14 #[.agg #[.int .i64 t, .int .i64 dx, .int .i64 dy, .bool ty, .int .i64 kd]] w fun e w' => e = .returned (.bool (okO t dx dy kd)) ∧ Below w.heap.size w w' := by
 have hu3 := Try.underlying23
 have hb := below_alloc (Below.refl w.heap.size w) (.cells #[.int .i64 t, .int .i64 dx, .int .i64 dy, .bool ty, .int .i64 kd] 23)
 obtain ⟨r, hr⟩ : ∃ r, okO t dx dy kd = r := ⟨_, rfl⟩
 rw [hr]
 have HR := A' (show r = decide (dx ≥ -200 ∧ dx ≤ 200 ∧ dy ≥ -200 ∧ dy ≤ 200 ∧ t ≥ 0 ∧ t ≤ 1 ∧ kd ≥ 0 ∧ kd ≤ 1) by rw [← hr]; unfold okO; rw [decide_eq_decide]; omega)
 clear hr
 have h : (¬ dx ≥ -200) ∨ (dx ≥ -200 ∧ ¬ dx ≤ 200) ∨ (dx ≥ -200 ∧ dx ≤ 200 ∧ ¬ dy ≥ -200) ∨ (dx ≥ -200 ∧ dx ≤ 200 ∧ dy ≥ -200 ∧ ¬ dy ≤ 200) ∨ (dx ≥ -200 ∧ dx ≤ 200 ∧ dy ≥ -200 ∧ dy ≤ 200 ∧ ¬ t ≥ 0) ∨ (dx ≥ -200 ∧ dx ≤ 200 ∧ dy ≥ -200 ∧ dy ≤ 200 ∧ t ≥ 0 ∧ ¬ t ≤ 1) ∨ (dx ≥ -200 ∧ dx ≤ 200 ∧ dy ≥ -200 ∧ dy ≤ 200 ∧ t ≥ 0 ∧ t ≤ 1 ∧ ¬ kd ≥ 0) ∨ (dx ≥ -200 ∧ dx ≤ 200 ∧ dy ≥ -200 ∧ dy ≤ 200 ∧ t ≥ 0 ∧ t ≤ 1 ∧ kd ≥ 0) := by omega
 rcases h with h1 | ⟨h1, h2⟩ | ⟨h1, h2, h3⟩ | ⟨h1, h2, h3, h4⟩ | ⟨h1, h2, h3, h4, h5⟩ | ⟨h1, h2, h3, h4, h5, h6⟩ | ⟨h1, h2, h3, h4, h5, h6, h7⟩ | ⟨h1, h2, h3, h4, h5, h6, h7⟩
 all_goals
  go_enter Try.func14, Try.ntmps14
  go_wp2_with (fail)
  go_ret
  refine ⟨(congrArg (fun b => Ending.returned (Value.bool b)) ?_ : Ending.returned (Value.bool _) = _), ?_⟩
  · rw [HR.out]
    first | (refine (decide_eq_false ?_).symm; omega) | (rw [decide_eq_decide]; omega)
  · first | exact hb | exact below_drew hb | exact pw_below_drewN hb _
end
set_option maxHeartbeats 4000000 in
set_option maxRecDepth 100000 in
theorem asked_calls (t dx dy : Int) (ty : Bool) (kd : Int) (right : Bool) (base kind : Int) (A : Option Addr) (c : Nat) (st : List Int) (hst : st.length ≤ 8192) (r : Int) (hr : (if okO t dx dy kd = true then (if right = true then (if okF st.length base t = true then 0 else 2) else 30) else 2) = r) (w : World) :
 Calls Try.prog 68 #[.agg #[.int .i64 t, .int .i64 dx, .int .i64 dy, .bool ty, .int .i64 kd], .bool right, .int .i64 base, .agg #[.int .i64 kind, .slice A st.length c]] w fun e w' => e = .returned (.int .i64 r) ∧ Below w.heap.size w w' := by
 have hu3 := Try.underlying23
 have hu5 := Try.underlying45
 have HR := A' hr
 have hcx := ctxs_range t
 clear hr
 go_enter Try.func68, Try.ntmps68
 go_wp2_with (fail)
 obtain ⟨b7, hb7⟩ : ∃ x, w.heap.size + 1 = x := ⟨_, rfl⟩
 obtain ⟨b4, hb4⟩ : ∃ x, w.heap.size = x := ⟨_, rfl⟩
 obtain ⟨W1, hW1⟩ : ∃ x, (w.alloc (.cells #[.int .i64 t, .int .i64 dx, .int .i64 dy, .bool ty, .int .i64 kd] 23)).alloc (.cells #[.int .i64 kind, .slice A st.length c] 45) = x := ⟨_, rfl⟩
 have HB1 := A' (show Below w.heap.size w W1 from hW1 ▸ below_alloc (below_alloc (Below.refl _ _) _) _)
 have HZ7 := A' (show W1.heap[b7]? = some (.cells #[.int .i64 kind, .slice A st.length c] 45 (0, 0)) by
  have h := heap_new (w.alloc (.cells #[.int .i64 t, .int .i64 dx, .int .i64 dy, .bool ty, .int .i64 kd] 23)) (.cells #[.int .i64 kind, .slice A st.length c] 45)
  rw [World.size_alloc, hb7, hW1] at h
  exact h)
 have HZ4 := A' (show W1.heap[b4]? = some (.cells #[.int .i64 t, .int .i64 dx, .int .i64 dy, .bool ty, .int .i64 kd] 23 (0, 0)) by
  have h := heap_new w (.cells #[.int .i64 t, .int .i64 dx, .int .i64 dy, .bool ty, .int .i64 kd] 23)
  rw [hb4] at h
  rw [← hW1]
  exact blk_alloc h _)
 rw [hb7, hb4, hW1]
 clear hb7 hb4 hW1
 refine (rvalid_calls t dx dy ty kd _).mono ?_
 rintro e W2 ⟨rfl, hb⟩
 have HB := A' (below_drew hb)
 have HB' := A' hb
 clear hb
 obtain ⟨vo, hvo⟩ : ∃ z, okO t dx dy kd = z := ⟨_, rfl⟩
 have hR := HR.out
 clear HR
 rw [hvo] at hR ⊢
 clear hvo
 cases vo
 · rw [if_neg (by decide)] at hR
   subst hR
   go_wp2_with (fail)
   go_ret
   exact ⟨rfl, below_then HB1.out HB1.out.size HB'.out⟩
 rw [if_pos rfl] at hR
 cases right
 · rw [if_neg (by decide)] at hR
   subst hR
   go_wp2_with (fail)
   go_ret
   exact ⟨rfl, below_then HB1.out HB1.out.size HB'.out⟩
 rw [if_pos rfl] at hR
 by_cases hb0 : base < 0
 · rw [if_neg (by rw [okF_iff]; omega)] at hR
   subst hR
   have e0 : decide (base < 0) = true := decide_eq_true hb0
   go_wp2_with (fail)
   refine start_ (n := 14) (S := fun w' => w'.cell? ⟨b7, 1, none⟩ = some (.slice A st.length c) ∧ w'.cell? ⟨b4, 0, none⟩ = some (.int .i64 t)) (ds := []) #[false, false, false, false, false, false, false, false, false, false, false, false, false, false] (by kernel_rfl) rfl rfl ⟨(blk_cell (blk_below HZ7.out HB.out) 1).trans rfl, (blk_cell (blk_below HZ4.out HB.out) 0).trans rfl⟩ (fun hHeld => ?_)
   refine u' 0 17 (B' 14 1) ?_ rfl rfl (by kernel_rfl) (fun _ _ _ h => h) (.inl ⟨by rfl, ?_⟩) ?_ ?_ ?_; rotate_left; (intro w'; go_simp; with_reducible rfl); rotate_left; (simp only [Act.put, p1', p2', p3', i64_w, i32_w]; rfl)
   refine u' 1 18 (B' 14 3) ?_ rfl rfl (by kernel_rfl) (fun _ _ _ h => h) (.inl ⟨by rfl, ?_⟩) ?_ ?_ ?_; rotate_left; (intro w'; go_simp; with_reducible rfl); rotate_left; (simp only [Act.put, p1', p2', p3', i64_w, i32_w]; rfl)
   refine u' 2 19 (B' 14 7) ?_ rfl rfl (by kernel_rfl) (fun _ _ _ h => h) (.inl ⟨by rfl, ?_⟩) ?_ ?_ ?_; rotate_left; (intro w'; go_simp; with_reducible rfl); rotate_left; (simp only [Act.put, p1', p2', p3', i64_w, i32_w]; rfl)
   refine pure_ (i := 3) (N := some 20) (v := undef) (a' := ?_) (B' 14 15) rfl rfl (by kernel_rfl) (fun _ _ _ h => h) (Or.inr ⟨by rfl, rfl⟩) ?_ ?_
   rotate_left
   · simp only [Act.put, p1', p2', p3', i64_w, i32_w]
     rfl
   refine pure_ (i := 4) (N := some 21) (v := undef) (a' := ?_) (B' 14 31) rfl rfl (by kernel_rfl) (fun _ _ _ h => h) (Or.inr ⟨by rfl, rfl⟩) ?_ ?_
   rotate_left
   · simp only [Act.put, p1', p2', p3', i64_w, i32_w]
     rfl
   refine pure_ (i := 5) (N := some 22) (v := undef) (a' := ?_) (B' 14 63) rfl rfl (by kernel_rfl) (fun _ _ _ h => h) (Or.inr ⟨by rfl, rfl⟩) ?_ ?_
   rotate_left
   · simp only [Act.put, p1', p2', p3', i64_w, i32_w]
     rfl
   refine pure_ (i := 6) (N := some 23) (v := undef) (a' := ?_) (B' 14 127) rfl rfl (by kernel_rfl) (fun _ _ _ h => h) (Or.inr ⟨by rfl, rfl⟩) ?_ ?_
   rotate_left
   · simp only [Act.put, p1', p2', p3', i64_w, i32_w]
     rfl
   refine pure_ (i := 7) (N := some 24) (v := undef) (a' := ?_) (B' 14 255) rfl rfl (by kernel_rfl) (fun _ _ _ h => h) (Or.inr ⟨by rfl, rfl⟩) ?_ ?_
   rotate_left
   · simp only [Act.put, p1', p2', p3', i64_w, i32_w]
     rfl
   refine pure_ (i := 8) (N := some 25) (v := undef) (a' := ?_) (B' 14 511) rfl rfl (by kernel_rfl) (fun _ _ _ h => h) (Or.inr ⟨by rfl, rfl⟩) ?_ ?_
   rotate_left
   · simp only [Act.put, p1', p2', p3', i64_w, i32_w]
     rfl
   refine pure_ (i := 9) (N := some 26) (v := undef) (a' := ?_) (B' 14 1023) rfl rfl (by kernel_rfl) (fun _ _ _ h => h) (Or.inr ⟨by rfl, rfl⟩) ?_ ?_
   rotate_left
   · simp only [Act.put, p1', p2', p3', i64_w, i32_w]
     rfl
   refine pure_ (i := 10) (N := some 27) (v := undef) (a' := ?_) (B' 14 2047) rfl rfl (by kernel_rfl) (fun _ _ _ h => h) (Or.inr ⟨by rfl, rfl⟩) ?_ ?_
   rotate_left
   · simp only [Act.put, p1', p2', p3', i64_w, i32_w]
     rfl
   refine pure_ (i := 11) (N := some 28) (v := undef) (a' := ?_) (B' 14 4095) rfl rfl (by kernel_rfl) (fun _ _ _ h => h) (Or.inr ⟨by rfl, rfl⟩) ?_ ?_
   rotate_left
   · simp only [Act.put, p1', p2', p3', i64_w, i32_w]
     rfl
   refine u' 12 29 (B' 14 8191) ?_ rfl rfl (by kernel_rfl) (fun _ _ _ h => h) (.inl ⟨by rfl, ?_⟩) ?_ ?_ ?_; rotate_left; (intro w'; go_simp; with_reducible rfl); rotate_left; (simp only [Act.put, p1', p2', p3', i64_w, i32_w]; rfl)
   refine u' 13 16 (B' 14 16383) ?_ rfl rfl (by kernel_rfl) (fun _ _ _ h => h) (.inl ⟨by rfl, ?_⟩) ?_ ?_ ?_; rotate_left; (intro w'; go_simp; with_reducible rfl); rotate_left; (simp only [Act.put, p1', p2', p3', i64_w, i32_w]; rfl)
   refine done_ (by kernel_rfl) ?_
   go_wp2_with (fail)
   go_ret
   exact ⟨rfl, below_then HB1.out HB1.out.size HB.out⟩
 · have HR := A' hR
   clear hR
   have e0 : decide (base < 0) = false := decide_eq_false hb0
   go_wp2_with (fail)
   refine start_ (n := 14) (S := fun w' => w'.cell? ⟨b7, 1, none⟩ = some (.slice A st.length c) ∧ w'.cell? ⟨b4, 0, none⟩ = some (.int .i64 t)) (ds := []) #[false, false, false, false, false, false, false, false, false, false, false, false, false, false] (by kernel_rfl) rfl rfl ⟨(blk_cell (blk_below HZ7.out HB.out) 1).trans rfl, (blk_cell (blk_below HZ4.out HB.out) 0).trans rfl⟩ (fun hHeld => ?_)
   refine u' 0 17 (B' 14 1) ?_ rfl rfl (by kernel_rfl) (fun _ _ _ h => h) (.inl ⟨by rfl, ?_⟩) ?_ ?_ ?_; rotate_left; (intro w'; go_simp; with_reducible rfl); rotate_left; (simp only [Act.put, p1', p2', p3', i64_w, i32_w]; rfl)
   refine u' 1 18 (B' 14 3) ?_ rfl rfl (by kernel_rfl) (fun _ _ _ h => h) (.inl ⟨by rfl, ?_⟩) ?_ ?_ ?_; rotate_left; (intro w'; go_simp; with_reducible rfl); rotate_left; (simp only [Act.put, p1', p2', p3', i64_w, i32_w]; rfl)
   refine u' 2 19 (B' 14 7) ?_ rfl rfl (by kernel_rfl) (fun _ _ _ h => h) (.inl ⟨by rfl, ?_⟩) ?_ ?_ ?_; rotate_left; (intro w'; go_simp; with_reducible rfl); rotate_left; (simp only [Act.put, p1', p2', p3', i64_w, i32_w]; rfl)
   refine u' 3 20 (B' 14 15) ?_ rfl rfl (by kernel_rfl) (fun _ _ _ h => h) (.inl ⟨by rfl, ?_⟩) ?_ ?_ ?_; rotate_left; (intro w'; go_simp; with_reducible rfl); rotate_left; (simp only [Act.put, p1', p2', p3', i64_w, i32_w]; rfl)
   refine u' 4 21 (B' 14 31) ?_ rfl rfl (by kernel_rfl) (fun _ _ _ h => h) (.inl ⟨by rfl, ?_⟩) ?_ ?_ ?_; rotate_left; (intro w'; go_simp; with_reducible rfl); rotate_left; (simp only [Act.put, p1', p2', p3', i64_w, i32_w]; rfl)
   refine u' 7 24 (B' 14 159) ?_ rfl rfl (by kernel_rfl) (fun _ _ _ h => h) (.inl ⟨by rfl, ?_⟩) ?_ ?_ ?_; rotate_left; (intro w'; go_simp; with_reducible rfl); rotate_left; (simp only [Act.put, p1', p2', p3', i64_w, i32_w]; rfl)
   refine t' 5 22 (B' 14 191) ?_ rfl rfl (by kernel_rfl) (fun _ _ _ h => h) (.inl ⟨by rfl, ?_⟩) hHeld ?_ ?_ ?_; rotate_left; (rintro w' ⟨s0, s1⟩; go_simp; with_reducible rfl); rotate_left; (simp only [Act.put, p1', p2', p3', i64_w, i32_w]; rfl)
   refine u' 6 23 (B' 14 255) ?_ rfl rfl (by kernel_rfl) (fun _ _ _ h => h) (.inl ⟨by rfl, ?_⟩) ?_ ?_ ?_; rotate_left; (intro w'; go_simp; with_reducible rfl); rotate_left; (simp only [Act.put, p1', p2', p3', i64_w, i32_w]; rfl)
   refine t' 8 25 (B' 14 511) ?_ rfl rfl (by kernel_rfl) (fun _ _ _ h => h) (.inl ⟨by rfl, ?_⟩) hHeld ?_ ?_ ?_; rotate_left; (rintro w' ⟨s0, s1⟩; go_simp; with_reducible rfl); rotate_left; (simp only [Act.put, p1', p2', p3', i64_w, i32_w]; rfl)
   refine one_ (i := 9) (N := some 26) (B' 14 1023) rfl rfl (by kernel_rfl) (by decide) (fun K hK => ?_)
   refine goes_ Try.func46 (by kernel_rfl) rfl #[.int .i64 t] (by rfl) rfl rfl (by simp only [List.map_toArray, List.map_cons, List.map_nil]; rfl) ?_
   with_reducible refine (incunableref08_size.calls t (ctxs t + 1) _ (size_eq t)).mono ?_
   rintro e X ⟨rfl, hdr⟩
   refine ⟨_, rfl, ?_⟩
   have HB2 := A' (below_then HB.out HB.out.size hdr.below)
   clear hdr
   refine hK.out _ _ ⟨(blk_cell (blk_below HZ7.out HB2.out) 1).trans rfl, (blk_cell (blk_below HZ4.out HB2.out) 0).trans rfl⟩ (fun hHeld => ?_)
   clear hK K
   refine norm_ (a' := ?_) ?_ ?_; rotate_left; (show Act.put _ (some 26) _ = _; simp only [Act.put, p1', p2', p3', i64_w, i32_w]; rfl)
   refine u' 10 27 (B' 14 2047) ?_ rfl rfl (by kernel_rfl) (fun _ _ _ h => h) (.inl ⟨by rfl, ?_⟩) ?_ ?_ ?_; rotate_left; (intro w'; go_simp; with_reducible rfl); rotate_left; (simp only [Act.put, p1', p2', p3', i64_w, i32_w]; rfl)
   refine u' 11 28 (B' 14 4095) ?_ rfl rfl (by kernel_rfl) (fun _ _ _ h => h) (.inl ⟨by rfl, ?_⟩) ?_ ?_ ?_; rotate_left; (intro w'; go_simp; with_reducible rfl); rotate_left; (simp only [Act.put, p1', p2', p3', i64_w, i32_w]; rfl)
   refine u' 12 29 (B' 14 8191) ?_ rfl rfl (by kernel_rfl) (fun _ _ _ h => h) (.inl ⟨by rfl, ?_⟩) ?_ ?_ ?_; rotate_left; (intro w'; go_simp; with_reducible rfl); rotate_left; (simp only [Act.put, p1', p2', p3', i64_w, i32_w]; rfl)
   refine u' 13 16 (B' 14 16383) ?_ rfl rfl (by kernel_rfl) (fun _ _ _ h => h) (.inl ⟨by rfl, ?_⟩) ?_ ?_ ?_; rotate_left; (intro w'; go_simp; with_reducible rfl); rotate_left; (simp only [Act.put, p1', p2', p3', i64_w, i32_w]; rfl)
   refine done_ (by kernel_rfl) ?_
   have hR := HR.out
   clear HR
   rw [wrap_id (n := (st.length : Int) - (ctxs t + 1)) (by omega) (by omega)]
   by_cases hb1 : base > (st.length : Int) - (ctxs t + 1)
   · rw [if_neg (by rw [okF_iff]; omega)] at hR
     subst hR
     go_wp2_with (fail)
     go_ret
     exact ⟨rfl, below_then HB1.out HB1.out.size HB2.out⟩
   · rw [if_pos (by rw [okF_iff]; omega)] at hR
     subst hR
     go_wp2_with (fail)
     go_ret
     exact ⟨rfl, below_then HB1.out HB1.out.size HB2.out⟩
set_option maxHeartbeats 4000000 in
set_option maxRecDepth 100000 in
theorem fits_calls (kind : Int) (A : Option Addr) (c : Nat) (st : List Int) (hst : st.length ≤ 8192) (base t dx dy : Int) (ty : Bool) (kd : Int) (r : Bool) (hr : okF st.length base t = r) (w : World) :
 Calls Try.prog 57 #[.agg #[.int .i64 kind, .slice A st.length c], .int .i64 base, .agg #[.int .i64 t, .int .i64 dx, .int .i64 dy, .bool ty, .int .i64 kd]] w fun e w' => e = .returned (.bool r) ∧ Below w.heap.size w w' := by
 have hu3 := Try.underlying23
 have hu5 := Try.underlying45
 have hcx := ctxs_range t
 have HR := A' hr
 clear hr
 obtain ⟨b3, hb3⟩ : ∃ x, w.heap.size = x := ⟨_, rfl⟩
 obtain ⟨b5, hb5⟩ : ∃ x, b3 + 1 = x := ⟨_, rfl⟩
 obtain ⟨W1, hW1⟩ : ∃ x, (w.alloc (.cells #[.int .i64 kind, .slice A st.length c] 45)).alloc (.cells #[.int .i64 t, .int .i64 dx, .int .i64 dy, .bool ty, .int .i64 kd] 23) = x := ⟨_, rfl⟩
 have HB1 := A' (show Below w.heap.size w W1 from hW1 ▸ below_alloc (below_alloc (Below.refl _ _) _) _)
 have HZ5 := A' (show W1.heap[b5]? = some (.cells #[.int .i64 t, .int .i64 dx, .int .i64 dy, .bool ty, .int .i64 kd] 23 (0, 0)) by
  have h := heap_new (w.alloc (.cells #[.int .i64 kind, .slice A st.length c] 45)) (.cells #[.int .i64 t, .int .i64 dx, .int .i64 dy, .bool ty, .int .i64 kd] 23)
  rw [World.size_alloc, hb3, hb5, hW1] at h
  exact h)
 have HZ3 := A' (show W1.heap[b3]? = some (.cells #[.int .i64 kind, .slice A st.length c] 45 (0, 0)) by
  have h := heap_new w (.cells #[.int .i64 kind, .slice A st.length c] 45)
  rw [hb3] at h
  rw [← hW1]
  exact blk_alloc h _)
 have HB := A' (below_drew (Below.refl W1.heap.size W1))
 by_cases hb0 : base ≥ 0
 · have e0 : decide (base ≥ 0) = true := decide_eq_true hb0
   have e1 : decide (0 ≤ base) = true := decide_eq_true hb0
   go_enter Try.func57, Try.ntmps57
   go_wp2_with (fail)
   first | rw [hW1] | skip
   clear hW1 hb3 hb5
   refine start_ (n := 15) (S := fun w' => w'.cell? ⟨b3, 1, none⟩ = some (.slice A st.length c) ∧ w'.cell? ⟨b5, 0, none⟩ = some (.int .i64 t)) (ds := []) #[false, false, false, false, false, false, false, false, false, false, false, false, false, false, false] (by kernel_rfl) rfl rfl ⟨(blk_cell (blk_below HZ3.out HB.out) 1).trans rfl, (blk_cell (blk_below HZ5.out HB.out) 0).trans rfl⟩ (fun hHeld => ?_)
   refine u' 0 7 (B' 15 1) ?_ rfl rfl (by kernel_rfl) (fun _ _ _ h => h) (.inl ⟨by rfl, ?_⟩) ?_ ?_ ?_; rotate_left; (intro w'; go_simp; with_reducible rfl); rotate_left; (simp only [Act.put, p1', p2', p3', i64_w, i32_w]; rfl)
   refine u' 1 8 (B' 15 3) ?_ rfl rfl (by kernel_rfl) (fun _ _ _ h => h) (.inl ⟨by rfl, ?_⟩) ?_ ?_ ?_; rotate_left; (intro w'; go_simp; with_reducible rfl); rotate_left; (simp only [Act.put, p1', p2', p3', i64_w, i32_w]; rfl)
   refine u' 2 9 (B' 15 7) ?_ rfl rfl (by kernel_rfl) (fun _ _ _ h => h) (.inl ⟨by rfl, ?_⟩) ?_ ?_ ?_; rotate_left; (intro w'; go_simp; with_reducible rfl); rotate_left; (simp only [Act.put, p1', p2', p3', i64_w, i32_w]; rfl)
   refine u' 3 10 (B' 15 15) ?_ rfl rfl (by kernel_rfl) (fun _ _ _ h => h) (.inl ⟨by rfl, ?_⟩) ?_ ?_ ?_; rotate_left; (intro w'; go_simp; with_reducible rfl); rotate_left; (simp only [Act.put, p1', p2', p3', i64_w, i32_w]; rfl)
   refine u' 4 11 (B' 15 31) ?_ rfl rfl (by kernel_rfl) (fun _ _ _ h => h) (.inl ⟨by rfl, ?_⟩) ?_ ?_ ?_; rotate_left; (intro w'; go_simp; with_reducible rfl); rotate_left; (simp only [Act.put, p1', p2', p3', i64_w, i32_w]; rfl)
   refine u' 7 14 (B' 15 159) ?_ rfl rfl (by kernel_rfl) (fun _ _ _ h => h) (.inl ⟨by rfl, ?_⟩) ?_ ?_ ?_; rotate_left; (intro w'; go_simp; with_reducible rfl); rotate_left; (simp only [Act.put, p1', p2', p3', i64_w, i32_w]; rfl)
   refine t' 5 12 (B' 15 191) ?_ rfl rfl (by kernel_rfl) (fun _ _ _ h => h) (.inl ⟨by rfl, ?_⟩) hHeld ?_ ?_ ?_; rotate_left; (rintro w' ⟨s0, s1⟩; go_simp; with_reducible rfl); rotate_left; (simp only [Act.put, p1', p2', p3', i64_w, i32_w]; rfl)
   refine u' 6 13 (B' 15 255) ?_ rfl rfl (by kernel_rfl) (fun _ _ _ h => h) (.inl ⟨by rfl, ?_⟩) ?_ ?_ ?_; rotate_left; (intro w'; go_simp; with_reducible rfl); rotate_left; (simp only [Act.put, p1', p2', p3', i64_w, i32_w]; rfl)
   refine t' 8 15 (B' 15 511) ?_ rfl rfl (by kernel_rfl) (fun _ _ _ h => h) (.inl ⟨by rfl, ?_⟩) hHeld ?_ ?_ ?_; rotate_left; (rintro w' ⟨s0, s1⟩; go_simp; with_reducible rfl); rotate_left; (simp only [Act.put, p1', p2', p3', i64_w, i32_w]; rfl)
   refine one_ (i := 9) (N := some 16) (B' 15 1023) rfl rfl (by kernel_rfl) (by decide) (fun K hK => ?_)
   refine goes_ Try.func45 (by kernel_rfl) rfl #[.int .i64 t] (by rfl) rfl rfl (by simp only [List.map_toArray, List.map_cons, List.map_nil]; rfl) ?_
   with_reducible refine (refine_contexts.calls t (ctxs t) _ (contexts_eq t)).mono ?_
   rintro e X ⟨rfl, hb⟩
   refine ⟨_, rfl, ?_⟩
   have HB2 := A' (below_then HB.out HB.out.size hb)
   clear hb
   refine hK.out _ _ ⟨(blk_cell (blk_below HZ3.out HB2.out) 1).trans rfl, (blk_cell (blk_below HZ5.out HB2.out) 0).trans rfl⟩ (fun hHeld => ?_)
   clear hK K
   refine norm_ (a' := ?_) ?_ ?_; rotate_left; (show Act.put _ (some 16) _ = _; simp only [Act.put, p1', p2', p3', i64_w, i32_w]; rfl)
   refine u' 10 17 (B' 15 2047) ?_ rfl rfl (by kernel_rfl) (fun _ _ _ h => h) (.inl ⟨by rfl, ?_⟩) ?_ ?_ ?_; rotate_left; (intro w'; go_simp; with_reducible rfl); rotate_left; (simp only [Act.put, p1', p2', p3', i64_w, i32_w]; rfl)
   refine u' 11 18 (B' 15 4095) ?_ rfl rfl (by kernel_rfl) (fun _ _ _ h => h) (.inl ⟨by rfl, ?_⟩) ?_ ?_ ?_; rotate_left; (intro w'; go_simp; with_reducible rfl); rotate_left; (simp only [Act.put, p1', p2', p3', i64_w, i32_w]; rfl)
   refine u' 12 19 (B' 15 8191) ?_ rfl rfl (by kernel_rfl) (fun _ _ _ h => h) (.inl ⟨by rfl, ?_⟩) ?_ ?_ ?_; rotate_left; (intro w'; go_simp; with_reducible rfl); rotate_left; (simp only [Act.put, p1', p2', p3', i64_w, i32_w]; rfl)
   refine u' 13 20 (B' 15 16383) ?_ rfl rfl (by kernel_rfl) (fun _ _ _ h => h) (.inl ⟨by rfl, ?_⟩) ?_ ?_ ?_; rotate_left; (intro w'; go_simp; with_reducible rfl); rotate_left; (simp only [Act.put, p1', p2', p3', i64_w, i32_w]; rfl)
   refine u' 14 6 (B' 15 32767) ?_ rfl rfl (by kernel_rfl) (fun _ _ _ h => h) (.inl ⟨by rfl, ?_⟩) ?_ ?_ ?_; rotate_left; (intro w'; go_simp; with_reducible rfl); rotate_left; (simp only [Act.put, p1', p2', p3', i64_w, i32_w]; rfl)
   refine done_ (by kernel_rfl) ?_
   have hR := HR.out
   clear HR
   rw [wrap_id (n := (st.length : Int) - ctxs t) (by omega) (by omega), wrap_id (n := (st.length : Int) - ctxs t - 1) (by omega) (by omega)]
   have HR := A' hR
   clear hR
   go_wp2_with (fail)
   go_ret
   refine ⟨(congrArg (fun b => Ending.returned (Value.bool b)) ?_ : Ending.returned (Value.bool _) = _), below_then HB1.out HB1.out.size HB2.out⟩
   rw [← HR.out]
   unfold okF
   rw [decide_eq_decide]
   omega
 · have e1 : r = false := by rw [← HR.out]; unfold okF; exact decide_eq_false (by omega)
   subst e1
   clear HR
   have e0 : decide (base ≥ 0) = false := decide_eq_false hb0
   have e1 : decide (0 ≤ base) = false := decide_eq_false hb0
   go_enter Try.func57, Try.ntmps57
   go_wp2_with (fail)
   first | rw [hW1] | skip
   clear hW1 hb3 hb5
   refine start_ (n := 15) (S := fun w' => w'.cell? ⟨b3, 1, none⟩ = some (.slice A st.length c) ∧ w'.cell? ⟨b5, 0, none⟩ = some (.int .i64 t)) (ds := []) #[false, false, false, false, false, false, false, false, false, false, false, false, false, false, false] (by kernel_rfl) rfl rfl ⟨(blk_cell (blk_below HZ3.out HB.out) 1).trans rfl, (blk_cell (blk_below HZ5.out HB.out) 0).trans rfl⟩ (fun hHeld => ?_)
   refine u' 0 7 (B' 15 1) ?_ rfl rfl (by kernel_rfl) (fun _ _ _ h => h) (.inl ⟨by rfl, ?_⟩) ?_ ?_ ?_; rotate_left; (intro w'; go_simp; with_reducible rfl); rotate_left; (simp only [Act.put, p1', p2', p3', i64_w, i32_w]; rfl)
   refine u' 1 8 (B' 15 3) ?_ rfl rfl (by kernel_rfl) (fun _ _ _ h => h) (.inl ⟨by rfl, ?_⟩) ?_ ?_ ?_; rotate_left; (intro w'; go_simp; with_reducible rfl); rotate_left; (simp only [Act.put, p1', p2', p3', i64_w, i32_w]; rfl)
   refine u' 2 9 (B' 15 7) ?_ rfl rfl (by kernel_rfl) (fun _ _ _ h => h) (.inl ⟨by rfl, ?_⟩) ?_ ?_ ?_; rotate_left; (intro w'; go_simp; with_reducible rfl); rotate_left; (simp only [Act.put, p1', p2', p3', i64_w, i32_w]; rfl)
   refine pure_ (i := 3) (N := some 10) (v := undef) (a' := ?_) (B' 15 15) rfl rfl (by kernel_rfl) (fun _ _ _ h => h) (Or.inr ⟨by rfl, rfl⟩) ?_ ?_
   rotate_left
   · simp only [Act.put, p1', p2', p3', i64_w, i32_w]
     rfl
   refine pure_ (i := 4) (N := some 11) (v := undef) (a' := ?_) (B' 15 31) rfl rfl (by kernel_rfl) (fun _ _ _ h => h) (Or.inr ⟨by rfl, rfl⟩) ?_ ?_
   rotate_left
   · simp only [Act.put, p1', p2', p3', i64_w, i32_w]
     rfl
   refine pure_ (i := 5) (N := some 12) (v := undef) (a' := ?_) (B' 15 63) rfl rfl (by kernel_rfl) (fun _ _ _ h => h) (Or.inr ⟨by rfl, rfl⟩) ?_ ?_
   rotate_left
   · simp only [Act.put, p1', p2', p3', i64_w, i32_w]
     rfl
   refine pure_ (i := 6) (N := some 13) (v := undef) (a' := ?_) (B' 15 127) rfl rfl (by kernel_rfl) (fun _ _ _ h => h) (Or.inr ⟨by rfl, rfl⟩) ?_ ?_
   rotate_left
   · simp only [Act.put, p1', p2', p3', i64_w, i32_w]
     rfl
   refine pure_ (i := 7) (N := some 14) (v := undef) (a' := ?_) (B' 15 255) rfl rfl (by kernel_rfl) (fun _ _ _ h => h) (Or.inr ⟨by rfl, rfl⟩) ?_ ?_
   rotate_left
   · simp only [Act.put, p1', p2', p3', i64_w, i32_w]
     rfl
   refine pure_ (i := 8) (N := some 15) (v := undef) (a' := ?_) (B' 15 511) rfl rfl (by kernel_rfl) (fun _ _ _ h => h) (Or.inr ⟨by rfl, rfl⟩) ?_ ?_
   rotate_left
   · simp only [Act.put, p1', p2', p3', i64_w, i32_w]
     rfl
   refine pure_ (i := 9) (N := some 16) (v := undef) (a' := ?_) (B' 15 1023) rfl rfl (by kernel_rfl) (fun _ _ _ h => h) (Or.inr ⟨by rfl, rfl⟩) ?_ ?_
   rotate_left
   · simp only [Act.put, p1', p2', p3', i64_w, i32_w]
     rfl
   refine pure_ (i := 10) (N := some 17) (v := undef) (a' := ?_) (B' 15 2047) rfl rfl (by kernel_rfl) (fun _ _ _ h => h) (Or.inr ⟨by rfl, rfl⟩) ?_ ?_
   rotate_left
   · simp only [Act.put, p1', p2', p3', i64_w, i32_w]
     rfl
   refine pure_ (i := 11) (N := some 18) (v := undef) (a' := ?_) (B' 15 4095) rfl rfl (by kernel_rfl) (fun _ _ _ h => h) (Or.inr ⟨by rfl, rfl⟩) ?_ ?_
   rotate_left
   · simp only [Act.put, p1', p2', p3', i64_w, i32_w]
     rfl
   refine pure_ (i := 12) (N := some 19) (v := undef) (a' := ?_) (B' 15 8191) rfl rfl (by kernel_rfl) (fun _ _ _ h => h) (Or.inr ⟨by rfl, rfl⟩) ?_ ?_
   rotate_left
   · simp only [Act.put, p1', p2', p3', i64_w, i32_w]
     rfl
   refine u' 13 20 (B' 15 16383) ?_ rfl rfl (by kernel_rfl) (fun _ _ _ h => h) (.inl ⟨by rfl, ?_⟩) ?_ ?_ ?_; rotate_left; (intro w'; go_simp; with_reducible rfl); rotate_left; (simp only [Act.put, p1', p2', p3', i64_w, i32_w]; rfl)
   refine u' 14 6 (B' 15 32767) ?_ rfl rfl (by kernel_rfl) (fun _ _ _ h => h) (.inl ⟨by rfl, ?_⟩) ?_ ?_ ?_; rotate_left; (intro w'; go_simp; with_reducible rfl); rotate_left; (simp only [Act.put, p1', p2', p3', i64_w, i32_w]; rfl)
   refine done_ (by kernel_rfl) ?_
   go_wp2_with (fail)
   go_ret
   exact ⟨rfl, below_then HB1.out HB1.out.size HB.out⟩
end Go.Proofs.Ytkfejicdjpffcaa.Hsm
namespace Go.Proofs.Ytkfejicdjpffcaa.Rpt
open Go Go.RowKit YtkfejicdjpffcaaW PrintWords PrintLast PrintMore U Aid HandAid Cod1 Cod2 Cod3 Ytkfejicdjpffcaa.Mod NewRef Enc Mods EncAt Put End Snc RefAt RefPut RefEnd Pse Pwk Rpx Rva Rfl Rcx Rty Rev
theorem _root_.Go.Proofs.Ytkfejicdjpffcaa.Pwk.PW.rebase {At : World → (Nat → Prop) → Nat → ES → Prop} [EnL At] {w W8 V : World} {S S8 : Nat → Prop} {g : Nat} {s : ES} (h : PW At W8 S8 g s V) (hm : Mods w W8 S) (hsub : ∀ k, S8 k → S k ∨ w.heap.size ≤ k) : PW At w S g s V :=
 ⟨EnL.mono h.e (fun k hk => ⟨hk.1.elim (hsub k) (fun h => .inr (Nat.le_trans hm.size h)), hk.2⟩), hm.then_ h.m hsub, h.ok⟩
theorem _root_.Go.Proofs.Ytkfejicdjpffcaa.Pwk.PW.put_eq {w W : World} {S : Nat → Prop} {g : Nat} {s : ES} (H : PW EncAt w S g s W) (hlen : s.out.length ≤ 1099511627776) (i bit : Int) {i' bit' : Int} (hi : i' = i) (hb : bit' = bit) :
 Calls Try.prog 28 #[.pointer (some ⟨g, 0, none⟩), .int .i64 i', .int .i64 bit'] W fun e W' => e = .returned (.int .i64 (s.err i bit)) ∧ PW EncAt w S g (s.putI i bit) W' := by
 subst hi hb
 exact H.put hlen _ _
theorem put_none (s : ES) : s.err (-1) 0 = 2 ∧ s.putI (-1) 0 = s := by
 have h : s.good (-1) 0 = false := by simp [ES.good]
 unfold ES.err ES.putI
 rw [h]
 exact ⟨rfl, rfl⟩
set_option maxHeartbeats 8000000 in
set_option maxRecDepth 100000 in
theorem rput_calls (w : World) (S : Nat → Prop) (g : Nat) (s : ES) (base t dx dy : Int) (ty : Bool) (kd W H : Int) (AB : Option Addr) (cB : Nat) (P : List Int) (RW RH : Int) (AR : Option Addr) (cR : Nat) (RP : List Int) (hE : EncAt w S g s) (hS : ∀ k, S k → k < w.heap.size) (hok : s.ok) (hlen : s.out.length ≤ 1000000000) (hdx : -9223372036854775808 ≤ dx ∧ dx ≤ 9223372036854775807) (hdy : -9223372036854775808 ≤ dy ∧ dy ≤ 9223372036854775807) (hB : ∀ V, Mods w V S → Kd.C (Kd.int .u8) V AB P.length P) (hcB : P.length ≤ cB) (hA : ∀ V, Mods w V S → Kd.C (Kd.int .u8) V AR RP.length RP) (hcR : RP.length ≤ cR) (hbP : Bytes P) (hbR : Bytes RP) (q : RQ) (hq : q = ⟨t, dx, dy, ty, W, H, RW, RH, RP, base⟩) (R : ES × Int) (hR : putR q kd P s = R) :
 Calls Try.prog 25 #[.pointer (some ⟨g, 0, none⟩), .int .i64 base, .agg #[.int .i64 t, .int .i64 dx, .int .i64 dy, .bool ty, .int .i64 kd], .agg #[.int .i64 W, .int .i64 H, .slice AB P.length cB], .agg #[.int .i64 RW, .int .i64 RH, .slice AR RP.length cR]] w fun e V => e = .returned (.int .i64 R.2) ∧ PW EncAt w S g R.1 V := by
 have HB := A' hB
 have HA := A' hA
 have HS := A' hS
 have HbP := A' hbP
 have HbR := A' hbR
 have HE := A' hE
 have HQF := A' (show ∀ x y, q.flat x y = flatP RW RH RP (x - dx) (y - dy) from fun x y => by rw [hq]; rfl)
 have HQC := A' (show ∀ x y, (⟨q.base + q.ctx P x y, px q.W q.H P x y⟩ : S72) = ⟨base + ctxP t dx dy W H P RW RH RP x y, px W H P x y⟩ from fun x y => by rw [hq]; rfl)
 have HQQ := A' hq
 have hst : s.st.length ≤ 8192 := hok.m.2.1
 have hmP : P.length ≤ 9223372036854775807 := Kd.C_max (hB w (Mods.refl w S))
 have hmR : RP.length ≤ 9223372036854775807 := Kd.C_max (hA w (Mods.refl w S))
 have HOK := A' hok
 unfold putR at hR
 have hE1 : putErr q kd P s.st.length = if okO t dx dy kd = true then (if okB W H P = true ∧ okB RW RH RP = true then (if okF s.st.length base t = true then 0 else 2) else 30) else 2 := by rw [hq]; rfl
 rw [hE1] at hR
 have HR := A' hR
 have hu1 := Try.underlying109
 have hu2 := Try.underlying107
 have hu3 := Try.underlying23
 have hu4 := Try.underlying31
 have hu5 := Try.underlying45
 clear hB hA hS hbP hbR hE hok hR hE1 hq
 go_enter Try.func25, Try.ntmps25
 go_wp2_with (fail)
 obtain ⟨b9, hb9⟩ : ∃ x, w.heap.size + 1 + 1 = x := ⟨_, rfl⟩
 obtain ⟨b8, hb8⟩ : ∃ x, w.heap.size + 1 = x := ⟨_, rfl⟩
 obtain ⟨b7, hb7⟩ : ∃ x, w.heap.size = x := ⟨_, rfl⟩
 obtain ⟨W1, hW1⟩ : ∃ x, ((w.alloc (.cells #[.int .i64 t, .int .i64 dx, .int .i64 dy, .bool ty, .int .i64 kd] 23)).alloc (.cells #[.int .i64 W, .int .i64 H, .slice AB P.length cB] 31)).alloc (.cells #[.int .i64 RW, .int .i64 RH, .slice AR RP.length cR] 31) = x := ⟨_, rfl⟩
 have HB1 := A' (show Below w.heap.size w W1 from hW1 ▸ below_alloc (below_alloc (below_alloc (Below.refl _ _) _) _) _)
 have HZ9 := A' (show W1.heap[b9]? = some (.cells #[.int .i64 RW, .int .i64 RH, .slice AR RP.length cR] 31 (0, 0)) by
  have h := heap_new ((w.alloc (.cells #[.int .i64 t, .int .i64 dx, .int .i64 dy, .bool ty, .int .i64 kd] 23)).alloc (.cells #[.int .i64 W, .int .i64 H, .slice AB P.length cB] 31)) (.cells #[.int .i64 RW, .int .i64 RH, .slice AR RP.length cR] 31)
  rw [World.size_alloc, World.size_alloc, hb9, hW1] at h
  exact h)
 have HZ8 := A' (show W1.heap[b8]? = some (.cells #[.int .i64 W, .int .i64 H, .slice AB P.length cB] 31 (0, 0)) by
  have h := heap_new (w.alloc (.cells #[.int .i64 t, .int .i64 dx, .int .i64 dy, .bool ty, .int .i64 kd] 23)) (.cells #[.int .i64 W, .int .i64 H, .slice AB P.length cB] 31)
  rw [World.size_alloc, hb8] at h
  rw [← hW1]
  exact blk_alloc h _)
 have HZ7 := A' (show W1.heap[b7]? = some (.cells #[.int .i64 t, .int .i64 dx, .int .i64 dy, .bool ty, .int .i64 kd] 23 (0, 0)) by
  have h := heap_new w (.cells #[.int .i64 t, .int .i64 dx, .int .i64 dy, .bool ty, .int .i64 kd] 23)
  rw [hb7] at h
  rw [← hW1]
  exact blk_alloc (blk_alloc h _) _)
 have HLT := A' (show b7 < W1.heap.size ∧ b8 < W1.heap.size ∧ b9 < W1.heap.size from ⟨blk_lt HZ7.out, blk_lt HZ8.out, blk_lt HZ9.out⟩)
 have HGE := A' (show w.heap.size ≤ b7 ∧ w.heap.size ≤ b8 ∧ w.heap.size ≤ b9 by omega)
 rw [hb9, hb8, hb7, hW1]
 clear hb9 hb8 hb7 hW1
 have HP1 := A' (PW.start (At := EncAt) (HE.out.below HB1.out) (fun k hk => Nat.lt_of_lt_of_le (HS.out k hk) HB1.out.size) HOK.out)
 have hp1 := HP1.out.put (by omega) (-1) 0
 rw [(put_none s).1, (put_none s).2] at hp1
 refine hp1.mono ?_
 rintro e W2 ⟨rfl, hP⟩
 have HM2 := A' ((Mods.of_below HB1.out S).then_ hP.m (fun k hk => .inl hk))
 have HP2 := A' hP
 have HZ7 := A' (blk_mods HZ7.out hP.m (fun hk => by have := HS.out _ hk; have := HGE.out; omega))
 have HZ8 := A' (blk_mods HZ8.out hP.m (fun hk => by have := HS.out _ hk; have := HGE.out; omega))
 have HZ9 := A' (blk_mods HZ9.out hP.m (fun hk => by have := HS.out _ hk; have := HGE.out; omega))
 clear hP hp1
 have q0 : W2.cell? ⟨b7, 0, none⟩ = some (.int .i64 t) := (blk_cell HZ7.out 0).trans rfl
 have q1 : W2.cell? ⟨b7, 1, none⟩ = some (.int .i64 dx) := (blk_cell HZ7.out 1).trans rfl
 have q2 : W2.cell? ⟨b7, 2, none⟩ = some (.int .i64 dy) := (blk_cell HZ7.out 2).trans rfl
 have q3 : W2.cell? ⟨b7, 3, none⟩ = some (.bool ty) := (blk_cell HZ7.out 3).trans rfl
 have q4 : W2.cell? ⟨b7, 4, none⟩ = some (.int .i64 kd) := (blk_cell HZ7.out 4).trans rfl
 go_wp2_with (fail)
 refine (refine_Valid.calls t dx dy ty kd _ _ (valid_eq t dx dy ty kd hdx hdy)).mono ?_
 rintro e W3 ⟨rfl, hb⟩
 have HD3 := A' hb
 have HP3 := A' (HP2.out.below hb)
 clear hb q0 q1 q2 q3 q4
 have fin : ∀ V, PW EncAt W1 S g s V → PW EncAt w S g s V := fun V hV => hV.rebase (Mods.of_below HB1.out S) (fun k hk => .inl hk)
 have FIN := A' fin
 clear fin
 obtain ⟨vo, hvo⟩ : ∃ x, okO t dx dy kd = x := ⟨_, rfl⟩
 have hR := HR.out
 clear HR
 rw [hvo] at hR ⊢
 cases vo
 · rw [if_neg (show ¬ (false = true) by decide), if_neg (show ¬ ((2 : Int) = 0) by decide)] at hR
   subst hR
   clear hvo
   go_wp2_with (fail)
   go_ret
   exact ⟨rfl, FIN.out _ HP3.out⟩
 rw [if_pos (show true = true from rfl)] at hR
 have hoo := okO_iff.1 hvo
 have HOO := A' hoo
 have HR := A' hR
 have HT := A' hoo.1
 clear hvo hR hoo
 have hMk : ∀ V, Below W2.heap.size W2 V → Mods w V S := fun V hV => HM2.out.below hV
 have HMk := A' hMk
 clear hMk
 have q0 : W3.cell? ⟨b8, 0, none⟩ = some (.int .i64 W) := (blk_cell (blk_below HZ8.out HD3.out) 0).trans rfl
 have q1 : W3.cell? ⟨b8, 1, none⟩ = some (.int .i64 H) := (blk_cell (blk_below HZ8.out HD3.out) 1).trans rfl
 have q2 : W3.cell? ⟨b8, 2, none⟩ = some (.slice AB P.length cB) := (blk_cell (blk_below HZ8.out HD3.out) 2).trans rfl
 go_wp2_with (fail)
 obtain ⟨K1, hK1⟩ := Ev.rounds (bvalid_ev W H P hmP)
 refine (bitmap_Valid.calls K1 W H AB cB P _ _ (HB.out _ (HMk.out _ HD3.out)) hcB hK1).mono ?_
 rintro e W4 ⟨rfl, hb⟩
 have HD4 := A' (below_then HD3.out HD3.out.size hb)
 have HP4 := A' (HP3.out.below hb)
 clear hb q0 q1 q2 hK1
 obtain ⟨vb, hvb⟩ : ∃ x, okB W H P = x := ⟨_, rfl⟩
 have hR := HR.out
 clear HR
 rw [hvb] at hR ⊢
 cases vb
 · rw [if_neg (show ¬ (false = true ∧ okB RW RH RP = true) by simp), if_neg (show ¬ ((30 : Int) = 0) by decide)] at hR
   subst hR
   clear hvb
   go_wp2_with (fail)
   go_ret
   exact ⟨rfl, FIN.out _ HP4.out⟩
 have HBM := A' (okB_bm HbP.out hvb).1
 clear hvb
 have HR := A' hR
 clear hR
 have q0 : W4.cell? ⟨b9, 0, none⟩ = some (.int .i64 RW) := (blk_cell (blk_below HZ9.out HD4.out) 0).trans rfl
 have q1 : W4.cell? ⟨b9, 1, none⟩ = some (.int .i64 RH) := (blk_cell (blk_below HZ9.out HD4.out) 1).trans rfl
 have q2 : W4.cell? ⟨b9, 2, none⟩ = some (.slice AR RP.length cR) := (blk_cell (blk_below HZ9.out HD4.out) 2).trans rfl
 go_wp2_with (fail)
 obtain ⟨K2, hK2⟩ := Ev.rounds (bvalid_ev RW RH RP hmR)
 refine (bitmap_Valid.calls K2 RW RH AR cR RP _ _ (HA.out _ (HMk.out _ HD4.out)) hcR hK2).mono ?_
 rintro e W5 ⟨rfl, hb⟩
 have HD5 := A' (below_drew (below_then HD4.out HD4.out.size hb))
 have HP5 := A' (HP4.out.below hb)
 have HD5' := A' (below_then HD4.out HD4.out.size hb)
 clear hb q0 q1 q2 hK2
 obtain ⟨vr, hvr⟩ : ∃ x, okB RW RH RP = x := ⟨_, rfl⟩
 have hR := HR.out
 clear HR
 rw [hvr] at hR ⊢
 cases vr
 · rw [if_neg (show ¬ (True ∧ false = true) by simp), if_neg (show ¬ ((30 : Int) = 0) by decide)] at hR
   subst hR
   clear hvr
   go_wp2_with (fail)
   go_ret
   exact ⟨rfl, FIN.out _ HP5.out⟩
 have HBR := A' (okB_bm HbR.out hvr).1
 clear hvr
 rw [if_pos (show True ∧ true = true from ⟨trivial, rfl⟩)] at hR
 obtain ⟨FT, hFT⟩ : ∃ x, okF s.st.length base t = x := ⟨_, rfl⟩
 rw [hFT] at hR
 have HR := A' hR
 have HFF := A' hFT
 clear hR hFT
 go_wp2_with (fail)
 refine start_ (n := 7) (S := fun w' => w'.cell? ⟨b7, 0, none⟩ = some (.int .i64 t) ∧ w'.cell? ⟨b7, 1, none⟩ = some (.int .i64 dx) ∧ w'.cell? ⟨b7, 2, none⟩ = some (.int .i64 dy) ∧ w'.cell? ⟨b7, 3, none⟩ = some (.bool ty) ∧ w'.cell? ⟨b7, 4, none⟩ = some (.int .i64 kd)) (ds := []) #[false, false, false, false, false, false, false] (by kernel_rfl) rfl rfl ⟨(blk_cell (blk_below HZ7.out HD5.out) 0).trans rfl, (blk_cell (blk_below HZ7.out HD5.out) 1).trans rfl, (blk_cell (blk_below HZ7.out HD5.out) 2).trans rfl, (blk_cell (blk_below HZ7.out HD5.out) 3).trans rfl, (blk_cell (blk_below HZ7.out HD5.out) 4).trans rfl⟩ (fun hHeld => ?_)
 refine u' 0 36 (B' 7 1) ?_ rfl rfl (by kernel_rfl) (fun _ _ _ h => h) (.inl ⟨by rfl, ?_⟩) ?_ ?_ ?_; rotate_left; (intro w'; go_simp; with_reducible rfl); rotate_left; (simp only [Act.put, p1', p2', p3', i64_w, i32_w]; rfl)
 refine u' 2 38 (B' 7 5) ?_ rfl rfl (by kernel_rfl) (fun _ _ _ h => h) (.inl ⟨by rfl, ?_⟩) ?_ ?_ ?_; rotate_left; (intro w'; go_simp; with_reducible rfl); rotate_left; (simp only [Act.put, p1', p2', p3', i64_w, i32_w]; rfl)
 refine t' 3 39 (B' 7 13) ?_ rfl rfl (by kernel_rfl) (fun _ _ _ h => h) (.inl ⟨by rfl, ?_⟩) hHeld ?_ ?_ ?_; rotate_left; (rintro w' ⟨s0, s1, s2, s3, s4⟩; go_simp; with_reducible rfl); rotate_left; (simp only [Act.put, p1', p2', p3', i64_w, i32_w]; rfl)
 refine one_ (i := 1) (N := some 37) (B' 7 15) rfl rfl (by kernel_rfl) (by decide) (fun K hK => ?_)
 refine goes_ Try.func32 (by kernel_rfl) rfl #[.pointer (some ⟨g, 0, none⟩)] (by rfl) rfl rfl (by simp only [List.map_toArray, List.map_cons, List.map_nil]; rfl) ?_
 with_reducible refine (model_calls _ _ _ _ (HP5.out.below (below_drew (Below.refl _ _))).e (HP5.out.below (below_drew (Below.refl _ _))).ok).mono ?_
 rintro e W6 ⟨A6, c6, rfl, hM6, hb⟩
 refine ⟨_, rfl, ?_⟩
 have HD6 := A' (below_then HD5.out HD5.out.size hb)
 have HP6 := A' ((HP5.out.below (below_drew (Below.refl _ _))).below hb)
 have hc6 := (Kd.R_reads' hM6).2.1
 have HM6 := A' (Kd.R_reads' hM6).2.2
 clear hb hM6
 refine hK.out _ _ ⟨(blk_cell (blk_below HZ7.out HD6.out) 0).trans rfl, (blk_cell (blk_below HZ7.out HD6.out) 1).trans rfl, (blk_cell (blk_below HZ7.out HD6.out) 2).trans rfl, (blk_cell (blk_below HZ7.out HD6.out) 3).trans rfl, (blk_cell (blk_below HZ7.out HD6.out) 4).trans rfl⟩ (fun hHeld => ?_)
 clear hK K
 refine norm_ (a' := ?_) ?_ ?_; rotate_left; (show Act.put _ (some 37) _ = _; simp only [Act.put, p1', p2', p3', i64_w, i32_w]; rfl)
 refine one_ (i := 4) (N := some 40) (B' 7 31) rfl rfl (by kernel_rfl) (by decide) (fun K hK => ?_)
 refine goes_ Try.func57 (by kernel_rfl) rfl #[.agg #[.int .i64 s.kind, .slice A6 s.st.length c6], .int .i64 base, .agg #[.int .i64 t, .int .i64 dx, .int .i64 dy, .bool ty, .int .i64 kd]] (by rfl) rfl rfl (by simp only [List.map_toArray, List.map_cons, List.map_nil]; rfl) ?_
 with_reducible refine (Hsm.fits_calls s.kind A6 c6 s.st hst base t dx dy ty kd FT HFF.out _).mono ?_
 rintro e W7 ⟨rfl, hb⟩
 refine ⟨_, rfl, ?_⟩
 have HD7 := A' (below_then HD6.out HD6.out.size hb)
 have HP7 := A' (HP6.out.below hb)
 clear hb
 refine hK.out _ _ ⟨(blk_cell (blk_below HZ7.out HD7.out) 0).trans rfl, (blk_cell (blk_below HZ7.out HD7.out) 1).trans rfl, (blk_cell (blk_below HZ7.out HD7.out) 2).trans rfl, (blk_cell (blk_below HZ7.out HD7.out) 3).trans rfl, (blk_cell (blk_below HZ7.out HD7.out) 4).trans rfl⟩ (fun hHeld => ?_)
 clear hK K
 refine norm_ (a' := ?_) ?_ ?_; rotate_left; (show Act.put _ (some 40) _ = _; simp only [Act.put, p1', p2', p3', i64_w, i32_w]; rfl)
 refine u' 5 41 (B' 7 63) ?_ rfl rfl (by kernel_rfl) (fun _ _ _ h => h) (.inl ⟨by rfl, ?_⟩) ?_ ?_ ?_; rotate_left; (intro w'; go_simp; with_reducible rfl); rotate_left; (simp only [Act.put, p1', p2', p3', i64_w, i32_w]; rfl)
 refine u' 6 35 (B' 7 127) ?_ rfl rfl (by kernel_rfl) (fun _ _ _ h => h) (.inl ⟨by rfl, ?_⟩) ?_ ?_ ?_; rotate_left; (intro w'; go_simp; with_reducible rfl); rotate_left; (simp only [Act.put, p1', p2', p3', i64_w, i32_w]; rfl)
 refine done_ (by kernel_rfl) ?_
 have hR := HR.out
 clear HR
 cases FT
 · rw [if_neg (show ¬ (false = true) by decide), if_neg (show ¬ ((2 : Int) = 0) by decide)] at hR
   subst hR
   go_wp2_with (fail)
   go_ret
   exact ⟨rfl, FIN.out _ HP7.out⟩
 rw [if_pos (show true = true from rfl), if_pos (show (0 : Int) = 0 from rfl)] at hR
 have hff := okF_iff.1 HFF.out
 have HR := A' hR
 clear hR
 have q0 : W7.cell? ⟨b7, 0, none⟩ = some (.int .i64 t) := (blk_cell (blk_below HZ7.out HD7.out) 0).trans rfl
 have q1 : W7.cell? ⟨b7, 1, none⟩ = some (.int .i64 dx) := (blk_cell (blk_below HZ7.out HD7.out) 1).trans rfl
 have q2 : W7.cell? ⟨b7, 2, none⟩ = some (.int .i64 dy) := (blk_cell (blk_below HZ7.out HD7.out) 2).trans rfl
 have q3 : W7.cell? ⟨b7, 3, none⟩ = some (.bool ty) := (blk_cell (blk_below HZ7.out HD7.out) 3).trans rfl
 have q4 : W7.cell? ⟨b7, 4, none⟩ = some (.int .i64 kd) := (blk_cell (blk_below HZ7.out HD7.out) 4).trans rfl
 have q5 : W7.cell? ⟨b8, 0, none⟩ = some (.int .i64 W) := (blk_cell (blk_below HZ8.out HD7.out) 0).trans rfl
 have q6 : W7.cell? ⟨b8, 1, none⟩ = some (.int .i64 H) := (blk_cell (blk_below HZ8.out HD7.out) 1).trans rfl
 have q7 : W7.cell? ⟨b8, 2, none⟩ = some (.slice AB P.length cB) := (blk_cell (blk_below HZ8.out HD7.out) 2).trans rfl
 have q8 : W7.cell? ⟨b9, 0, none⟩ = some (.int .i64 RW) := (blk_cell (blk_below HZ9.out HD7.out) 0).trans rfl
 have q9 : W7.cell? ⟨b9, 1, none⟩ = some (.int .i64 RH) := (blk_cell (blk_below HZ9.out HD7.out) 1).trans rfl
 have q10 : W7.cell? ⟨b9, 2, none⟩ = some (.slice AR RP.length cR) := (blk_cell (blk_below HZ9.out HD7.out) 2).trans rfl
 go_wp2_with (fail)
 refine (newRegion_calls _ t dx dy ty kd W H _ RW RH _ AB P.length cB AR RP.length cR rfl rfl).mono ?_
 rintro e W8 ⟨gr, rfl, hgr, hZg, hb⟩
 have HD8 := A' (below_then HD7.out HD7.out.size hb)
 clear q0 q1 q2 q3 q4 q5 q6 q7 q8 q9 q10
 obtain ⟨S8, hS8⟩ : ∃ S8 : Nat → Prop, (fun k => (S k ∨ W1.heap.size ≤ k) ∧ k < W2.heap.size) = S8 := ⟨_, rfl⟩
 have HS8 := A' (show ∀ k, S8 k → (S k ∨ W1.heap.size ≤ k) ∧ k < W2.heap.size from hS8 ▸ fun k hk => hk)
 have HP8 := A' (PW.start (At := EncAt) (w := W8) (S := S8) (hS8 ▸ HP2.out.e.below HD8.out) (fun k hk => Nat.lt_of_lt_of_le (HS8.out k hk).2 HD8.out.size) HOK.out)
 have HSZ := A' (show ∀ b, w.heap.size ≤ b → b < W1.heap.size → ¬ S8 b from fun b h1 h2 hk => by rcases (HS8.out b hk).1 with h | h; (have := HS.out b h; omega); omega)
 have HM8 := A' (show ∀ V, Mods W8 V S8 → Mods w V S from fun V hV => (HMk.out _ HD8.out).then_ hV (fun k hk => ((HS8.out k hk).1).imp id (fun h => Nat.le_trans HB1.out.size h)))
 have HRG := A' (show ∀ V, Mods W8 V S8 → Reg V gr t dx dy ty kd W H AB cB P RW RH AR cR RP from fun V hV => ⟨blk_mods hZg hV (fun hk => by have := (HS8.out _ hk).2; have := HD7.out.size; omega), HB.out _ (HM8.out _ hV), hcB, HA.out _ (HM8.out _ hV), hcR, HBM.out, HBR.out, HT.out, by have := HOO.out; omega, by have := HOO.out; omega⟩)
 have hlt7 := HGE.out
 have HZ7 := A' (show ∀ V, Mods W8 V S8 → V.heap[b7]? = some (.cells #[.int .i64 t, .int .i64 dx, .int .i64 dy, .bool ty, .int .i64 kd] 23 (0, 0)) from fun V hV => blk_mods (blk_below HZ7.out HD8.out) hV (HSZ.out _ hlt7.1 HLT.out.1))
 have HZ8 := A' (show ∀ V, Mods W8 V S8 → V.heap[b8]? = some (.cells #[.int .i64 W, .int .i64 H, .slice AB P.length cB] 31 (0, 0)) from fun V hV => blk_mods (blk_below HZ8.out HD8.out) hV (HSZ.out _ hlt7.2.1 HLT.out.2.1))
 clear HP1 HP2 HP3 HP4 HP5 HP6 HP7 HD3 HD4 HD5 HD5' HD6 HD7 HM6 HZ9 hgr hZg hb hS8 HE hlt7
 have hw := HBM.out.w
 have hh := HBM.out.h
 have HQE := A' (show evR q P = evY q P H.toNat 0 by rw [HQQ.out]; rfl)
 obtain ⟨R1, hR1⟩ : ∃ x, putsI s (evR q P) = x := ⟨_, rfl⟩
 have hR := HR.out
 rw [hR1] at hR
 subst hR
 rw [HQE.out] at hR1
 have HR1 := A' hR1
 have HL1 := A' (show s.out.length + 4 * (evY q P H.toNat 0).length ≤ 1000200000 by have := evR_len q P (by rw [HQQ.out]; exact hw.2) (by rw [HQQ.out]; exact hh.2); rw [HQE.out] at this; omega)
 clear hR1 HR
 have p0 : W8.cell? ⟨b8, 1, none⟩ = some (.int .i64 H) := (blk_cell (HZ8.out _ (Mods.refl _ _)) 1).trans rfl
 go_wp2_with (fail)
 clear p0
 go_loopw [53] (fun j wr => ∃ (k : Nat) (s1 : ES), k ≤ H.toNat ∧ j = .int .i64 k ∧ Aside0 (putsI s1 (evY q P (H.toNat - k) k) = R1) ∧ Aside0 (s1.out.length + 4 * (evY q P (H.toNat - k) k).length ≤ 1000200000) ∧ Aside0 (PW EncAt W8 S8 g s1 wr)) (fun j _ => H.toNat - (intOf j).toNat)
 case atStart => exact ⟨0, s, Nat.zero_le _, rfl, HR1, HL1, HP8⟩
 clear HR1 HL1 HP8
 case round =>
  obtain ⟨k, s1, hk, rfl, HY, HL, HP⟩ := hrel
  by_cases hlt : k < H.toNat
  · have hltk : (k : Int) < H := by omega
    have hY := HY.out
    rw [show H.toNat - k = (H.toNat - (k + 1)) + 1 by omega] at hY
    unfold evY evH at hY
    have hL := HL.out
    rw [show H.toNat - k = (H.toNat - (k + 1)) + 1 by omega] at hL
    unfold evY evH at hL
    have hqt : q.ty = ty := by rw [HQQ.out]
    have hqW : q.W = W := by rw [HQQ.out]
    have hqty : q.typ P k = (ty && rowP dx dy W H P RW RH RP k W.toNat 0) := by rw [HQQ.out]; rfl
    have hqb : q.base + ctxs q.t = base + ctxs t := by rw [HQQ.out]
    rw [hqt, hqW, hqb] at hY hL
    clear HY HL hqt hqW hqb
    have z0 : wr.cell? ⟨b7, 0, none⟩ = some (.int .i64 t) := (blk_cell (HZ7.out _ HP.out.m) 0).trans rfl
    have z3 : wr.cell? ⟨b7, 3, none⟩ = some (.bool ty) := (blk_cell (HZ7.out _ HP.out.m) 3).trans rfl
    have z8 : wr.cell? ⟨b8, 0, none⟩ = some (.int .i64 W) := (blk_cell (HZ8.out _ HP.out.m) 0).trans rfl
    cases ty
    · rw [Bool.false_and] at hqty
      rw [hqty, if_neg (by decide), List.nil_append] at hY hL
      rw [List.length_append] at hL
      have HX := A' hY
      have HL := A' hL
      clear hY hL hqty
      go_wp2_with (fail)
      clear z0 z3 z8
      obtain ⟨V, hV⟩ : ∃ V, V = wr := ⟨_, rfl⟩
      subst hV
      go_loopw [76] (fun i wr => ∃ (m : Nat) (s2 : ES), m ≤ W.toNat ∧ i = .int .i64 m ∧ Aside0 (putsI s2 (evX q P k false (W.toNat - m) m ++ evY q P (H.toNat - (k + 1)) (k + 1)) = R1) ∧ Aside0 (s2.out.length + 4 * ((evX q P k false (W.toNat - m) m).length + (evY q P (H.toNat - (k + 1)) (k + 1)).length) ≤ 1000200000) ∧ Aside0 (PW EncAt W8 S8 g s2 wr)) (fun i _ => W.toNat - (intOf i).toNat)
      case atStart => exact ⟨0, _, Nat.zero_le _, rfl, HX, HL, HP⟩
      case round =>
       obtain ⟨m, s2, hm, rfl, HX, HL, HQ⟩ := hrel
       by_cases hltm : m < W.toNat
       · have hltm2 : (m : Int) < W := by omega
         go_wp2_with (fail)
         refine ((HRG.out _ HQ.out.m).flat (m : Int) (k : Int) (by omega) (by omega)).mono ?_
         rintro e X0 ⟨rfl, hb⟩
         have HQ := A' (HQ.out.below hb)
         clear hb
         obtain ⟨⟨fc, is⟩, hF⟩ : ∃ r, flatP RW RH RP ((m : Int) - dx) ((k : Int) - dy) = r := ⟨_, rfl⟩
         rw [hF]
         have HF := A' (show (q.flat (m : Int) (k : Int)).2 = is by rw [HQF.out, hF])
         clear hF
         simp only
         have hfx : ¬ (false = true ∧ true = true) := by simp
         have hX := HX.out
         rw [show W.toNat - m = (W.toNat - (m + 1)) + 1 by omega] at hX
         unfold evX at hX
         rw [if_neg (show ¬ (false = true ∧ (q.flat (m : Int) (k : Int)).2 = true) by simp), List.cons_append, putsI_cons, HQC.out] at hX
         simp only at hX
         have hL := HL.out
         rw [show W.toNat - m = (W.toNat - (m + 1)) + 1 by omega] at hL
         unfold evX at hL
         rw [if_neg (show ¬ (false = true ∧ (q.flat (m : Int) (k : Int)).2 = true) by simp), List.length_cons] at hL
         have HX2 := A' hX
         have HL2 := A' hL
         have HLN := A' (show s2.out.length ≤ 1099511627776 by omega)
         have hpx := px_01 HBM.out (m : Int) (k : Int)
         have hcr := ctxP_range HBM.out HBR.out t dx dy (m : Int) (k : Int) HT.out
         have HQ0 := A' (HQ.out.below (below_drew (Below.refl _ _)))
         clear hX hL hfx
         go_wp2_with (fail)
         refine start_ (n := 16) (S := fun w' => w'.cell? ⟨gr, 5, none⟩ = some (.int .i64 W) ∧ w'.cell? ⟨gr, 6, none⟩ = some (.int .i64 H) ∧ w'.cell? ⟨gr, 7, none⟩ = some (.slice AB P.length cB)) (ds := []) #[false, false, false, false, false, false, false, false, false, false, false, false, false, false, false, false] (by kernel_rfl) rfl rfl ⟨(blk_cell (HRG.out _ HQ0.out.m).z 5).trans rfl, (blk_cell (HRG.out _ HQ0.out.m).z 6).trans rfl, (blk_cell (HRG.out _ HQ0.out.m).z 7).trans rfl⟩ (fun hHeld => ?_)
         refine u' 0 92 (B' 16 1) ?_ rfl rfl (by kernel_rfl) (fun _ _ _ h => h) (.inl ⟨by rfl, ?_⟩) ?_ ?_ ?_; rotate_left; (intro w'; go_simp; with_reducible rfl); rotate_left; (simp only [Act.put, p1', p2', p3', i64_w, i32_w]; rfl)
         refine u' 1 93 (B' 16 3) ?_ rfl rfl (by kernel_rfl) (fun _ _ _ h => h) (.inl ⟨by rfl, ?_⟩) ?_ ?_ ?_; rotate_left; (intro w'; go_simp; with_reducible rfl); rotate_left; (simp only [Act.put, p1', p2', p3', i64_w, i32_w]; rfl)
         refine u' 2 94 (B' 16 7) ?_ rfl rfl (by kernel_rfl) (fun _ _ _ h => h) (.inl ⟨by rfl, ?_⟩) ?_ ?_ ?_; rotate_left; (intro w'; go_simp; with_reducible rfl); rotate_left; (simp only [Act.put, p1', p2', p3', i64_w, i32_w]; rfl)
         refine u' 3 95 (B' 16 15) ?_ rfl rfl (by kernel_rfl) (fun _ _ _ h => h) (.inl ⟨by rfl, ?_⟩) ?_ ?_ ?_; rotate_left; (intro w'; go_simp; with_reducible rfl); rotate_left; (simp only [Act.put, p1', p2', p3', i64_w, i32_w]; rfl)
         refine u' 4 96 (B' 16 31) ?_ rfl rfl (by kernel_rfl) (fun _ _ _ h => h) (.inl ⟨by rfl, ?_⟩) ?_ ?_ ?_; rotate_left; (intro w'; go_simp; with_reducible rfl); rotate_left; (simp only [Act.put, p1', p2', p3', i64_w, i32_w]; rfl)
         refine u' 7 99 (B' 16 159) ?_ rfl rfl (by kernel_rfl) (fun _ _ _ h => h) (.inl ⟨by rfl, ?_⟩) ?_ ?_ ?_; rotate_left; (intro w'; go_simp; with_reducible rfl); rotate_left; (simp only [Act.put, p1', p2', p3', i64_w, i32_w]; rfl)
         refine u' 8 100 (B' 16 415) ?_ rfl rfl (by kernel_rfl) (fun _ _ _ h => h) (.inl ⟨by rfl, ?_⟩) ?_ ?_ ?_; rotate_left; (intro w'; go_simp; with_reducible rfl); rotate_left; (simp only [Act.put, p1', p2', p3', i64_w, i32_w]; rfl)
         refine u' 9 101 (B' 16 927) ?_ rfl rfl (by kernel_rfl) (fun _ _ _ h => h) (.inl ⟨by rfl, ?_⟩) ?_ ?_ ?_; rotate_left; (intro w'; go_simp; with_reducible rfl); rotate_left; (simp only [Act.put, p1', p2', p3', i64_w, i32_w]; rfl)
         refine u' 11 103 (B' 16 2975) ?_ rfl rfl (by kernel_rfl) (fun _ _ _ h => h) (.inl ⟨by rfl, ?_⟩) ?_ ?_ ?_; rotate_left; (intro w'; go_simp; with_reducible rfl); rotate_left; (simp only [Act.put, p1', p2', p3', i64_w, i32_w]; rfl)
         refine u' 12 104 (B' 16 7071) ?_ rfl rfl (by kernel_rfl) (fun _ _ _ h => h) (.inl ⟨by rfl, ?_⟩) ?_ ?_ ?_; rotate_left; (intro w'; go_simp; with_reducible rfl); rotate_left; (simp only [Act.put, p1', p2', p3', i64_w, i32_w]; rfl)
         refine t' 10 102 (B' 16 8095) ?_ rfl rfl (by kernel_rfl) (fun _ _ _ h => h) (.inl ⟨by rfl, ?_⟩) hHeld ?_ ?_ ?_; rotate_left; (rintro w' ⟨s0, s1, s2⟩; go_simp; with_reducible rfl); rotate_left; (simp only [Act.put, p1', p2', p3', i64_w, i32_w]; rfl)
         refine one_ (i := 5) (N := some 97) (B' 16 8127) rfl rfl (by kernel_rfl) (by decide) (fun K hK => ?_)
         refine goes_ Try.func61 (by kernel_rfl) rfl #[.pointer (some ⟨gr, 0, none⟩), .int .i64 (m : Int), .int .i64 (k : Int)] (by rfl) rfl rfl (by simp only [List.map_toArray, List.map_cons, List.map_nil]; rfl) ?_
         with_reducible refine ((HRG.out _ HQ0.out.m).context (m : Int) (k : Int) (by omega) (by omega)).mono ?_
         rintro e X1 ⟨rfl, hb⟩
         refine ⟨_, rfl, ?_⟩
         have HQ1 := A' (HQ0.out.below hb)
         clear hb
         refine hK.out _ _ ⟨(blk_cell (HRG.out _ HQ1.out.m).z 5).trans rfl, (blk_cell (HRG.out _ HQ1.out.m).z 6).trans rfl, (blk_cell (HRG.out _ HQ1.out.m).z 7).trans rfl⟩ (fun hHeld => ?_)
         clear hK K
         refine norm_ (a' := ?_) ?_ ?_; rotate_left; (show Act.put _ (some 97) _ = _; simp only [Act.put, p1', p2', p3', i64_w, i32_w]; rfl)
         refine u' 6 98 (B' 16 8191) ?_ rfl rfl (by kernel_rfl) (fun _ _ _ h => h) (.inl ⟨by rfl, ?_⟩) ?_ ?_ ?_; rotate_left; (intro w'; go_simp; with_reducible rfl); rotate_left; (simp only [Act.put, p1', p2', p3', i64_w, i32_w]; rfl)
         refine one_ (i := 13) (N := some 105) (B' 16 16383) rfl rfl (by kernel_rfl) (by decide) (fun K hK => ?_)
         refine goes_ Try.func62 (by kernel_rfl) rfl #[.agg #[.int .i64 W, .int .i64 H, .slice AB P.length cB], .int .i64 (m : Int), .int .i64 (k : Int)] (by rfl) rfl rfl (by simp only [List.map_toArray, List.map_cons, List.map_nil]; rfl) ?_
         with_reducible refine ((HRG.out _ HQ1.out.m).at_ (m : Int) (k : Int)).mono ?_
         rintro e X2 ⟨rfl, hb⟩
         refine ⟨_, rfl, ?_⟩
         have HQ2 := A' (HQ1.out.below hb)
         clear hb
         refine hK.out _ _ ⟨(blk_cell (HRG.out _ HQ2.out.m).z 5).trans rfl, (blk_cell (HRG.out _ HQ2.out.m).z 6).trans rfl, (blk_cell (HRG.out _ HQ2.out.m).z 7).trans rfl⟩ (fun hHeld => ?_)
         clear hK K
         refine norm_ (a' := ?_) ?_ ?_; rotate_left; (show Act.put _ (some 105) _ = _; simp only [Act.put, p1', p2', p3', i64_w, i32_w]; rfl)
         refine u' 14 106 (B' 16 32767) ?_ rfl rfl (by kernel_rfl) (fun _ _ _ h => h) (.inl ⟨by rfl, ?_⟩) ?_ ?_ ?_; rotate_left; (intro w'; go_simp; with_reducible rfl); rotate_left; (simp only [Act.put, p1', p2', p3', i64_w, i32_w]; rfl)
         refine one_ (i := 15) (N := some 107) (B' 16 65535) rfl rfl (by kernel_rfl) (by decide) (fun K hK => ?_)
         refine goes_ Try.func28 (by kernel_rfl) rfl #[.pointer (some ⟨g, 0, none⟩), .int .i64 (wrap64 (base + ctxP t dx dy W H P RW RH RP (m : Int) (k : Int))), .int .i64 (wrap64 (px W H P (m : Int) (k : Int)))] (by rfl) rfl rfl (by simp only [List.map_toArray, List.map_cons, List.map_nil]; rfl) ?_
         with_reducible refine (HQ2.out.put_eq HLN.out (base + ctxP t dx dy W H P RW RH RP (m : Int) (k : Int)) (px W H P (m : Int) (k : Int)) (by rw [wrap_id] <;> omega) (by rw [wrap_id] <;> omega)).mono ?_
         rintro e X3 ⟨rfl, hP⟩
         refine ⟨_, rfl, ?_⟩
         have HQ3 := A' hP
         clear hP
         refine hK.out _ _ ⟨(blk_cell (HRG.out _ HQ3.out.m).z 5).trans rfl, (blk_cell (HRG.out _ HQ3.out.m).z 6).trans rfl, (blk_cell (HRG.out _ HQ3.out.m).z 7).trans rfl⟩ (fun hHeld => ?_)
         clear hK K
         refine norm_ (a' := ?_) ?_ ?_; rotate_left; (show Act.put _ (some 107) _ = _; simp only [Act.put, p1', p2', p3', i64_w, i32_w]; rfl)
         refine done_ (by kernel_rfl) ?_
         go_wp2_with (fail)
         refine ⟨⟨m + 1, _, by omega, by go_num, HX2, ⟨?_⟩, HQ3⟩, by simp [intOf]; omega⟩
         have h1 := (ES.putI_len s2 (base + ctxP t dx dy W H P RW RH RP (m : Int) (k : Int)) (px W H P (m : Int) (k : Int))).1
         have h2 := HL2.out
         omega
       · have hX := HX.out
         rw [show W.toNat - m = 0 by omega] at hX
         simp only [evX, List.nil_append] at hX
         have hL := HL.out
         rw [show W.toNat - m = 0 by omega] at hL
         simp only [evX, List.length_nil, Nat.zero_add] at hL
         have HX2 := A' hX
         have HL2 := A' hL
         clear hX hL
         go_wp2_with (fail)
         exact ⟨⟨k + 1, _, by omega, by go_num, HX2, HL2, HQ⟩, by simp [intOf]; omega⟩
    · rw [Bool.true_and] at hqty
      rw [if_pos rfl] at hY hL
      go_wp2_with (fail)
      refine (typical_calls _ gr t dx dy true kd W H AB cB P RW RH AR cR RP (k : Int) (HRG.out _ HP.out.m) (by omega)).mono ?_
      rintro e V1 ⟨rfl, hb⟩
      have HP := A' (HP.out.below hb)
      clear hb z0 z3 z8
      obtain ⟨vt, hvt⟩ : ∃ x, rowP dx dy W H P RW RH RP k W.toNat 0 = x := ⟨_, rfl⟩
      rw [hvt] at hqty ⊢
      rw [hqty, List.cons_append, List.nil_append, putsI_cons] at hY
      rw [hqty, List.cons_append, List.nil_append, List.length_cons, List.length_append] at hL
      simp only at hY
      have HX0 := A' hY
      have HL0 := A' hL
      clear hvt hqty hY hL
      have z0 : V1.cell? ⟨b7, 0, none⟩ = some (.int .i64 t) := (blk_cell (HZ7.out _ HP.out.m) 0).trans rfl
      have z3 : V1.cell? ⟨b7, 3, none⟩ = some (.bool true) := (blk_cell (HZ7.out _ HP.out.m) 3).trans rfl
      have hcx := ctxs_range t
      cases vt
      · rw [show bit1 false = 0 from rfl] at HX0
        go_wp2_with (fail)
        refine (refine_contexts.calls t (ctxs t) _ (contexts_eq t)).mono ?_
        rintro e V2 ⟨rfl, hb⟩
        have HP := A' (HP.out.below hb)
        clear hb z0 z3
        have hln : s1.out.length ≤ 1099511627776 := by have := HL0.out; omega
        go_wp2_with (fail)
        refine (HP.out.put_eq hln (base + ctxs t) 0 (by first | rfl | (rw [wrap_id] <;> omega)) rfl).mono ?_
        rintro e V3 ⟨rfl, hP⟩
        have HP := A' hP
        have HX := A' HX0.out
        have HL := A' (show (s1.putI (base + ctxs t) 0).out.length + 4 * ((evX q P k false W.toNat 0).length + (evY q P (H.toNat - (k + 1)) (k + 1)).length) ≤ 1000200000 by have h1 := (ES.putI_len s1 (base + ctxs t) 0).1; have h2 := HL0.out; omega)
        clear hP hln HX0 HL0
        have z8 : V3.cell? ⟨b8, 0, none⟩ = some (.int .i64 W) := (blk_cell (HZ8.out _ HP.out.m) 0).trans rfl
        go_wp2_with (fail)
        clear z8
        go_loopw [76] (fun i wr => ∃ (m : Nat) (s2 : ES), m ≤ W.toNat ∧ i = .int .i64 m ∧ Aside0 (putsI s2 (evX q P k false (W.toNat - m) m ++ evY q P (H.toNat - (k + 1)) (k + 1)) = R1) ∧ Aside0 (s2.out.length + 4 * ((evX q P k false (W.toNat - m) m).length + (evY q P (H.toNat - (k + 1)) (k + 1)).length) ≤ 1000200000) ∧ Aside0 (PW EncAt W8 S8 g s2 wr)) (fun i _ => W.toNat - (intOf i).toNat)
        case atStart => exact ⟨0, _, Nat.zero_le _, rfl, HX, HL, HP⟩
        case round =>
         obtain ⟨m, s2, hm, rfl, HX, HL, HQ⟩ := hrel
         by_cases hltm : m < W.toNat
         · have hltm2 : (m : Int) < W := by omega
           go_wp2_with (fail)
           refine ((HRG.out _ HQ.out.m).flat (m : Int) (k : Int) (by omega) (by omega)).mono ?_
           rintro e X0 ⟨rfl, hb⟩
           have HQ := A' (HQ.out.below hb)
           clear hb
           obtain ⟨⟨fc, is⟩, hF⟩ : ∃ r, flatP RW RH RP ((m : Int) - dx) ((k : Int) - dy) = r := ⟨_, rfl⟩
           rw [hF]
           have HF := A' (show (q.flat (m : Int) (k : Int)).2 = is by rw [HQF.out, hF])
           clear hF
           simp only
           have hfx : ¬ (false = true ∧ true = true) := by simp
           have hX := HX.out
           rw [show W.toNat - m = (W.toNat - (m + 1)) + 1 by omega] at hX
           unfold evX at hX
           rw [if_neg (show ¬ (false = true ∧ (q.flat (m : Int) (k : Int)).2 = true) by simp), List.cons_append, putsI_cons, HQC.out] at hX
           simp only at hX
           have hL := HL.out
           rw [show W.toNat - m = (W.toNat - (m + 1)) + 1 by omega] at hL
           unfold evX at hL
           rw [if_neg (show ¬ (false = true ∧ (q.flat (m : Int) (k : Int)).2 = true) by simp), List.length_cons] at hL
           have HX2 := A' hX
           have HL2 := A' hL
           have HLN := A' (show s2.out.length ≤ 1099511627776 by omega)
           have hpx := px_01 HBM.out (m : Int) (k : Int)
           have hcr := ctxP_range HBM.out HBR.out t dx dy (m : Int) (k : Int) HT.out
           have HQ0 := A' (HQ.out.below (below_drew (Below.refl _ _)))
           clear hX hL hfx
           go_wp2_with (fail)
           refine start_ (n := 16) (S := fun w' => w'.cell? ⟨gr, 5, none⟩ = some (.int .i64 W) ∧ w'.cell? ⟨gr, 6, none⟩ = some (.int .i64 H) ∧ w'.cell? ⟨gr, 7, none⟩ = some (.slice AB P.length cB)) (ds := []) #[false, false, false, false, false, false, false, false, false, false, false, false, false, false, false, false] (by kernel_rfl) rfl rfl ⟨(blk_cell (HRG.out _ HQ0.out.m).z 5).trans rfl, (blk_cell (HRG.out _ HQ0.out.m).z 6).trans rfl, (blk_cell (HRG.out _ HQ0.out.m).z 7).trans rfl⟩ (fun hHeld => ?_)
           refine u' 0 92 (B' 16 1) ?_ rfl rfl (by kernel_rfl) (fun _ _ _ h => h) (.inl ⟨by rfl, ?_⟩) ?_ ?_ ?_; rotate_left; (intro w'; go_simp; with_reducible rfl); rotate_left; (simp only [Act.put, p1', p2', p3', i64_w, i32_w]; rfl)
           refine u' 1 93 (B' 16 3) ?_ rfl rfl (by kernel_rfl) (fun _ _ _ h => h) (.inl ⟨by rfl, ?_⟩) ?_ ?_ ?_; rotate_left; (intro w'; go_simp; with_reducible rfl); rotate_left; (simp only [Act.put, p1', p2', p3', i64_w, i32_w]; rfl)
           refine u' 2 94 (B' 16 7) ?_ rfl rfl (by kernel_rfl) (fun _ _ _ h => h) (.inl ⟨by rfl, ?_⟩) ?_ ?_ ?_; rotate_left; (intro w'; go_simp; with_reducible rfl); rotate_left; (simp only [Act.put, p1', p2', p3', i64_w, i32_w]; rfl)
           refine u' 3 95 (B' 16 15) ?_ rfl rfl (by kernel_rfl) (fun _ _ _ h => h) (.inl ⟨by rfl, ?_⟩) ?_ ?_ ?_; rotate_left; (intro w'; go_simp; with_reducible rfl); rotate_left; (simp only [Act.put, p1', p2', p3', i64_w, i32_w]; rfl)
           refine u' 4 96 (B' 16 31) ?_ rfl rfl (by kernel_rfl) (fun _ _ _ h => h) (.inl ⟨by rfl, ?_⟩) ?_ ?_ ?_; rotate_left; (intro w'; go_simp; with_reducible rfl); rotate_left; (simp only [Act.put, p1', p2', p3', i64_w, i32_w]; rfl)
           refine u' 7 99 (B' 16 159) ?_ rfl rfl (by kernel_rfl) (fun _ _ _ h => h) (.inl ⟨by rfl, ?_⟩) ?_ ?_ ?_; rotate_left; (intro w'; go_simp; with_reducible rfl); rotate_left; (simp only [Act.put, p1', p2', p3', i64_w, i32_w]; rfl)
           refine u' 8 100 (B' 16 415) ?_ rfl rfl (by kernel_rfl) (fun _ _ _ h => h) (.inl ⟨by rfl, ?_⟩) ?_ ?_ ?_; rotate_left; (intro w'; go_simp; with_reducible rfl); rotate_left; (simp only [Act.put, p1', p2', p3', i64_w, i32_w]; rfl)
           refine u' 9 101 (B' 16 927) ?_ rfl rfl (by kernel_rfl) (fun _ _ _ h => h) (.inl ⟨by rfl, ?_⟩) ?_ ?_ ?_; rotate_left; (intro w'; go_simp; with_reducible rfl); rotate_left; (simp only [Act.put, p1', p2', p3', i64_w, i32_w]; rfl)
           refine u' 11 103 (B' 16 2975) ?_ rfl rfl (by kernel_rfl) (fun _ _ _ h => h) (.inl ⟨by rfl, ?_⟩) ?_ ?_ ?_; rotate_left; (intro w'; go_simp; with_reducible rfl); rotate_left; (simp only [Act.put, p1', p2', p3', i64_w, i32_w]; rfl)
           refine u' 12 104 (B' 16 7071) ?_ rfl rfl (by kernel_rfl) (fun _ _ _ h => h) (.inl ⟨by rfl, ?_⟩) ?_ ?_ ?_; rotate_left; (intro w'; go_simp; with_reducible rfl); rotate_left; (simp only [Act.put, p1', p2', p3', i64_w, i32_w]; rfl)
           refine t' 10 102 (B' 16 8095) ?_ rfl rfl (by kernel_rfl) (fun _ _ _ h => h) (.inl ⟨by rfl, ?_⟩) hHeld ?_ ?_ ?_; rotate_left; (rintro w' ⟨s0, s1, s2⟩; go_simp; with_reducible rfl); rotate_left; (simp only [Act.put, p1', p2', p3', i64_w, i32_w]; rfl)
           refine one_ (i := 5) (N := some 97) (B' 16 8127) rfl rfl (by kernel_rfl) (by decide) (fun K hK => ?_)
           refine goes_ Try.func61 (by kernel_rfl) rfl #[.pointer (some ⟨gr, 0, none⟩), .int .i64 (m : Int), .int .i64 (k : Int)] (by rfl) rfl rfl (by simp only [List.map_toArray, List.map_cons, List.map_nil]; rfl) ?_
           with_reducible refine ((HRG.out _ HQ0.out.m).context (m : Int) (k : Int) (by omega) (by omega)).mono ?_
           rintro e X1 ⟨rfl, hb⟩
           refine ⟨_, rfl, ?_⟩
           have HQ1 := A' (HQ0.out.below hb)
           clear hb
           refine hK.out _ _ ⟨(blk_cell (HRG.out _ HQ1.out.m).z 5).trans rfl, (blk_cell (HRG.out _ HQ1.out.m).z 6).trans rfl, (blk_cell (HRG.out _ HQ1.out.m).z 7).trans rfl⟩ (fun hHeld => ?_)
           clear hK K
           refine norm_ (a' := ?_) ?_ ?_; rotate_left; (show Act.put _ (some 97) _ = _; simp only [Act.put, p1', p2', p3', i64_w, i32_w]; rfl)
           refine u' 6 98 (B' 16 8191) ?_ rfl rfl (by kernel_rfl) (fun _ _ _ h => h) (.inl ⟨by rfl, ?_⟩) ?_ ?_ ?_; rotate_left; (intro w'; go_simp; with_reducible rfl); rotate_left; (simp only [Act.put, p1', p2', p3', i64_w, i32_w]; rfl)
           refine one_ (i := 13) (N := some 105) (B' 16 16383) rfl rfl (by kernel_rfl) (by decide) (fun K hK => ?_)
           refine goes_ Try.func62 (by kernel_rfl) rfl #[.agg #[.int .i64 W, .int .i64 H, .slice AB P.length cB], .int .i64 (m : Int), .int .i64 (k : Int)] (by rfl) rfl rfl (by simp only [List.map_toArray, List.map_cons, List.map_nil]; rfl) ?_
           with_reducible refine ((HRG.out _ HQ1.out.m).at_ (m : Int) (k : Int)).mono ?_
           rintro e X2 ⟨rfl, hb⟩
           refine ⟨_, rfl, ?_⟩
           have HQ2 := A' (HQ1.out.below hb)
           clear hb
           refine hK.out _ _ ⟨(blk_cell (HRG.out _ HQ2.out.m).z 5).trans rfl, (blk_cell (HRG.out _ HQ2.out.m).z 6).trans rfl, (blk_cell (HRG.out _ HQ2.out.m).z 7).trans rfl⟩ (fun hHeld => ?_)
           clear hK K
           refine norm_ (a' := ?_) ?_ ?_; rotate_left; (show Act.put _ (some 105) _ = _; simp only [Act.put, p1', p2', p3', i64_w, i32_w]; rfl)
           refine u' 14 106 (B' 16 32767) ?_ rfl rfl (by kernel_rfl) (fun _ _ _ h => h) (.inl ⟨by rfl, ?_⟩) ?_ ?_ ?_; rotate_left; (intro w'; go_simp; with_reducible rfl); rotate_left; (simp only [Act.put, p1', p2', p3', i64_w, i32_w]; rfl)
           refine one_ (i := 15) (N := some 107) (B' 16 65535) rfl rfl (by kernel_rfl) (by decide) (fun K hK => ?_)
           refine goes_ Try.func28 (by kernel_rfl) rfl #[.pointer (some ⟨g, 0, none⟩), .int .i64 (wrap64 (base + ctxP t dx dy W H P RW RH RP (m : Int) (k : Int))), .int .i64 (wrap64 (px W H P (m : Int) (k : Int)))] (by rfl) rfl rfl (by simp only [List.map_toArray, List.map_cons, List.map_nil]; rfl) ?_
           with_reducible refine (HQ2.out.put_eq HLN.out (base + ctxP t dx dy W H P RW RH RP (m : Int) (k : Int)) (px W H P (m : Int) (k : Int)) (by rw [wrap_id] <;> omega) (by rw [wrap_id] <;> omega)).mono ?_
           rintro e X3 ⟨rfl, hP⟩
           refine ⟨_, rfl, ?_⟩
           have HQ3 := A' hP
           clear hP
           refine hK.out _ _ ⟨(blk_cell (HRG.out _ HQ3.out.m).z 5).trans rfl, (blk_cell (HRG.out _ HQ3.out.m).z 6).trans rfl, (blk_cell (HRG.out _ HQ3.out.m).z 7).trans rfl⟩ (fun hHeld => ?_)
           clear hK K
           refine norm_ (a' := ?_) ?_ ?_; rotate_left; (show Act.put _ (some 107) _ = _; simp only [Act.put, p1', p2', p3', i64_w, i32_w]; rfl)
           refine done_ (by kernel_rfl) ?_
           go_wp2_with (fail)
           refine ⟨⟨m + 1, _, by omega, by go_num, HX2, ⟨?_⟩, HQ3⟩, by simp [intOf]; omega⟩
           have h1 := (ES.putI_len s2 (base + ctxP t dx dy W H P RW RH RP (m : Int) (k : Int)) (px W H P (m : Int) (k : Int))).1
           have h2 := HL2.out
           omega
         · have hX := HX.out
           rw [show W.toNat - m = 0 by omega] at hX
           simp only [evX, List.nil_append] at hX
           have hL := HL.out
           rw [show W.toNat - m = 0 by omega] at hL
           simp only [evX, List.length_nil, Nat.zero_add] at hL
           have HX2 := A' hX
           have HL2 := A' hL
           clear hX hL
           go_wp2_with (fail)
           exact ⟨⟨k + 1, _, by omega, by go_num, HX2, HL2, HQ⟩, by simp [intOf]; omega⟩
      · rw [show bit1 true = 1 from rfl] at HX0
        go_wp2_with (fail)
        refine (refine_contexts.calls t (ctxs t) _ (contexts_eq t)).mono ?_
        rintro e V2 ⟨rfl, hb⟩
        have HP := A' (HP.out.below hb)
        clear hb z0 z3
        have hln : s1.out.length ≤ 1099511627776 := by have := HL0.out; omega
        go_wp2_with (fail)
        refine (HP.out.put_eq hln (base + ctxs t) 1 (by first | rfl | (rw [wrap_id] <;> omega)) rfl).mono ?_
        rintro e V3 ⟨rfl, hP⟩
        have HP := A' hP
        have HX := A' HX0.out
        have HL := A' (show (s1.putI (base + ctxs t) 1).out.length + 4 * ((evX q P k true W.toNat 0).length + (evY q P (H.toNat - (k + 1)) (k + 1)).length) ≤ 1000200000 by have h1 := (ES.putI_len s1 (base + ctxs t) 1).1; have h2 := HL0.out; omega)
        clear hP hln HX0 HL0
        have z8 : V3.cell? ⟨b8, 0, none⟩ = some (.int .i64 W) := (blk_cell (HZ8.out _ HP.out.m) 0).trans rfl
        go_wp2_with (fail)
        clear z8
        go_loopw [76] (fun i wr => ∃ (m : Nat) (s2 : ES), m ≤ W.toNat ∧ i = .int .i64 m ∧ Aside0 (putsI s2 (evX q P k true (W.toNat - m) m ++ evY q P (H.toNat - (k + 1)) (k + 1)) = R1) ∧ Aside0 (s2.out.length + 4 * ((evX q P k true (W.toNat - m) m).length + (evY q P (H.toNat - (k + 1)) (k + 1)).length) ≤ 1000200000) ∧ Aside0 (PW EncAt W8 S8 g s2 wr)) (fun i _ => W.toNat - (intOf i).toNat)
        case atStart => exact ⟨0, _, Nat.zero_le _, rfl, HX, HL, HP⟩
        case round =>
         obtain ⟨m, s2, hm, rfl, HX, HL, HQ⟩ := hrel
         by_cases hltm : m < W.toNat
         · have hltm2 : (m : Int) < W := by omega
           go_wp2_with (fail)
           refine ((HRG.out _ HQ.out.m).flat (m : Int) (k : Int) (by omega) (by omega)).mono ?_
           rintro e X0 ⟨rfl, hb⟩
           have HQ := A' (HQ.out.below hb)
           clear hb
           obtain ⟨⟨fc, is⟩, hF⟩ : ∃ r, flatP RW RH RP ((m : Int) - dx) ((k : Int) - dy) = r := ⟨_, rfl⟩
           rw [hF]
           have HF := A' (show (q.flat (m : Int) (k : Int)).2 = is by rw [HQF.out, hF])
           clear hF
           simp only
           cases is
           · have hfx : ¬ (true = true ∧ false = true) := by simp
             have hX := HX.out
             rw [show W.toNat - m = (W.toNat - (m + 1)) + 1 by omega] at hX
             unfold evX at hX
             rw [if_neg (show ¬ (true = true ∧ (q.flat (m : Int) (k : Int)).2 = true) by rw [HF.out]; simp), List.cons_append, putsI_cons, HQC.out] at hX
             simp only at hX
             have hL := HL.out
             rw [show W.toNat - m = (W.toNat - (m + 1)) + 1 by omega] at hL
             unfold evX at hL
             rw [if_neg (show ¬ (true = true ∧ (q.flat (m : Int) (k : Int)).2 = true) by rw [HF.out]; simp), List.length_cons] at hL
             have HX2 := A' hX
             have HL2 := A' hL
             have HLN := A' (show s2.out.length ≤ 1099511627776 by omega)
             have hpx := px_01 HBM.out (m : Int) (k : Int)
             have hcr := ctxP_range HBM.out HBR.out t dx dy (m : Int) (k : Int) HT.out
             have HQ0 := A' (HQ.out.below (below_drew (Below.refl _ _)))
             clear hX hL hfx
             go_wp2_with (fail)
             refine start_ (n := 16) (S := fun w' => w'.cell? ⟨gr, 5, none⟩ = some (.int .i64 W) ∧ w'.cell? ⟨gr, 6, none⟩ = some (.int .i64 H) ∧ w'.cell? ⟨gr, 7, none⟩ = some (.slice AB P.length cB)) (ds := []) #[false, false, false, false, false, false, false, false, false, false, false, false, false, false, false, false] (by kernel_rfl) rfl rfl ⟨(blk_cell (HRG.out _ HQ0.out.m).z 5).trans rfl, (blk_cell (HRG.out _ HQ0.out.m).z 6).trans rfl, (blk_cell (HRG.out _ HQ0.out.m).z 7).trans rfl⟩ (fun hHeld => ?_)
             refine u' 0 92 (B' 16 1) ?_ rfl rfl (by kernel_rfl) (fun _ _ _ h => h) (.inl ⟨by rfl, ?_⟩) ?_ ?_ ?_; rotate_left; (intro w'; go_simp; with_reducible rfl); rotate_left; (simp only [Act.put, p1', p2', p3', i64_w, i32_w]; rfl)
             refine u' 1 93 (B' 16 3) ?_ rfl rfl (by kernel_rfl) (fun _ _ _ h => h) (.inl ⟨by rfl, ?_⟩) ?_ ?_ ?_; rotate_left; (intro w'; go_simp; with_reducible rfl); rotate_left; (simp only [Act.put, p1', p2', p3', i64_w, i32_w]; rfl)
             refine u' 2 94 (B' 16 7) ?_ rfl rfl (by kernel_rfl) (fun _ _ _ h => h) (.inl ⟨by rfl, ?_⟩) ?_ ?_ ?_; rotate_left; (intro w'; go_simp; with_reducible rfl); rotate_left; (simp only [Act.put, p1', p2', p3', i64_w, i32_w]; rfl)
             refine u' 3 95 (B' 16 15) ?_ rfl rfl (by kernel_rfl) (fun _ _ _ h => h) (.inl ⟨by rfl, ?_⟩) ?_ ?_ ?_; rotate_left; (intro w'; go_simp; with_reducible rfl); rotate_left; (simp only [Act.put, p1', p2', p3', i64_w, i32_w]; rfl)
             refine u' 4 96 (B' 16 31) ?_ rfl rfl (by kernel_rfl) (fun _ _ _ h => h) (.inl ⟨by rfl, ?_⟩) ?_ ?_ ?_; rotate_left; (intro w'; go_simp; with_reducible rfl); rotate_left; (simp only [Act.put, p1', p2', p3', i64_w, i32_w]; rfl)
             refine u' 7 99 (B' 16 159) ?_ rfl rfl (by kernel_rfl) (fun _ _ _ h => h) (.inl ⟨by rfl, ?_⟩) ?_ ?_ ?_; rotate_left; (intro w'; go_simp; with_reducible rfl); rotate_left; (simp only [Act.put, p1', p2', p3', i64_w, i32_w]; rfl)
             refine u' 8 100 (B' 16 415) ?_ rfl rfl (by kernel_rfl) (fun _ _ _ h => h) (.inl ⟨by rfl, ?_⟩) ?_ ?_ ?_; rotate_left; (intro w'; go_simp; with_reducible rfl); rotate_left; (simp only [Act.put, p1', p2', p3', i64_w, i32_w]; rfl)
             refine u' 9 101 (B' 16 927) ?_ rfl rfl (by kernel_rfl) (fun _ _ _ h => h) (.inl ⟨by rfl, ?_⟩) ?_ ?_ ?_; rotate_left; (intro w'; go_simp; with_reducible rfl); rotate_left; (simp only [Act.put, p1', p2', p3', i64_w, i32_w]; rfl)
             refine u' 11 103 (B' 16 2975) ?_ rfl rfl (by kernel_rfl) (fun _ _ _ h => h) (.inl ⟨by rfl, ?_⟩) ?_ ?_ ?_; rotate_left; (intro w'; go_simp; with_reducible rfl); rotate_left; (simp only [Act.put, p1', p2', p3', i64_w, i32_w]; rfl)
             refine u' 12 104 (B' 16 7071) ?_ rfl rfl (by kernel_rfl) (fun _ _ _ h => h) (.inl ⟨by rfl, ?_⟩) ?_ ?_ ?_; rotate_left; (intro w'; go_simp; with_reducible rfl); rotate_left; (simp only [Act.put, p1', p2', p3', i64_w, i32_w]; rfl)
             refine t' 10 102 (B' 16 8095) ?_ rfl rfl (by kernel_rfl) (fun _ _ _ h => h) (.inl ⟨by rfl, ?_⟩) hHeld ?_ ?_ ?_; rotate_left; (rintro w' ⟨s0, s1, s2⟩; go_simp; with_reducible rfl); rotate_left; (simp only [Act.put, p1', p2', p3', i64_w, i32_w]; rfl)
             refine one_ (i := 5) (N := some 97) (B' 16 8127) rfl rfl (by kernel_rfl) (by decide) (fun K hK => ?_)
             refine goes_ Try.func61 (by kernel_rfl) rfl #[.pointer (some ⟨gr, 0, none⟩), .int .i64 (m : Int), .int .i64 (k : Int)] (by rfl) rfl rfl (by simp only [List.map_toArray, List.map_cons, List.map_nil]; rfl) ?_
             with_reducible refine ((HRG.out _ HQ0.out.m).context (m : Int) (k : Int) (by omega) (by omega)).mono ?_
             rintro e X1 ⟨rfl, hb⟩
             refine ⟨_, rfl, ?_⟩
             have HQ1 := A' (HQ0.out.below hb)
             clear hb
             refine hK.out _ _ ⟨(blk_cell (HRG.out _ HQ1.out.m).z 5).trans rfl, (blk_cell (HRG.out _ HQ1.out.m).z 6).trans rfl, (blk_cell (HRG.out _ HQ1.out.m).z 7).trans rfl⟩ (fun hHeld => ?_)
             clear hK K
             refine norm_ (a' := ?_) ?_ ?_; rotate_left; (show Act.put _ (some 97) _ = _; simp only [Act.put, p1', p2', p3', i64_w, i32_w]; rfl)
             refine u' 6 98 (B' 16 8191) ?_ rfl rfl (by kernel_rfl) (fun _ _ _ h => h) (.inl ⟨by rfl, ?_⟩) ?_ ?_ ?_; rotate_left; (intro w'; go_simp; with_reducible rfl); rotate_left; (simp only [Act.put, p1', p2', p3', i64_w, i32_w]; rfl)
             refine one_ (i := 13) (N := some 105) (B' 16 16383) rfl rfl (by kernel_rfl) (by decide) (fun K hK => ?_)
             refine goes_ Try.func62 (by kernel_rfl) rfl #[.agg #[.int .i64 W, .int .i64 H, .slice AB P.length cB], .int .i64 (m : Int), .int .i64 (k : Int)] (by rfl) rfl rfl (by simp only [List.map_toArray, List.map_cons, List.map_nil]; rfl) ?_
             with_reducible refine ((HRG.out _ HQ1.out.m).at_ (m : Int) (k : Int)).mono ?_
             rintro e X2 ⟨rfl, hb⟩
             refine ⟨_, rfl, ?_⟩
             have HQ2 := A' (HQ1.out.below hb)
             clear hb
             refine hK.out _ _ ⟨(blk_cell (HRG.out _ HQ2.out.m).z 5).trans rfl, (blk_cell (HRG.out _ HQ2.out.m).z 6).trans rfl, (blk_cell (HRG.out _ HQ2.out.m).z 7).trans rfl⟩ (fun hHeld => ?_)
             clear hK K
             refine norm_ (a' := ?_) ?_ ?_; rotate_left; (show Act.put _ (some 105) _ = _; simp only [Act.put, p1', p2', p3', i64_w, i32_w]; rfl)
             refine u' 14 106 (B' 16 32767) ?_ rfl rfl (by kernel_rfl) (fun _ _ _ h => h) (.inl ⟨by rfl, ?_⟩) ?_ ?_ ?_; rotate_left; (intro w'; go_simp; with_reducible rfl); rotate_left; (simp only [Act.put, p1', p2', p3', i64_w, i32_w]; rfl)
             refine one_ (i := 15) (N := some 107) (B' 16 65535) rfl rfl (by kernel_rfl) (by decide) (fun K hK => ?_)
             refine goes_ Try.func28 (by kernel_rfl) rfl #[.pointer (some ⟨g, 0, none⟩), .int .i64 (wrap64 (base + ctxP t dx dy W H P RW RH RP (m : Int) (k : Int))), .int .i64 (wrap64 (px W H P (m : Int) (k : Int)))] (by rfl) rfl rfl (by simp only [List.map_toArray, List.map_cons, List.map_nil]; rfl) ?_
             with_reducible refine (HQ2.out.put_eq HLN.out (base + ctxP t dx dy W H P RW RH RP (m : Int) (k : Int)) (px W H P (m : Int) (k : Int)) (by rw [wrap_id] <;> omega) (by rw [wrap_id] <;> omega)).mono ?_
             rintro e X3 ⟨rfl, hP⟩
             refine ⟨_, rfl, ?_⟩
             have HQ3 := A' hP
             clear hP
             refine hK.out _ _ ⟨(blk_cell (HRG.out _ HQ3.out.m).z 5).trans rfl, (blk_cell (HRG.out _ HQ3.out.m).z 6).trans rfl, (blk_cell (HRG.out _ HQ3.out.m).z 7).trans rfl⟩ (fun hHeld => ?_)
             clear hK K
             refine norm_ (a' := ?_) ?_ ?_; rotate_left; (show Act.put _ (some 107) _ = _; simp only [Act.put, p1', p2', p3', i64_w, i32_w]; rfl)
             refine done_ (by kernel_rfl) ?_
             go_wp2_with (fail)
             refine ⟨⟨m + 1, _, by omega, by go_num, HX2, ⟨?_⟩, HQ3⟩, by simp [intOf]; omega⟩
             have h1 := (ES.putI_len s2 (base + ctxP t dx dy W H P RW RH RP (m : Int) (k : Int)) (px W H P (m : Int) (k : Int))).1
             have h2 := HL2.out
             omega
           · have hX := HX.out
             rw [show W.toNat - m = (W.toNat - (m + 1)) + 1 by omega] at hX
             unfold evX at hX
             rw [if_pos ⟨rfl, HF.out⟩] at hX
             have hL := HL.out
             rw [show W.toNat - m = (W.toNat - (m + 1)) + 1 by omega] at hL
             unfold evX at hL
             rw [if_pos ⟨rfl, HF.out⟩] at hL
             have HX2 := A' hX
             have HL2 := A' hL
             clear hX hL
             go_wp2_with (fail)
             exact ⟨⟨m + 1, _, by omega, by go_num, HX2, HL2, HQ⟩, by simp [intOf]; omega⟩
         · have hX := HX.out
           rw [show W.toNat - m = 0 by omega] at hX
           simp only [evX, List.nil_append] at hX
           have hL := HL.out
           rw [show W.toNat - m = 0 by omega] at hL
           simp only [evX, List.length_nil, Nat.zero_add] at hL
           have HX2 := A' hX
           have HL2 := A' hL
           clear hX hL
           go_wp2_with (fail)
           exact ⟨⟨k + 1, _, by omega, by go_num, HX2, HL2, HQ⟩, by simp [intOf]; omega⟩
  · have hY := HY.out
    rw [show H.toNat - k = 0 by omega] at hY
    simp only [evY] at hY
    have hY2 : s1 = R1 := hY
    subst hY2
    clear hY
    go_wp2_with (fail)
    go_ret
    exact ⟨rfl, HP.out.rebase (HMk.out _ HD8.out) (fun k hk => ((HS8.out k hk).1).imp id (fun h => Nat.le_trans HB1.out.size h))⟩
end Go.Proofs.Ytkfejicdjpffcaa.Rpt
namespace Go.Proofs.Ytkfejicdjpffcaa.Rrp
open Go Go.RowKit YtkfejicdjpffcaaW PrintWords PrintLast PrintMore U Aid HandAid Cod1 Cod2 Cod3 Ytkfejicdjpffcaa.Mod NewRef Enc Mods EncAt Put End Snc RefAt RefPut RefEnd Pse Pwk Rpx Rva Rfl Rcx Rty Rev Rpt
end Go.Proofs.Ytkfejicdjpffcaa.Rrp
namespace Go.Proofs.Ytkfejicdjpffcaa.Ren
open Go Go.RowKit YtkfejicdjpffcaaW PrintWords PrintLast PrintMore U Aid HandAid Cod1 Cod2 Cod3 Ytkfejicdjpffcaa.Mod NewRef Enc Mods EncAt Put End Snc RefAt RefPut RefEnd Pse Pwk Rpx Rva Rfl Rcx Rty Rev Rpt Rrp
/-- What Encode answers. -/
def encB (q : RQ) (kd : Int) (P : List Int) : List Int × Int := if okO q.t q.dx q.dy kd = true then (if okB q.W q.H P = true ∧ okB q.RW q.RH q.RP = true then ((putsI (newES kd (List.replicate (ctxs q.t + 1).toNat 0)) (evR q P)).end_, 0) else ([], 30)) else ([], 2)
/-- Bytes and an error are returned, the bytes in a row of their own. -/
def EBytes (w : World) (R : List Int × Int) (e : Ending) (W : World) : Prop := ∃ A c, e = .returned (.tuple #[.slice A R.1.length c, .int .i64 R.2]) ∧ Kd.R (Kd.int .u8) 5 W w.heap.size (fun _ => True) (.slice A R.1.length c) R.1 ∧ Below w.heap.size w W
theorem EBytes.bad (w W : World) (err : Int) (hb : Below w.heap.size w W) : EBytes w ([], err) (.returned (.tuple #[.slice none 0 0, .int .i64 err])) W := ⟨none, 0, rfl, Kd.R_nil _ _ W w.heap.size (fun _ => True), hb⟩
theorem stN_ok (t kd : Int) (hk : kd = 0 ∨ kd = 1) : okModel kd (List.replicate (ctxs t + 1).toNat 0) := by
 have hr := ctxs_range t
 have h := new_ok kd (ctxs t + 1) (by unfold newModel; rw [if_pos ⟨hk, by omega, by omega⟩])
 unfold newModel at h
 rw [if_pos ⟨hk, by omega, by omega⟩] at h
 exact h
theorem stN_fits (t : Int) : okF (List.replicate (ctxs t + 1).toNat (0 : Int)).length 0 t = true := by
 have hr := ctxs_range t
 rw [okF_iff, List.length_replicate]
 omega
set_option maxHeartbeats 2000000 in
set_option maxRecDepth 100000 in
theorem rencode_calls (w : World) (t dx dy : Int) (ty : Bool) (kd W H : Int) (AB : Option Addr) (cB : Nat) (P : List Int) (RW RH : Int) (AR : Option Addr) (cR : Nat) (RP : List Int) (hdx : -9223372036854775808 ≤ dx ∧ dx ≤ 9223372036854775807) (hdy : -9223372036854775808 ≤ dy ∧ dy ≤ 9223372036854775807) (hB : Kd.C (Kd.int .u8) w AB P.length P) (hcB : P.length ≤ cB) (hA : Kd.C (Kd.int .u8) w AR RP.length RP) (hcR : RP.length ≤ cR) (hbP : Bytes P) (hbR : Bytes RP) (R : List Int × Int) (hR : encB ⟨t, dx, dy, ty, W, H, RW, RH, RP, 0⟩ kd P = R) :
 Calls Try.prog 16 #[.agg #[.int .i64 t, .int .i64 dx, .int .i64 dy, .bool ty, .int .i64 kd], .agg #[.int .i64 W, .int .i64 H, .slice AB P.length cB], .agg #[.int .i64 RW, .int .i64 RH, .slice AR RP.length cR]] w (EBytes w R) := by
 have HB := A' hB
 have HA := A' hA
 have HbP := A' hbP
 have HbR := A' hbR
 have hmP : P.length ≤ 9223372036854775807 := Kd.C_max hB
 have hmR : RP.length ≤ 9223372036854775807 := Kd.C_max hA
 obtain ⟨q, hq⟩ : ∃ q : RQ, q = ⟨t, dx, dy, ty, W, H, RW, RH, RP, 0⟩ := ⟨_, rfl⟩
 rw [← hq] at hR
 have HQQ := A' hq
 unfold encB at hR
 have e1 : okO q.t q.dx q.dy kd = okO t dx dy kd := by rw [hq]
 have e2 : okB q.W q.H P = okB W H P := by rw [hq]
 have e3 : okB q.RW q.RH q.RP = okB RW RH RP := by rw [hq]
 have e4 : ctxs q.t = ctxs t := by rw [hq]
 rw [e1, e2, e3, e4] at hR
 have HR := A' hR
 have hu3 := Try.underlying23
 have hu4 := Try.underlying31
 have hu5 := Try.underlying45
 clear hB hA hbP hbR hR hq e1 e2 e3 e4
 go_enter Try.func16, Try.ntmps16
 go_wp2_with (fail)
 obtain ⟨b5, hb5⟩ : ∃ x, w.heap.size + 1 + 1 = x := ⟨_, rfl⟩
 obtain ⟨b4, hb4⟩ : ∃ x, w.heap.size + 1 = x := ⟨_, rfl⟩
 obtain ⟨b3, hb3⟩ : ∃ x, w.heap.size = x := ⟨_, rfl⟩
 obtain ⟨W1, hW1⟩ : ∃ x, ((w.alloc (.cells #[.int .i64 t, .int .i64 dx, .int .i64 dy, .bool ty, .int .i64 kd] 23)).alloc (.cells #[.int .i64 W, .int .i64 H, .slice AB P.length cB] 31)).alloc (.cells #[.int .i64 RW, .int .i64 RH, .slice AR RP.length cR] 31) = x := ⟨_, rfl⟩
 have HB1 := A' (show Below w.heap.size w W1 from hW1 ▸ below_alloc (below_alloc (below_alloc (Below.refl _ _) _) _) _)
 have HZ5 := A' (show W1.heap[b5]? = some (.cells #[.int .i64 RW, .int .i64 RH, .slice AR RP.length cR] 31 (0, 0)) by
  have h := heap_new ((w.alloc (.cells #[.int .i64 t, .int .i64 dx, .int .i64 dy, .bool ty, .int .i64 kd] 23)).alloc (.cells #[.int .i64 W, .int .i64 H, .slice AB P.length cB] 31)) (.cells #[.int .i64 RW, .int .i64 RH, .slice AR RP.length cR] 31)
  rw [World.size_alloc, World.size_alloc, hb5, hW1] at h
  exact h)
 have HZ4 := A' (show W1.heap[b4]? = some (.cells #[.int .i64 W, .int .i64 H, .slice AB P.length cB] 31 (0, 0)) by
  have h := heap_new (w.alloc (.cells #[.int .i64 t, .int .i64 dx, .int .i64 dy, .bool ty, .int .i64 kd] 23)) (.cells #[.int .i64 W, .int .i64 H, .slice AB P.length cB] 31)
  rw [World.size_alloc, hb4] at h
  rw [← hW1]
  exact blk_alloc h _)
 have HZ3 := A' (show W1.heap[b3]? = some (.cells #[.int .i64 t, .int .i64 dx, .int .i64 dy, .bool ty, .int .i64 kd] 23 (0, 0)) by
  have h := heap_new w (.cells #[.int .i64 t, .int .i64 dx, .int .i64 dy, .bool ty, .int .i64 kd] 23)
  rw [hb3] at h
  rw [← hW1]
  exact blk_alloc (blk_alloc h _) _)
 have HLT := A' (show b3 < W1.heap.size ∧ b4 < W1.heap.size ∧ b5 < W1.heap.size from ⟨blk_lt HZ3.out, blk_lt HZ4.out, blk_lt HZ5.out⟩)
 rw [hb5, hb4, hb3, hW1]
 have HD1 := A' (Below.refl W1.heap.size W1)
 clear hb3 hb4 hb5 hW1
 refine (refine_Valid.calls t dx dy ty kd _ _ (valid_eq t dx dy ty kd hdx hdy)).mono ?_
 rintro e W3 ⟨rfl, hb⟩
 have HD3 := A' hb
 clear hb
 have hR := HR.out
 clear HR
 obtain ⟨vo, hvo⟩ : ∃ x, okO t dx dy kd = x := ⟨_, rfl⟩
 rw [hvo] at hR ⊢
 cases vo
 · rw [if_neg (show ¬ (false = true) by decide)] at hR
   subst hR
   clear hvo
   go_wp2_with (fail)
   go_ret2
   exact EBytes.bad _ _ _ (below_then HB1.out HB1.out.size HD3.out)
 rw [if_pos (show true = true from rfl)] at hR
 have hk := (okO_iff.1 hvo).2.1
 have HMO := A' (model_eq t dx dy ty kd hvo)
 have HVO := A' hvo
 have HK := A' (stN_ok t kd hk)
 have HFT := A' (stN_fits t)
 clear hvo hk
 generalize List.replicate (ctxs t + 1).toNat (0 : Int) = st at hR HMO HK HFT
 have HR := A' hR
 clear hR
 have q30 : W3.cell? ⟨b3, 0, none⟩ = some (.int .i64 t) := (blk_cell (blk_below HZ3.out HD3.out) 0).trans rfl
 have q31 : W3.cell? ⟨b3, 1, none⟩ = some (.int .i64 dx) := (blk_cell (blk_below HZ3.out HD3.out) 1).trans rfl
 have q32 : W3.cell? ⟨b3, 2, none⟩ = some (.int .i64 dy) := (blk_cell (blk_below HZ3.out HD3.out) 2).trans rfl
 have q33 : W3.cell? ⟨b3, 3, none⟩ = some (.bool ty) := (blk_cell (blk_below HZ3.out HD3.out) 3).trans rfl
 have q34 : W3.cell? ⟨b3, 4, none⟩ = some (.int .i64 kd) := (blk_cell (blk_below HZ3.out HD3.out) 4).trans rfl
 go_wp2_with (fail)
 refine (refine_model.calls t dx dy ty kd kd st _ HMO.out).mono ?_
 rintro e W4 ⟨v, rfl, hRv, hb⟩
 obtain ⟨Am, cm, rfl⟩ := Kd.R_slice hRv
 have HD4 := A' (below_then HD3.out HD3.out.size hb)
 have hcm := (Kd.R_reads' hRv).2.1
 have HCM := A' (Kd.R_reads' hRv).2.2
 clear hRv hb q30 q31 q32 q33 q34
 go_wp2_with (fail)
 refine (new_enc Am cm kd st _ HCM.out hcm HK.out).mono ?_
 rintro e W5 ⟨g, rfl, hE, hb⟩
 have HD5 := A' (below_then HD4.out HD4.out.size hb)
 have HE := A' hE
 have HSI := A' (show ∀ k, Since W4.heap.size W5 k → w.heap.size ≤ k from fun k hk => Nat.le_trans (Nat.le_trans HB1.out.size HD4.out.size) hk.1)
 have HSL := A' (show ∀ k, Since W4.heap.size W5 k → k < W5.heap.size from fun k hk => hk.2)
 have HBV := A' (show ∀ V, Mods W5 V (Since W4.heap.size W5) → Below w.heap.size w V from fun V hV => below_mods (below_then HB1.out HB1.out.size HD5.out) hV HSI.out (Nat.le_trans HB1.out.size HD5.out.size))
 generalize Since W4.heap.size W5 = S at HE HSI HSL HBV
 clear hE hb HCM hcm
 have q30 : W5.cell? ⟨b3, 0, none⟩ = some (.int .i64 t) := (blk_cell (blk_below HZ3.out HD5.out) 0).trans rfl
 have q31 : W5.cell? ⟨b3, 1, none⟩ = some (.int .i64 dx) := (blk_cell (blk_below HZ3.out HD5.out) 1).trans rfl
 have q32 : W5.cell? ⟨b3, 2, none⟩ = some (.int .i64 dy) := (blk_cell (blk_below HZ3.out HD5.out) 2).trans rfl
 have q33 : W5.cell? ⟨b3, 3, none⟩ = some (.bool ty) := (blk_cell (blk_below HZ3.out HD5.out) 3).trans rfl
 have q34 : W5.cell? ⟨b3, 4, none⟩ = some (.int .i64 kd) := (blk_cell (blk_below HZ3.out HD5.out) 4).trans rfl
 have q40 : W5.cell? ⟨b4, 0, none⟩ = some (.int .i64 W) := (blk_cell (blk_below HZ4.out HD5.out) 0).trans rfl
 have q41 : W5.cell? ⟨b4, 1, none⟩ = some (.int .i64 H) := (blk_cell (blk_below HZ4.out HD5.out) 1).trans rfl
 have q42 : W5.cell? ⟨b4, 2, none⟩ = some (.slice AB P.length cB) := (blk_cell (blk_below HZ4.out HD5.out) 2).trans rfl
 have q50 : W5.cell? ⟨b5, 0, none⟩ = some (.int .i64 RW) := (blk_cell (blk_below HZ5.out HD5.out) 0).trans rfl
 have q51 : W5.cell? ⟨b5, 1, none⟩ = some (.int .i64 RH) := (blk_cell (blk_below HZ5.out HD5.out) 1).trans rfl
 have q52 : W5.cell? ⟨b5, 2, none⟩ = some (.slice AR RP.length cR) := (blk_cell (blk_below HZ5.out HD5.out) 2).trans rfl
 go_wp2_with (fail)
 refine (rput_calls W5 S g (newES kd st) 0 t dx dy ty kd W H AB cB P RW RH AR cR RP HE.out HSL.out (newES_ok HK.out) (by show (0 : Nat) ≤ _; omega) hdx hdy (fun V hV => Kd.C_below HB.out (HBV.out V hV)) hcB (fun V hV => Kd.C_below HA.out (HBV.out V hV)) hcR HbP.out HbR.out q HQQ.out _ rfl).mono ?_
 rintro e W6 ⟨rfl, hP⟩
 have HP := A' hP
 clear hP HE q30 q31 q32 q33 q34 q40 q41 q42 q50 q51 q52
 have hpe : putErr q kd P (newES kd st).st.length = if okB W H P = true ∧ okB RW RH RP = true then 0 else 30 := by
  unfold putErr
  rw [HQQ.out]
  simp only
  rw [if_pos HVO.out, if_pos (show okF (newES kd st).st.length 0 t = true from HFT.out)]
 have hR := HR.out
 clear HR
 by_cases hbb : okB W H P = true ∧ okB RW RH RP = true
 · rw [if_pos hbb] at hR hpe
   have hpr : putR q kd P (newES kd st) = (putsI (newES kd st) (evR q P), 0) := by unfold putR; rw [hpe, if_pos rfl]
   rw [hpr] at HP ⊢
   have hbm := (okB_bm HbP.out hbb.1).1
   have hlo : (putsI (newES kd st) (evR q P)).out.length ≤ 1099511627880 := by
    have h1 := putsI_out (evR q P) (newES kd st)
    have h2 := evR_len q P (by rw [HQQ.out]; exact hbm.w.2) (by rw [HQQ.out]; exact hbm.h.2)
    have h3 : (newES kd st).out.length = 0 := rfl
    omega
   generalize putsI (newES kd st) (evR q P) = s6 at hR HP hlo ⊢
   subst hR
   clear hpr hpe hbb hbm
   simp only
   go_wp2_with (fail)
   refine (end_calls W6 _ g s6 HP.out.e HP.out.ok hlo).mono ?_
   rintro e W7 ⟨A7, c7, rfl, hR7, hb7⟩
   have HB6 := A' (HBV.out _ HP.out.m)
   have HR7 := A' (Kd.R_lower hR7 HB6.out.size)
   have HB7 := A' (below_then HB6.out HB6.out.size hb7)
   clear hR7 hb7
   go_wp2_with (fail)
   go_ret2
   exact ⟨A7, c7, rfl, HR7.out, HB7.out⟩
 · rw [if_neg hbb] at hR hpe
   have hpr : putR q kd P (newES kd st) = (newES kd st, 30) := by unfold putR; rw [hpe, if_neg (by decide)]
   rw [hpr] at HP ⊢
   subst hR
   clear hpr hpe hbb
   simp only
   go_wp2_with (fail)
   go_ret2
   exact EBytes.bad _ _ _ (HBV.out _ HP.out.m)
end Go.Proofs.Ytkfejicdjpffcaa.Ren
namespace Go.Proofs.Ytkfejicdjpffcaa.Rdv
open Go Go.RowKit YtkfejicdjpffcaaW PrintWords PrintLast PrintMore U Aid HandAid Cod1 Cod2 Cod3 Ytkfejicdjpffcaa.Mod NewRef Enc Mods EncAt Put End Snc Dec Get DecNew RefAt RDec RDecNew Isk Pse Rpx Rva Rfl Rcx Rty Rev
/-- A row's pixels are told, from pixel i on: the decoder, the pixels, the error. -/
def rowD (q : RQ) (y : Int) (typ : Int) : Nat → Nat → DS → List Int → DS × List Int × Int
 | 0, _, s, P => (s, P, 0)
 | d + 1, i, s, P =>
   if typ = 1 ∧ (q.flat i y).2 = true then rowD q y typ d (i + 1) s (P.set (y * q.W + i).toNat (q.flat i y).1)
   else if (s.getI (q.base + q.ctx P i y)).2.2 = 0 then rowD q y typ d (i + 1) (s.getI (q.base + q.ctx P i y)).1 (P.set (y * q.W + i).toNat (s.getI (q.base + q.ctx P i y)).2.1)
   else ((s.getI (q.base + q.ctx P i y)).1, P, (s.getI (q.base + q.ctx P i y)).2.2)
/-- A row, with what stands ahead of it. -/
def rowH (q : RQ) (y : Int) (s : DS) (P : List Int) : DS × List Int × Int :=
 if q.ty = true then (if (s.getI (q.base + ctxs q.t)).2.2 = 0 then rowD q y (s.getI (q.base + ctxs q.t)).2.1 q.W.toNat 0 (s.getI (q.base + ctxs q.t)).1 P else ((s.getI (q.base + ctxs q.t)).1, P, (s.getI (q.base + ctxs q.t)).2.2))
 else rowD q y 0 q.W.toNat 0 s P
/-- The rows from j on. -/
def rowsD (q : RQ) : Nat → Nat → DS → List Int → DS × List Int × Int
 | 0, _, s, P => (s, P, 0)
 | d + 1, j, s, P => if (rowH q j s P).2.2 = 0 then rowsD q d (j + 1) (rowH q j s P).1 (rowH q j s P).2.1 else rowH q j s P
def getErr (q : RQ) (kd : Int) (n : Nat) : Int := if okO q.t q.dx q.dy kd = true then (if okS q.W q.H = true ∧ okB q.RW q.RH q.RP = true then (if okF n q.base q.t = true then 0 else 2) else 30) else 2
/-- What Get answers: the decoder, sides and pixels, the error. -/
def getD (q : RQ) (kd : Int) (s : DS) : DS × (Int × Int × List Int) × Int :=
 if getErr q kd s.st.length = 0 then
  (if (rowsD q q.H.toNat 0 s (List.replicate (q.W * q.H).toNat 0)).2.2 = 0 then ((rowsD q q.H.toNat 0 s (List.replicate (q.W * q.H).toNat 0)).1, (q.W, q.H, (rowsD q q.H.toNat 0 s (List.replicate (q.W * q.H).toNat 0)).2.1), 0)
   else ((rowsD q q.H.toNat 0 s (List.replicate (q.W * q.H).toNat 0)).1, (0, 0, []), (rowsD q q.H.toNat 0 s (List.replicate (q.W * q.H).toNat 0)).2.2))
 else (s, (0, 0, []), getErr q kd s.st.length)
theorem getErr_zero {q : RQ} {kd : Int} {n : Nat} (h : getErr q kd n = 0) : okO q.t q.dx q.dy kd = true ∧ okS q.W q.H = true ∧ okB q.RW q.RH q.RP = true ∧ okF n q.base q.t = true := by
 unfold getErr at h
 split at h
 · split at h
   · split at h
     · rename_i a b c
       exact ⟨a, b.1, b.2, c⟩
     · exact absurd h (by decide)
   · exact absurd h (by decide)
 · exact absurd h (by decide)
theorem bm_set {W H : Int} {P : List Int} (b : Bm W H P) (i : Nat) {x : Int} (hx : x = 0 ∨ x = 1) : Bm W H (P.set i x) :=
 ⟨b.w, b.h, by rw [List.length_set]; exact b.n, fun v hv => by
   rcases List.mem_or_eq_of_mem_set hv with h | h
   · exact b.p v h
   · rw [h]; exact hx⟩
theorem bm_new {W H : Int} (h : okS W H = true) : Bm W H (List.replicate (W * H).toNat 0) := by
 have hs := okS_iff.1 h
 have ha := area hs.1 hs.2.1 hs.2.2.1 hs.2.2.2.1
 exact ⟨⟨hs.1, hs.2.1⟩, ⟨hs.2.2.1, hs.2.2.2.1⟩, by rw [List.length_replicate]; omega, fun v hv => .inl (List.eq_of_mem_replicate hv)⟩
/-- A decoder and the row of pixels that is being written. -/
structure GX (At : World → (Nat → Prop) → Nat → DS → Prop) (w0 : World) (S T : Nat → Prop) (B : Nat) (gd : Nat) (s : DS) (v : Value) (P : List Int) (W : World) : Prop where
 d : At W S gd s
 p : Kd.R (Kd.int .u8) 5 W B T v P
 m : Mods w0 W (fun k => S k ∨ T k)
 ok : s.ok
section
variable {At : World → (Nat → Prop) → Nat → DS → Prop} [AtL At] {w0 W W' : World} {S T : Nat → Prop} {B gd : Nat} {s s' : DS} {v : Value} {P : List Int}
theorem GX.below (H : GX At w0 S T B gd s v P W) (hb : Below W.heap.size W W') : GX At w0 S T B gd s v P W' := ⟨AtL.below H.d hb, Kd.R_below H.p hb, H.m.below hb, H.ok⟩
omit [AtL At] in
theorem GX.next (H : GX At w0 S T B gd s v P W) (hST : ∀ k, T k → ¬ S k) (hE : At W' S gd s') (hM : Mods W W' S) (ok' : s'.ok) : GX At w0 S T B gd s' v P W' :=
 ⟨hE, Kd.R_kept H.p hM.kept hST, H.m.then_ hM (fun k hk => .inl (.inl hk)), ok'⟩
omit [AtL At] in
theorem GX.form (H : GX At w0 S T B gd s v P W) (hp : 0 < P.length) : ∃ g c, v = .slice (some ⟨g, 0, none⟩) P.length c ∧ T g ∧ g < W.heap.size := by
 obtain ⟨g, c, he, _, hl, _⟩ := Kd.R_form H.p hp
 exact ⟨g, c, he, H.p.1 g (by rw [he]; simp [Value.ownBlock]), hl⟩
end
theorem GX.get {w0 W : World} {S T : Nat → Prop} {B gd : Nat} {s : DS} {v : Value} {P : List Int} (H : GX DecAt w0 S T B gd s v P W) (hS : ∀ k, S k → k < w0.heap.size) (hST : ∀ k, T k → ¬ S k) (i : Int) {i' : Int} (hi : i' = i) :
 Calls Try.prog 35 #[.pointer (some ⟨gd, 0, none⟩), .int .i64 i'] W fun e W' => e = .returned (.tuple #[.int .i64 (s.getI i).2.1, .int .i64 (s.getI i).2.2]) ∧ GX DecAt w0 S T B gd (s.getI i).1 v P W' := by
 subst hi
 refine (get_calls W S gd s _ H.d (fun k hk => Nat.lt_of_lt_of_le (hS k hk) H.m.size) H.ok).mono ?_
 rintro e W' ⟨he, hE, hM⟩
 exact ⟨he, H.next hST hE hM (DS.getI_ok H.ok _)⟩
theorem GX.rget {w0 W : World} {S T : Nat → Prop} {B gd : Nat} {s : DS} {v : Value} {P : List Int} (H : GX RDecAt w0 S T B gd s v P W) (hS : ∀ k, S k → k < w0.heap.size) (hST : ∀ k, T k → ¬ S k) (i : Int) {i' : Int} (hi : i' = i) :
 Calls Try.prog 84 #[.pointer (some ⟨gd, 0, none⟩), .int .i64 i'] W fun e W' => e = .returned (.tuple #[.int .i64 (s.getI i).2.1, .int .i64 (s.getI i).2.2]) ∧ GX RDecAt w0 S T B gd (s.getI i).1 v P W' := by
 subst hi
 refine (rget_calls W S gd s _ H.d (fun k hk => Nat.lt_of_lt_of_le (hS k hk) H.m.size) H.ok).mono ?_
 rintro e W' ⟨he, hE, hM⟩
 exact ⟨he, H.next hST hE hM (DS.getI_ok H.ok _)⟩
/-- A pixel is written. -/
theorem GX.set {At : World → (Nat → Prop) → Nat → DS → Prop} [AtL At] {w0 W : World} {S T : Nat → Prop} {B gd g c n : Nat} {s : DS} {P : List Int} (H : GX At w0 S T B gd s (.slice (some ⟨g, 0, none⟩) n c) P W) (hn : n = P.length) (hST : ∀ k, T k → ¬ S k) (hT : T g) (i : Nat) (x : Int) : GX At w0 S T B gd s (.slice (some ⟨g, 0, none⟩) n c) (P.set i x) (W.setCell ⟨g, i, none⟩ (.int .u8 x)) := by
 subst hn
 have h2 : Mods W (W.setCell ⟨g, i, none⟩ (.int .u8 x)) (fun k => k = g) := (Mods.refl W (fun k => k = g)).setCell (p := ⟨g, i, none⟩) (.inl rfl) _
 have h3 := (Kd.R_put (enc := Value.int .u8) H.p (i : Int) x).1
 rw [Int.toNat_natCast] at h3
 exact ⟨AtL.kept H.d h2 (fun k hk hk2 => hST g hT (hk2 ▸ hk)), h3, H.m.then_ h2 (fun k hk => .inl (.inr (hk ▸ hT))), H.ok⟩
theorem GX.cell {At : World → (Nat → Prop) → Nat → DS → Prop} {w0 W : World} {S T : Nat → Prop} {B gd g c n : Nat} {s : DS} {P : List Int} (H : GX At w0 S T B gd s (.slice (some ⟨g, 0, none⟩) n c) P W) (hn : n = P.length) (i : Nat) (hi : i < P.length) : W.cell? ⟨g, i, none⟩ = some (.int .u8 (rdOf 0 P (i : Int))) ∧ W.frozen? ⟨g, i, none⟩ = false := by
 subst hn
 have h1 := Kd.R_cell (0 : Int) H.p (i : Int) (by omega) (by omega)
 rw [Int.toNat_natCast] at h1
 exact h1
theorem rowD_len (q : RQ) (y typ : Int) : ∀ (d i : Nat) (s : DS) (P : List Int), (rowD q y typ d i s P).2.1.length = P.length ∧ (rowD q y typ d i s P).1.st.length = s.st.length
 | 0, i, s, P => ⟨rfl, rfl⟩
 | d + 1, i, s, P => by
   unfold rowD
   split
   · have h := rowD_len q y typ d (i + 1) s (P.set (y * q.W + i).toNat (q.flat i y).1)
     rw [List.length_set] at h
     exact h
   · split
     · have h := rowD_len q y typ d (i + 1) (s.getI (q.base + q.ctx P i y)).1 (P.set (y * q.W + i).toNat (s.getI (q.base + q.ctx P i y)).2.1)
       rw [List.length_set, getI_len] at h
       exact h
     · exact ⟨rfl, getI_len _ _⟩
theorem flatF_01 {W H : Int} {P : List Int} (b : Bm W H P) (x y c : Int) (hc : c = 0 ∨ c = 1) : ∀ d i, (flatF W H P x y c d i).1 = 0 ∨ (flatF W H P x y c d i).1 = 1
 | 0, i => hc
 | d + 1, i => by
   unfold flatF
   split
   · exact flatF_01 b x y c hc d (i + 1)
   · exact .inl rfl
theorem flatP_01 {W H : Int} {P : List Int} (b : Bm W H P) (x y : Int) : (flatP W H P x y).1 = 0 ∨ (flatP W H P x y).1 = 1 := flatF_01 b x y _ (px_01 b x y) 9 0
theorem rowD_bm (q : RQ) (br : Bm q.RW q.RH q.RP) (y typ : Int) : ∀ (d i : Nat) (s : DS) (P : List Int), Bm q.W q.H P → Bm q.W q.H (rowD q y typ d i s P).2.1
 | 0, i, s, P, b => b
 | d + 1, i, s, P, b => by
   unfold rowD
   split
   · exact rowD_bm q br y typ d (i + 1) s _ (bm_set b _ (flatP_01 br _ _))
   · split
     · have := bit_range s (q.base + q.ctx P i y)
       exact rowD_bm q br y typ d (i + 1) _ _ (bm_set b _ (by omega))
     · exact b
theorem rowH_bm (q : RQ) (br : Bm q.RW q.RH q.RP) (y : Int) (s : DS) (P : List Int) (b : Bm q.W q.H P) : Bm q.W q.H (rowH q y s P).2.1 := by
 unfold rowH
 split
 · split
   · exact rowD_bm q br y _ _ _ _ _ b
   · exact b
 · exact rowD_bm q br y _ _ _ _ _ b
theorem rowH_len (q : RQ) (y : Int) (s : DS) (P : List Int) : (rowH q y s P).2.1.length = P.length ∧ (rowH q y s P).1.st.length = s.st.length := by
 unfold rowH
 split
 · split
   · have h := rowD_len q y (s.getI (q.base + ctxs q.t)).2.1 q.W.toNat 0 (s.getI (q.base + ctxs q.t)).1 P
     rw [getI_len] at h
     exact h
   · exact ⟨rfl, getI_len _ _⟩
 · exact rowD_len q y 0 q.W.toNat 0 s P
end Go.Proofs.Ytkfejicdjpffcaa.Rdv
namespace Go.Proofs.Ytkfejicdjpffcaa.Rrw
open Go Go.RowKit YtkfejicdjpffcaaW PrintWords PrintLast PrintMore U Aid HandAid Cod1 Cod2 Cod3 Ytkfejicdjpffcaa.Mod NewRef Enc Mods EncAt Put End Snc Dec Get DecNew RefAt RDec RDecNew Isk Pse Rpx Rva Rfl Rcx Rty Rev Rdv
set_option maxHeartbeats 8000000 in
set_option maxRecDepth 100000 in
theorem rrow_calls (w0 V : World) (S T : Nat → Prop) (B gd gr : Nat) (s : DS) (base t dx dy : Int) (ty : Bool) (kd W H : Int) (AB : Option Addr) (nB cB : Nat) (P : List Int) (RW RH : Int) (AR : Option Addr) (cR : Nat) (RP : List Int) (y : Nat)
 (hZ : ∀ V, Mods w0 V (fun k => S k ∨ T k) → V.heap[gr]? = some (.cells (regc t dx dy ty kd W H (.slice AB nB cB) RW RH (.slice AR RP.length cR)) 109 (0, 0)))
 (hA : ∀ V, Mods w0 V (fun k => S k ∨ T k) → Kd.C (Kd.int .u8) V AR RP.length RP) (hcR : RP.length ≤ cR) (hS : ∀ k, S k → k < w0.heap.size) (hST : ∀ k, T k → ¬ S k)
 (hX : GX DecAt w0 S T B gd s (.slice AB nB cB) P V) (hL : P.length = nB) (hb : Bm W H P) (hbr : Bm RW RH RP) (ht : t = 0 ∨ t = 1) (hdx : -200 ≤ dx ∧ dx ≤ 200) (hdy : -200 ≤ dy ∧ dy ≤ 200) (hbase : 0 ≤ base ∧ base ≤ 8192) (hyH : (y : Int) < H) (q : RQ) (hq : q = ⟨t, dx, dy, ty, W, H, RW, RH, RP, base⟩) (R : DS × List Int × Int) (hR : rowH q (y : Int) s P = R) :
 Calls Try.prog 82 #[.pointer (some ⟨gr, 0, none⟩), .pointer (some ⟨gd, 0, none⟩), .int .i64 base, .int .i64 (y : Int)] V fun e V' => e = .returned (.int .i64 R.2.2) ∧ GX DecAt w0 S T B gd R.1 (.slice AB nB cB) R.2.1 V' := by
 have HZ := A' hZ
 have HS := A' hS
 have HST := A' hST
 have HX0 := A' hX
 have HL0 := A' hL
 have HBM0 := A' hb
 have HBM := A' hb
 have HBR := A' hbr
 have HT := A' ht
 have HREG := A' (show ∀ V (s2 : DS) P2, GX DecAt w0 S T B gd s2 (.slice AB nB cB) P2 V → P2.length = nB → Bm W H P2 → Reg V gr t dx dy ty kd W H AB cB P2 RW RH AR cR RP from fun V s2 P2 hG hl hb2 => by
  subst hl
  exact ⟨hZ V hG.m, (Kd.R_reads' hG.p).2.2, (Kd.R_reads' hG.p).2.1, hA V hG.m, hcR, hb2, hbr, ht, by omega, by omega⟩)
 have HQF := A' (show ∀ x y, q.flat x y = flatP RW RH RP (x - dx) (y - dy) from fun x y => by rw [hq]; rfl)
 have HQC := A' (show ∀ P2 x y, q.base + q.ctx P2 x y = base + ctxP t dx dy W H P2 RW RH RP x y from fun P2 x y => by rw [hq]; rfl)
 have HQI := A' (show ∀ x y : Int, (y * q.W + x).toNat = (y * W + x).toNat from fun x y => by rw [hq])
 have hq1 : q.ty = ty := by rw [hq]
 have hq2 : q.W = W := by rw [hq]
 have hq3 : q.base + ctxs q.t = base + ctxs t := by rw [hq]
 unfold rowH at hR
 rw [hq1, hq2, hq3] at hR
 have hu1 := Try.underlying109
 have hu2 := Try.underlying107
 have hu3 := Try.underlying23
 have hcx := ctxs_range t
 have hyb : (y : Int) ≤ 200 := by have := hb.h; omega
 have z0 : V.cell? ⟨gr, 0, none⟩ = some (.int .i64 t) := (blk_cell (hZ V hX.m) 0).trans rfl
 have z3 : V.cell? ⟨gr, 3, none⟩ = some (.bool ty) := (blk_cell (hZ V hX.m) 3).trans rfl
 have z5 : V.cell? ⟨gr, 5, none⟩ = some (.int .i64 W) := (blk_cell (hZ V hX.m) 5).trans rfl
 clear hZ hA hS hST hX hL hb hbr ht hq hq1 hq2 hq3
 cases ty
 · rw [if_neg (by decide)] at hR
   have HR := A' (show rowD q (y : Int) 0 (W.toNat - 0) 0 s P = R from hR)
   clear hR
   go_enter Try.func82, Try.ntmps82
   go_wp2_with (fail)
   clear z0 z3 z5
   have hw := HBM.out.w
   have hh := HBM.out.h
   clear HBM
   go_loopw [45] (fun i wr => ∃ (m : Nat) (s2 : DS) (P2 : List Int), m ≤ W.toNat ∧ i = .int .i64 m ∧ Aside0 (rowD q (y : Int) 0 (W.toNat - m) m s2 P2 = R) ∧ Aside0 (P2.length = nB) ∧ Aside0 (Bm W H P2) ∧ Aside0 (GX DecAt w0 S T B gd s2 (.slice AB nB cB) P2 wr)) (fun i _ => W.toNat - (intOf i).toNat)
   case atStart => exact ⟨0, _, _, Nat.zero_le _, rfl, HR, HL0, HBM0, HX0⟩
   clear HR HL0 HBM0 HX0
   case round =>
    obtain ⟨m, s2, P2, hm, rfl, HX, HL, HBM2, HQ⟩ := hrel
    by_cases hltm : m < W.toNat
    · have hltm2 : (m : Int) < W := by omega
      have hat := HBM2.out.at_ (x := (m : Int)) (y := (y : Int)) (by omega) (by omega) hltm2 hyH
      obtain ⟨yw, hyw⟩ : ∃ z, (y : Int) * W = z := ⟨_, rfl⟩
      rw [hyw] at hat
      obtain ⟨ix, hix⟩ : ∃ ix : Nat, yw + (m : Int) = ix := ⟨(yw + m).toNat, by omega⟩
      rw [hix] at hat
      have hixl : ix < P2.length := by omega
      have hyw0 : 0 ≤ yw ∧ yw ≤ 40000 := ⟨hat.1, hat.2.1⟩
      have hix0 : (ix : Int) ≤ 9223372036854775807 := by omega
      have hixn : ix < nB := by have := HL.out; omega
      have hixn2 : (ix : Int) < nB := by omega
      obtain ⟨gp, cP, hv, hT, hgl⟩ := HQ.out.form (by omega)
      injection hv with hv1 hv2 hv3
      subst hv1 hv3
      have HTG := A' hT
      have c5 : wr.cell? ⟨gr, 5, none⟩ = some (.int .i64 W) := (blk_cell (HZ.out _ HQ.out.m) 5).trans rfl
      clear hv2 hT hgl hat
      go_wp2_with (fail)
      clear c5
      refine ((HREG.out _ s2 _ HQ.out HL.out HBM2.out).flat (m : Int) (y : Int) (by omega) (by omega)).mono ?_
      rintro e X0 ⟨rfl, hb⟩
      have HQ := A' (HQ.out.below hb)
      clear hb
      have hfp := flatP_01 HBR.out ((m : Int) - dx) ((y : Int) - dy)
      obtain ⟨⟨fc, is⟩, hF⟩ : ∃ r, flatP RW RH RP ((m : Int) - dx) ((y : Int) - dy) = r := ⟨_, rfl⟩
      rw [hF] at hfp ⊢
      have HF := A' (show q.flat (m : Int) (y : Int) = (fc, is) by rw [HQF.out, hF])
      clear hF
      simp only at hfp ⊢
      have hX := HX.out
      rw [show W.toNat - m = (W.toNat - (m + 1)) + 1 by omega] at hX
      unfold rowD at hX
      rw [if_neg (show ¬ ((0 : Int) = 1 ∧ (q.flat (m : Int) (y : Int)).2 = true) by simp), HQC.out, HQI.out, hyw, hix, Int.toNat_natCast] at hX
      have hcr := ctxP_range HBM2.out HBR.out t dx dy (m : Int) (y : Int) HT.out
      obtain ⟨⟨s3, bt, er⟩, hg⟩ : ∃ r, s2.getI (base + ctxP t dx dy W H P2 RW RH RP (m : Int) (y : Int)) = r := ⟨_, rfl⟩
      have hbt : 0 ≤ bt ∧ bt ≤ 1 := by have := bit_range s2 (base + ctxP t dx dy W H P2 RW RH RP (m : Int) (y : Int)); rw [hg] at this; exact this
      rw [hg] at hX
      simp only at hX
      have HG := A' hg
      have HX2 := A' hX
      clear hX hg
      go_wp2_with (fail)
      refine ((HREG.out _ s2 _ HQ.out HL.out HBM2.out).context (m : Int) (y : Int) (by omega) (by omega)).mono ?_
      rintro e X1 ⟨rfl, hb⟩
      have HQ := A' (HQ.out.below hb)
      clear hb
      go_wp2_with (fail)
      refine (HQ.out.get HS.out HST.out (base + ctxP t dx dy W H P2 RW RH RP (m : Int) (y : Int)) (by first | rfl | (rw [wrap_id] <;> omega))).mono ?_
      rintro e X2 ⟨rfl, hq⟩
      rw [HG.out] at hq ⊢
      simp only at hq ⊢
      have HQ := A' hq
      clear hq HG hcr
      have hX := HX2.out
      clear HX2
      by_cases her : er = 0
      · rw [if_pos her] at hX
        have e1 : (er != 0) = false := by simp [her]
        have HX2 := A' hX
        clear hX her
        have c7 : X2.cell? ⟨gr, 7, none⟩ = some (.slice (some ⟨gp, 0, none⟩) nB cB) := (blk_cell (HZ.out _ HQ.out.m) 7).trans rfl
        have hce := HQ.out.cell HL.out.symm ix hixl
        have hfz := hce.2
        have hcv := hce.1
        clear hce
        go_wp2_with (fail)
        refine ⟨⟨m + 1, s3, P2.set ix bt, by omega, by go_num, HX2, ⟨by rw [List.length_set]; exact HL.out⟩, ⟨bm_set HBM2.out _ (by omega)⟩, ⟨?_⟩⟩, by simp [intOf]; omega⟩
        have hf := HQ.out.set HL.out.symm HST.out HTG.out ix bt
        first | exact hf | (rw [show bt % 256 = bt by omega]; exact hf) | (rw [show IntKind.wrap .u8 bt = bt by simp [IntKind.wrap, IntKind.bits, IntKind.signed]; omega]; exact hf)
      · rw [if_neg her] at hX
        have e1 : (er != 0) = true := bne_iff_ne.mpr her
        subst hX
        clear her
        go_wp2_with (fail)
        go_ret
        exact ⟨rfl, HQ.out⟩
    · have hX := HX.out
      rw [show W.toNat - m = 0 by omega] at hX
      simp only [rowD] at hX
      subst hX
      go_wp2_with (fail)
      go_ret
      exact ⟨rfl, HQ.out⟩
 · rw [if_pos rfl] at hR
   obtain ⟨⟨s1, bh, er1⟩, hg⟩ : ∃ r, s.getI (base + ctxs t) = r := ⟨_, rfl⟩
   have hbh : 0 ≤ bh ∧ bh ≤ 1 := by have := bit_range s (base + ctxs t); rw [hg] at this; exact this
   rw [hg] at hR
   simp only at hR
   have HG1 := A' hg
   have HR1 := A' hR
   clear hg hR
   go_enter Try.func82, Try.ntmps82
   go_wp2_with (fail)
   refine (refine_contexts.calls t (ctxs t) _ (contexts_eq t)).mono ?_
   rintro e V1 ⟨rfl, hb⟩
   have HX0 := A' (HX0.out.below hb)
   clear hb z0 z3 z5
   go_wp2_with (fail)
   refine (HX0.out.get HS.out HST.out (base + ctxs t) (by first | rfl | omega | (rw [wrap_id] <;> omega))).mono ?_
   rintro e V2 ⟨rfl, hx⟩
   rw [HG1.out] at hx ⊢
   simp only at hx ⊢
   have HX0 := A' hx
   have z5 : V2.cell? ⟨gr, 5, none⟩ = some (.int .i64 W) := (blk_cell (HZ.out _ hx.m) 5).trans rfl
   have hR := HR1.out
   clear hx HG1 HR1
   by_cases her : er1 = 0
   · rw [if_pos her] at hR
     have e1 : (er1 != 0) = false := by simp [her]
     clear her
     have h01 : bh = 0 ∨ bh = 1 := by omega
     rcases h01 with rfl | rfl
     · have HR := A' (show rowD q (y : Int) 0 (W.toNat - 0) 0 s1 P = R from hR)
       clear hR
       go_wp2_with (fail)
       clear z5
       have hw := HBM.out.w
       have hh := HBM.out.h
       clear HBM
       go_loopw [45] (fun i wr => ∃ (m : Nat) (s2 : DS) (P2 : List Int), m ≤ W.toNat ∧ i = .int .i64 m ∧ Aside0 (rowD q (y : Int) 0 (W.toNat - m) m s2 P2 = R) ∧ Aside0 (P2.length = nB) ∧ Aside0 (Bm W H P2) ∧ Aside0 (GX DecAt w0 S T B gd s2 (.slice AB nB cB) P2 wr)) (fun i _ => W.toNat - (intOf i).toNat)
       case atStart => exact ⟨0, _, _, Nat.zero_le _, rfl, HR, HL0, HBM0, HX0⟩
       clear HR HL0 HBM0 HX0
       case round =>
        obtain ⟨m, s2, P2, hm, rfl, HX, HL, HBM2, HQ⟩ := hrel
        by_cases hltm : m < W.toNat
        · have hltm2 : (m : Int) < W := by omega
          have hat := HBM2.out.at_ (x := (m : Int)) (y := (y : Int)) (by omega) (by omega) hltm2 hyH
          obtain ⟨yw, hyw⟩ : ∃ z, (y : Int) * W = z := ⟨_, rfl⟩
          rw [hyw] at hat
          obtain ⟨ix, hix⟩ : ∃ ix : Nat, yw + (m : Int) = ix := ⟨(yw + m).toNat, by omega⟩
          rw [hix] at hat
          have hixl : ix < P2.length := by omega
          have hyw0 : 0 ≤ yw ∧ yw ≤ 40000 := ⟨hat.1, hat.2.1⟩
          have hix0 : (ix : Int) ≤ 9223372036854775807 := by omega
          have hixn : ix < nB := by have := HL.out; omega
          have hixn2 : (ix : Int) < nB := by omega
          obtain ⟨gp, cP, hv, hT, hgl⟩ := HQ.out.form (by omega)
          injection hv with hv1 hv2 hv3
          subst hv1 hv3
          have HTG := A' hT
          have c5 : wr.cell? ⟨gr, 5, none⟩ = some (.int .i64 W) := (blk_cell (HZ.out _ HQ.out.m) 5).trans rfl
          clear hv2 hT hgl hat
          go_wp2_with (fail)
          clear c5
          refine ((HREG.out _ s2 _ HQ.out HL.out HBM2.out).flat (m : Int) (y : Int) (by omega) (by omega)).mono ?_
          rintro e X0 ⟨rfl, hb⟩
          have HQ := A' (HQ.out.below hb)
          clear hb
          have hfp := flatP_01 HBR.out ((m : Int) - dx) ((y : Int) - dy)
          obtain ⟨⟨fc, is⟩, hF⟩ : ∃ r, flatP RW RH RP ((m : Int) - dx) ((y : Int) - dy) = r := ⟨_, rfl⟩
          rw [hF] at hfp ⊢
          have HF := A' (show q.flat (m : Int) (y : Int) = (fc, is) by rw [HQF.out, hF])
          clear hF
          simp only at hfp ⊢
          have hX := HX.out
          rw [show W.toNat - m = (W.toNat - (m + 1)) + 1 by omega] at hX
          unfold rowD at hX
          rw [if_neg (show ¬ ((0 : Int) = 1 ∧ (q.flat (m : Int) (y : Int)).2 = true) by simp), HQC.out, HQI.out, hyw, hix, Int.toNat_natCast] at hX
          have hcr := ctxP_range HBM2.out HBR.out t dx dy (m : Int) (y : Int) HT.out
          obtain ⟨⟨s3, bt, er⟩, hg⟩ : ∃ r, s2.getI (base + ctxP t dx dy W H P2 RW RH RP (m : Int) (y : Int)) = r := ⟨_, rfl⟩
          have hbt : 0 ≤ bt ∧ bt ≤ 1 := by have := bit_range s2 (base + ctxP t dx dy W H P2 RW RH RP (m : Int) (y : Int)); rw [hg] at this; exact this
          rw [hg] at hX
          simp only at hX
          have HG := A' hg
          have HX2 := A' hX
          clear hX hg
          go_wp2_with (fail)
          refine ((HREG.out _ s2 _ HQ.out HL.out HBM2.out).context (m : Int) (y : Int) (by omega) (by omega)).mono ?_
          rintro e X1 ⟨rfl, hb⟩
          have HQ := A' (HQ.out.below hb)
          clear hb
          go_wp2_with (fail)
          refine (HQ.out.get HS.out HST.out (base + ctxP t dx dy W H P2 RW RH RP (m : Int) (y : Int)) (by first | rfl | (rw [wrap_id] <;> omega))).mono ?_
          rintro e X2 ⟨rfl, hq⟩
          rw [HG.out] at hq ⊢
          simp only at hq ⊢
          have HQ := A' hq
          clear hq HG hcr
          have hX := HX2.out
          clear HX2
          by_cases her : er = 0
          · rw [if_pos her] at hX
            have e1 : (er != 0) = false := by simp [her]
            have HX2 := A' hX
            clear hX her
            have c7 : X2.cell? ⟨gr, 7, none⟩ = some (.slice (some ⟨gp, 0, none⟩) nB cB) := (blk_cell (HZ.out _ HQ.out.m) 7).trans rfl
            have hce := HQ.out.cell HL.out.symm ix hixl
            have hfz := hce.2
            have hcv := hce.1
            clear hce
            go_wp2_with (fail)
            refine ⟨⟨m + 1, s3, P2.set ix bt, by omega, by go_num, HX2, ⟨by rw [List.length_set]; exact HL.out⟩, ⟨bm_set HBM2.out _ (by omega)⟩, ⟨?_⟩⟩, by simp [intOf]; omega⟩
            have hf := HQ.out.set HL.out.symm HST.out HTG.out ix bt
            first | exact hf | (rw [show bt % 256 = bt by omega]; exact hf) | (rw [show IntKind.wrap .u8 bt = bt by simp [IntKind.wrap, IntKind.bits, IntKind.signed]; omega]; exact hf)
          · rw [if_neg her] at hX
            have e1 : (er != 0) = true := bne_iff_ne.mpr her
            subst hX
            clear her
            go_wp2_with (fail)
            go_ret
            exact ⟨rfl, HQ.out⟩
        · have hX := HX.out
          rw [show W.toNat - m = 0 by omega] at hX
          simp only [rowD] at hX
          subst hX
          go_wp2_with (fail)
          go_ret
          exact ⟨rfl, HQ.out⟩
     · have HR := A' (show rowD q (y : Int) 1 (W.toNat - 0) 0 s1 P = R from hR)
       clear hR
       go_wp2_with (fail)
       clear z5
       have hw := HBM.out.w
       have hh := HBM.out.h
       clear HBM
       go_loopw [45] (fun i wr => ∃ (m : Nat) (s2 : DS) (P2 : List Int), m ≤ W.toNat ∧ i = .int .i64 m ∧ Aside0 (rowD q (y : Int) 1 (W.toNat - m) m s2 P2 = R) ∧ Aside0 (P2.length = nB) ∧ Aside0 (Bm W H P2) ∧ Aside0 (GX DecAt w0 S T B gd s2 (.slice AB nB cB) P2 wr)) (fun i _ => W.toNat - (intOf i).toNat)
       case atStart => exact ⟨0, _, _, Nat.zero_le _, rfl, HR, HL0, HBM0, HX0⟩
       clear HR HL0 HBM0 HX0
       case round =>
        obtain ⟨m, s2, P2, hm, rfl, HX, HL, HBM2, HQ⟩ := hrel
        by_cases hltm : m < W.toNat
        · have hltm2 : (m : Int) < W := by omega
          have hat := HBM2.out.at_ (x := (m : Int)) (y := (y : Int)) (by omega) (by omega) hltm2 hyH
          obtain ⟨yw, hyw⟩ : ∃ z, (y : Int) * W = z := ⟨_, rfl⟩
          rw [hyw] at hat
          obtain ⟨ix, hix⟩ : ∃ ix : Nat, yw + (m : Int) = ix := ⟨(yw + m).toNat, by omega⟩
          rw [hix] at hat
          have hixl : ix < P2.length := by omega
          have hyw0 : 0 ≤ yw ∧ yw ≤ 40000 := ⟨hat.1, hat.2.1⟩
          have hix0 : (ix : Int) ≤ 9223372036854775807 := by omega
          have hixn : ix < nB := by have := HL.out; omega
          have hixn2 : (ix : Int) < nB := by omega
          obtain ⟨gp, cP, hv, hT, hgl⟩ := HQ.out.form (by omega)
          injection hv with hv1 hv2 hv3
          subst hv1 hv3
          have HTG := A' hT
          have c5 : wr.cell? ⟨gr, 5, none⟩ = some (.int .i64 W) := (blk_cell (HZ.out _ HQ.out.m) 5).trans rfl
          clear hv2 hT hgl hat
          go_wp2_with (fail)
          clear c5
          refine ((HREG.out _ s2 _ HQ.out HL.out HBM2.out).flat (m : Int) (y : Int) (by omega) (by omega)).mono ?_
          rintro e X0 ⟨rfl, hb⟩
          have HQ := A' (HQ.out.below hb)
          clear hb
          have hfp := flatP_01 HBR.out ((m : Int) - dx) ((y : Int) - dy)
          obtain ⟨⟨fc, is⟩, hF⟩ : ∃ r, flatP RW RH RP ((m : Int) - dx) ((y : Int) - dy) = r := ⟨_, rfl⟩
          rw [hF] at hfp ⊢
          have HF := A' (show q.flat (m : Int) (y : Int) = (fc, is) by rw [HQF.out, hF])
          clear hF
          simp only at hfp ⊢
          cases is
          · have hX := HX.out
            rw [show W.toNat - m = (W.toNat - (m + 1)) + 1 by omega] at hX
            unfold rowD at hX
            rw [if_neg (show ¬ ((1 : Int) = 1 ∧ (q.flat (m : Int) (y : Int)).2 = true) by rw [HF.out]; simp), HQC.out, HQI.out, hyw, hix, Int.toNat_natCast] at hX
            have hcr := ctxP_range HBM2.out HBR.out t dx dy (m : Int) (y : Int) HT.out
            obtain ⟨⟨s3, bt, er⟩, hg⟩ : ∃ r, s2.getI (base + ctxP t dx dy W H P2 RW RH RP (m : Int) (y : Int)) = r := ⟨_, rfl⟩
            have hbt : 0 ≤ bt ∧ bt ≤ 1 := by have := bit_range s2 (base + ctxP t dx dy W H P2 RW RH RP (m : Int) (y : Int)); rw [hg] at this; exact this
            rw [hg] at hX
            simp only at hX
            have HG := A' hg
            have HX2 := A' hX
            clear hX hg
            go_wp2_with (fail)
            refine ((HREG.out _ s2 _ HQ.out HL.out HBM2.out).context (m : Int) (y : Int) (by omega) (by omega)).mono ?_
            rintro e X1 ⟨rfl, hb⟩
            have HQ := A' (HQ.out.below hb)
            clear hb
            go_wp2_with (fail)
            refine (HQ.out.get HS.out HST.out (base + ctxP t dx dy W H P2 RW RH RP (m : Int) (y : Int)) (by first | rfl | (rw [wrap_id] <;> omega))).mono ?_
            rintro e X2 ⟨rfl, hq⟩
            rw [HG.out] at hq ⊢
            simp only at hq ⊢
            have HQ := A' hq
            clear hq HG hcr
            have hX := HX2.out
            clear HX2
            by_cases her : er = 0
            · rw [if_pos her] at hX
              have e1 : (er != 0) = false := by simp [her]
              have HX2 := A' hX
              clear hX her
              have c7 : X2.cell? ⟨gr, 7, none⟩ = some (.slice (some ⟨gp, 0, none⟩) nB cB) := (blk_cell (HZ.out _ HQ.out.m) 7).trans rfl
              have hce := HQ.out.cell HL.out.symm ix hixl
              have hfz := hce.2
              have hcv := hce.1
              clear hce
              go_wp2_with (fail)
              refine ⟨⟨m + 1, s3, P2.set ix bt, by omega, by go_num, HX2, ⟨by rw [List.length_set]; exact HL.out⟩, ⟨bm_set HBM2.out _ (by omega)⟩, ⟨?_⟩⟩, by simp [intOf]; omega⟩
              have hf := HQ.out.set HL.out.symm HST.out HTG.out ix bt
              first | exact hf | (rw [show bt % 256 = bt by omega]; exact hf) | (rw [show IntKind.wrap .u8 bt = bt by simp [IntKind.wrap, IntKind.bits, IntKind.signed]; omega]; exact hf)
            · rw [if_neg her] at hX
              have e1 : (er != 0) = true := bne_iff_ne.mpr her
              subst hX
              clear her
              go_wp2_with (fail)
              go_ret
              exact ⟨rfl, HQ.out⟩
          · have hX := HX.out
            rw [show W.toNat - m = (W.toNat - (m + 1)) + 1 by omega] at hX
            unfold rowD at hX
            rw [if_pos (show (1 : Int) = 1 ∧ (q.flat (m : Int) (y : Int)).2 = true from ⟨rfl, by rw [HF.out]⟩), HF.out, HQI.out, hyw, hix, Int.toNat_natCast] at hX
            simp only at hX
            have HX2 := A' hX
            clear hX
            have c7 : X0.cell? ⟨gr, 7, none⟩ = some (.slice (some ⟨gp, 0, none⟩) nB cB) := (blk_cell (HZ.out _ HQ.out.m) 7).trans rfl
            have hce := HQ.out.cell HL.out.symm ix hixl
            have hfz := hce.2
            have hcv := hce.1
            clear hce
            go_wp2_with (fail)
            exact ⟨⟨m + 1, s2, P2.set ix fc, by omega, by go_num, HX2, ⟨by rw [List.length_set]; exact HL.out⟩, ⟨bm_set HBM2.out _ hfp⟩, ⟨HQ.out.set HL.out.symm HST.out HTG.out ix fc⟩⟩, by simp [intOf]; omega⟩
        · have hX := HX.out
          rw [show W.toNat - m = 0 by omega] at hX
          simp only [rowD] at hX
          subst hX
          go_wp2_with (fail)
          go_ret
          exact ⟨rfl, HQ.out⟩
   · rw [if_neg her] at hR
     have e1 : (er1 != 0) = true := bne_iff_ne.mpr her
     subst hR
     clear her
     go_wp2_with (fail)
     go_ret
     exact ⟨rfl, HX0.out⟩
end Go.Proofs.Ytkfejicdjpffcaa.Rrw
namespace Go.Proofs.Ytkfejicdjpffcaa.Rmk
open Go Go.RowKit YtkfejicdjpffcaaW PrintWords PrintLast PrintMore Aid HandAid
/-- A made slice of bytes. -/
def zcells (n : Nat) : Array Value := madeCells (Value.int .u8 0).cells n
theorem make_step {oi : Oper} {a : Act} (W : World) (x y : Operand) (ho : oi.op = .makeSlice 29 x y) (m : Int) (n : Nat) (hx : a.eval x = .int .i64 m) (hy : a.eval y = .int .i64 m) (hm : m = n) (hn : n ≤ 1000000) :
 (execOp a.eval oi).run Try.prog W = .ok (.value (.slice (some ⟨W.heap.size, 0, none⟩) n n)) (W.alloc (.cells (zcells n) 5)) := by
 subst hm
 obtain ⟨i, hi, hz⟩ := Option.map_eq_some_iff.1 infoU8
 simp only [Prod.mk.injEq] at hz
 obtain ⟨hz0, hz1, hz2⟩ := hz
 have hr := run_make (P := Try.prog) W 29 5 i (.int .u8 0) Try.underlying29 hi hz0 .i64 .i64 (n : Int) (n : Int) (by omega) (by omega) (by rw [hz2]; omega) (by omega)
 rw [Int.toNat_natCast, hz1, Nat.mul_one] at hr
 simp [execOp, ho, hx, hy, hr, zcells]
theorem made_row (W : World) (B n : Nat) (hB : B ≤ W.heap.size) (hn : n ≤ 1000000) : Kd.R (Kd.int .u8) 5 (W.alloc (.cells (zcells n) 5)) B (fun k => k = W.heap.size) (.slice (some ⟨W.heap.size, 0, none⟩) n n) (List.replicate n 0) := by
 refine ⟨fun k hk => ?_, (zcells n).toList, ?_, ?_⟩
 · simpa [Value.ownBlock] using hk.symm
 · have h2 := World.ownsRow_lit (base := B) (e := 5) (size := 1) W (zcells n) n hB (by simp only [maxLen]; omega) (by simp [zcells, size_madeCells])
   rw [List.length_replicate]
   exact h2
 · have h3 := Kd.reps_made (R := fun (p : Int) (c : List Value) => c = [.int .u8 p]) (z := .int .u8 0) (size := 1) (z0 := (0 : Int)) rfl (by decide) rfl n
   rw [Nat.mul_one] at h3
   exact h3
end Go.Proofs.Ytkfejicdjpffcaa.Rmk
namespace Go.Proofs.Ytkfejicdjpffcaa.Rgt
open Go Go.RowKit YtkfejicdjpffcaaW PrintWords PrintLast PrintMore U Aid HandAid Cod1 Cod2 Cod3 Ytkfejicdjpffcaa.Mod NewRef Enc Mods EncAt Put End Snc Dec Get DecNew RefAt RDec RDecNew Isk Pse Rpx Rva Rfl Rcx Rty Rev Rdv Rrw Rmk
/-- What Get answers: a bitmap, its pixels in a row of its own, an error. -/
def GPost (At : World → (Nat → Prop) → Nat → DS → Prop) (w : World) (S : Nat → Prop) (gd : Nat) (R : DS × (Int × Int × List Int) × Int) (e : Ending) (W : World) : Prop :=
 ∃ A c, e = .returned (.tuple #[.agg #[.int .i64 R.2.1.1, .int .i64 R.2.1.2.1, .slice A R.2.1.2.2.length c], .int .i64 R.2.2]) ∧ Kd.R (Kd.int .u8) 5 W w.heap.size (fun _ => True) (.slice A R.2.1.2.2.length c) R.2.1.2.2 ∧ IS At w S gd R.1 W
theorem zset3 {W : World} {b : Nat} {u v z : Value} (h : W.heap[b]? = some (.cells #[u, v, z] 31 (0, 0))) (p q r : Value) :
 (((W.setCell ⟨b, 0, none⟩ p).setCell ⟨b, 1, none⟩ q).setCell ⟨b, 2, none⟩ r).heap[b]? = some (.cells #[p, q, r] 31 (0, 0)) := by simpa using blk_set (blk_set (blk_set h 0 p) 1 q) 2 r
theorem GPost.bad {At : World → (Nat → Prop) → Nat → DS → Prop} [AtL At] {w W : World} {S : Nat → Prop} {gd : Nat} {s : DS} {b : Nat} (err : Int) (h : IS At w S gd s W) (hS : ∀ k, S k → k < w.heap.size) (hb : w.heap.size ≤ b) : GPost At w S gd (s, (0, 0, []), err) (.returned (.tuple #[.agg #[.int .i64 0, .int .i64 0, .slice none 0 0], .int .i64 err])) (((W.setCell ⟨b, 0, none⟩ (.int .i64 0)).setCell ⟨b, 1, none⟩ (.int .i64 0)).setCell ⟨b, 2, none⟩ (.slice none 0 0)) :=
 ⟨none, 0, rfl, Kd.R_nil _ _ _ w.heap.size (fun _ => True), ((h.set hS _ hb _).set hS _ hb _).set hS _ hb _⟩
theorem gret36 {W : World} {b : Nat} {x y err : Int} {A : Option Addr} {n c : Nat} {tmps : Array Value} (hz : W.heap[b]? = some (.cells #[.int .i64 x, .int .i64 y, .slice A n c] 31 (0, 0))) (h2 : tmps.getD 12 undef = .pointer (some ⟨b, 0, none⟩)) (h3 : tmps.getD 13 undef = .int .i64 err) :
 (results Try.f36 tmps).run Try.prog W = .ok (.tuple #[.agg #[.int .i64 x, .int .i64 y, .slice A n c], .int .i64 err]) W := by
 have y0 : W.cell? ⟨b, 0, none⟩ = some (.int .i64 x) := (blk_cell hz 0).trans rfl
 have y1 : W.cell? ⟨b, 1, none⟩ = some (.int .i64 y) := (blk_cell hz 1).trans rfl
 have y2 : W.cell? ⟨b, 2, none⟩ = some (.slice A n c) := (blk_cell hz 2).trans rfl
 have hu := Try.underlying31
 rw [results_cell_tmp rfl, h2, h3]
 go_simp
set_option maxHeartbeats 8000000 in
set_option maxRecDepth 100000 in
theorem rfget_calls (w : World) (S : Nat → Prop) (gd : Nat) (s : DS) (base t dx dy : Int) (ty : Bool) (kd W H : Int) (RW RH : Int) (AR : Option Addr) (cR : Nat) (RP : List Int) (hE : DecAt w S gd s) (hS : ∀ k, S k → k < w.heap.size) (hok : s.ok) (hdx : -9223372036854775808 ≤ dx ∧ dx ≤ 9223372036854775807) (hdy : -9223372036854775808 ≤ dy ∧ dy ≤ 9223372036854775807) (hA : ∀ V, Mods w V S → Kd.C (Kd.int .u8) V AR RP.length RP) (hcR : RP.length ≤ cR) (hbR : Bytes RP) (q : RQ) (hq : q = ⟨t, dx, dy, ty, W, H, RW, RH, RP, base⟩) (R : DS × (Int × Int × List Int) × Int) (hR : getD q kd s = R) :
 Calls Try.prog 36 #[.pointer (some ⟨gd, 0, none⟩), .int .i64 base, .agg #[.int .i64 t, .int .i64 dx, .int .i64 dy, .bool ty, .int .i64 kd], .int .i64 W, .int .i64 H, .agg #[.int .i64 RW, .int .i64 RH, .slice AR RP.length cR]] w (GPost DecAt w S gd R) := by
 have HA := A' hA
 have HS := A' hS
 have HbR := A' hbR
 have HE := A' hE
 have HQQ := A' hq
 have hst : s.st.length ≤ 8192 := hok.m.2.1
 have hmR : RP.length ≤ 9223372036854775807 := Kd.C_max (hA w (Mods.refl w S))
 have HOK := A' hok
 unfold getD at hR
 have hE1 : getErr q kd s.st.length = if okO t dx dy kd = true then (if okS W H = true ∧ okB RW RH RP = true then (if okF s.st.length base t = true then 0 else 2) else 30) else 2 := by rw [hq]; rfl
 have hq1 : q.W = W := by rw [hq]
 have hq2 : q.H = H := by rw [hq]
 rw [hE1, hq1, hq2] at hR
 have HR := A' hR
 have hu1 := Try.underlying109
 have hu2 := Try.underlying107
 have hu3 := Try.underlying23
 have hu4 := Try.underlying31
 have hu5 := Try.underlying45
 clear hA hS hbR hE hok hR hE1 hq hq1 hq2
 go_enter Try.func36, Try.ntmps36
 go_wp2_with (fail)
 obtain ⟨b12, hb12⟩ : ∃ x, w.heap.size + 1 + 1 = x := ⟨_, rfl⟩
 obtain ⟨b11, hb11⟩ : ∃ x, w.heap.size + 1 = x := ⟨_, rfl⟩
 obtain ⟨b8, hb8⟩ : ∃ x, w.heap.size = x := ⟨_, rfl⟩
 obtain ⟨W1, hW1⟩ : ∃ x, ((w.alloc (.cells #[.int .i64 t, .int .i64 dx, .int .i64 dy, .bool ty, .int .i64 kd] 23)).alloc (.cells #[.int .i64 RW, .int .i64 RH, .slice AR RP.length cR] 31)).alloc (.cells #[.int .i64 0, .int .i64 0, .slice none 0 0] 31) = x := ⟨_, rfl⟩
 have HB1 := A' (show Below w.heap.size w W1 from hW1 ▸ below_alloc (below_alloc (below_alloc (Below.refl _ _) _) _) _)
 have HZ12 := A' (show W1.heap[b12]? = some (.cells #[.int .i64 0, .int .i64 0, .slice none 0 0] 31 (0, 0)) by
  have h := heap_new ((w.alloc (.cells #[.int .i64 t, .int .i64 dx, .int .i64 dy, .bool ty, .int .i64 kd] 23)).alloc (.cells #[.int .i64 RW, .int .i64 RH, .slice AR RP.length cR] 31)) (.cells #[.int .i64 0, .int .i64 0, .slice none 0 0] 31)
  rw [World.size_alloc, World.size_alloc, hb12, hW1] at h
  exact h)
 have HZ11 := A' (show W1.heap[b11]? = some (.cells #[.int .i64 RW, .int .i64 RH, .slice AR RP.length cR] 31 (0, 0)) by
  have h := heap_new (w.alloc (.cells #[.int .i64 t, .int .i64 dx, .int .i64 dy, .bool ty, .int .i64 kd] 23)) (.cells #[.int .i64 RW, .int .i64 RH, .slice AR RP.length cR] 31)
  rw [World.size_alloc, hb11] at h
  rw [← hW1]
  exact blk_alloc h _)
 have HZ8 := A' (show W1.heap[b8]? = some (.cells #[.int .i64 t, .int .i64 dx, .int .i64 dy, .bool ty, .int .i64 kd] 23 (0, 0)) by
  have h := heap_new w (.cells #[.int .i64 t, .int .i64 dx, .int .i64 dy, .bool ty, .int .i64 kd] 23)
  rw [hb8] at h
  rw [← hW1]
  exact blk_alloc (blk_alloc h _) _)
 have HGE := A' (show w.heap.size ≤ b8 ∧ w.heap.size ≤ b11 ∧ w.heap.size ≤ b12 by omega)
 have HB12 := A' (show w.heap.size ≤ b12 ∧ b12 < W1.heap.size from ⟨by omega, blk_lt HZ12.out⟩)
 rw [hb12, hb11, hb8, hW1]
 clear hb12 hb11 hb8 hW1
 have hp1 := get_calls W1 S gd s (-1) (HE.out.below HB1.out) (fun k hk => Nat.lt_of_lt_of_le (HS.out k hk) HB1.out.size) HOK.out
 rw [getI_neg] at hp1
 refine hp1.mono ?_
 rintro e W2 ⟨rfl, hD, hM⟩
 have HD := A' hD
 have HM2 := A' ((Mods.of_below HB1.out S).then_ hM (fun k hk => .inl hk))
 have HS1 := A' hM.size
 have HZ8 := A' (blk_mods HZ8.out hM (fun hk => by have := HS.out _ hk; have := HGE.out; omega))
 have HZ11 := A' (blk_mods HZ11.out hM (fun hk => by have := HS.out _ hk; have := HGE.out; omega))
 have HZ12 := A' (blk_mods HZ12.out hM (fun hk => by have := HS.out _ hk; have := HGE.out; omega))
 have HIS := A' (show ∀ V, Below W2.heap.size W2 V → IS DecAt w S gd s V from fun V hV => ⟨HD.out.below hV, HM2.out.below hV, HOK.out⟩)
 have HD2 := A' (Below.refl W2.heap.size W2)
 clear hD hM hp1 HE
 have q80 : W2.cell? ⟨b8, 0, none⟩ = some (.int .i64 t) := (blk_cell (blk_below HZ8.out HD2.out) 0).trans rfl
 have q81 : W2.cell? ⟨b8, 1, none⟩ = some (.int .i64 dx) := (blk_cell (blk_below HZ8.out HD2.out) 1).trans rfl
 have q82 : W2.cell? ⟨b8, 2, none⟩ = some (.int .i64 dy) := (blk_cell (blk_below HZ8.out HD2.out) 2).trans rfl
 have q83 : W2.cell? ⟨b8, 3, none⟩ = some (.bool ty) := (blk_cell (blk_below HZ8.out HD2.out) 3).trans rfl
 have q84 : W2.cell? ⟨b8, 4, none⟩ = some (.int .i64 kd) := (blk_cell (blk_below HZ8.out HD2.out) 4).trans rfl
 simp only
 go_wp2_with (fail)
 refine (refine_Valid.calls t dx dy ty kd _ _ (valid_eq t dx dy ty kd hdx hdy)).mono ?_
 rintro e W3 ⟨rfl, hb⟩
 have HD3 := A' hb
 clear hb q80 q81 q82 q83 q84
 obtain ⟨vo, hvo⟩ : ∃ x, okO t dx dy kd = x := ⟨_, rfl⟩
 have hR := HR.out
 clear HR
 rw [hvo] at hR ⊢
 cases vo
 · rw [if_neg (show ¬ (false = true) by decide), if_neg (show ¬ ((2 : Int) = 0) by decide)] at hR
   subst hR
   clear hvo
   have m0 : W3.cell? ⟨b12, 0, none⟩ = some (.int .i64 0) := (blk_cell (blk_below HZ12.out HD3.out) 0).trans rfl
   have m1 : W3.cell? ⟨b12, 1, none⟩ = some (.int .i64 0) := (blk_cell (blk_below HZ12.out HD3.out) 1).trans rfl
   have m2 : W3.cell? ⟨b12, 2, none⟩ = some (.slice none 0 0) := (blk_cell (blk_below HZ12.out HD3.out) 2).trans rfl
   have k0 := blk_frozen (blk_below HZ12.out HD3.out) 0
   have k1 := blk_frozen (blk_below HZ12.out HD3.out) 1
   have k2 := blk_frozen (blk_below HZ12.out HD3.out) 2
   have HZW := A' (zset3 (blk_below HZ12.out HD3.out) (.int .i64 0) (.int .i64 0) (.slice none 0 0))
   have hP := GPost.bad (At := DecAt) (w := w) (S := S) (gd := gd) (s := s) (b := b12) 2 (HIS.out _ HD3.out) HS.out HB12.out.1
   go_wp2_with (fail)
   exact bodyPost_ret (gret36 HZW.out rfl rfl) rfl hP
 rw [if_pos (show true = true from rfl)] at hR
 have hoo := okO_iff.1 hvo
 have HOO := A' hoo
 have HR := A' hR
 have HT := A' hoo.1
 clear hvo hR hoo
 go_wp2_with (fail)
 obtain ⟨⟨n1, n2, n3, n4⟩, hEv, hn4⟩ := bnew_ev W H
 obtain ⟨K1, hK1⟩ := Ev.rounds hEv
 refine (bitmap_New.calls K1 W H 0 n1 n2 n3 n4 _ hK1).mono ?_
 rintro e W4 ⟨v2, rfl, hv2, hb⟩
 obtain ⟨Av, cv, rfl⟩ := Kd.R_slice hv2
 have HD4 := A' (below_then HD3.out HD3.out.size hb)
 simp only at hn4
 clear hv2 hb hK1 hEv
 obtain ⟨W4a, hW4a⟩ : ∃ x, W4.alloc (.cells #[.int .i64 n1, .int .i64 n2, .slice Av n3.length cv] 31) = x := ⟨_, rfl⟩
 have HD4a := A' (show Below W2.heap.size W2 W4a from hW4a ▸ below_alloc HD4.out _)
 obtain ⟨vs, hvs⟩ : ∃ x, okS W H = x := ⟨_, rfl⟩
 have hR := HR.out
 clear HR
 rw [hvs] at hR hn4
 cases vs
 · have e1 : (n4 != 0) = true := by
     rw [if_neg (by decide)] at hn4
     apply bne_iff_ne.mpr
     split at hn4 <;> omega
   rw [if_neg (show ¬ (false = true ∧ okB RW RH RP = true) by simp), if_neg (show ¬ ((30 : Int) = 0) by decide)] at hR
   subst hR
   clear hvs hn4
   have m0 : W4a.cell? ⟨b12, 0, none⟩ = some (.int .i64 0) := (blk_cell (blk_below HZ12.out HD4a.out) 0).trans rfl
   have m1 : W4a.cell? ⟨b12, 1, none⟩ = some (.int .i64 0) := (blk_cell (blk_below HZ12.out HD4a.out) 1).trans rfl
   have m2 : W4a.cell? ⟨b12, 2, none⟩ = some (.slice none 0 0) := (blk_cell (blk_below HZ12.out HD4a.out) 2).trans rfl
   have k0 := blk_frozen (blk_below HZ12.out HD4a.out) 0
   have k1 := blk_frozen (blk_below HZ12.out HD4a.out) 1
   have k2 := blk_frozen (blk_below HZ12.out HD4a.out) 2
   have HZW := A' (zset3 (blk_below HZ12.out HD4a.out) (.int .i64 0) (.int .i64 0) (.slice none 0 0))
   have hP := GPost.bad (At := DecAt) (w := w) (S := S) (gd := gd) (s := s) (b := b12) 30 (HIS.out _ HD4a.out) HS.out HB12.out.1
   go_wp2_with (fail)
   exact bodyPost_ret (gret36 HZW.out rfl rfl) rfl hP
 have hsz := okS_iff.1 hvs
 have HBN := A' (bm_new hvs)
 rw [if_pos (show true = true from rfl)] at hn4
 subst hn4
 have har := area hsz.1 hsz.2.1 hsz.2.2.1 hsz.2.2.2.1
 clear hvs
 have HR := A' hR
 clear hR
 have q110 : W4a.cell? ⟨b11, 0, none⟩ = some (.int .i64 RW) := (blk_cell (blk_below HZ11.out HD4a.out) 0).trans rfl
 have q111 : W4a.cell? ⟨b11, 1, none⟩ = some (.int .i64 RH) := (blk_cell (blk_below HZ11.out HD4a.out) 1).trans rfl
 have q112 : W4a.cell? ⟨b11, 2, none⟩ = some (.slice AR RP.length cR) := (blk_cell (blk_below HZ11.out HD4a.out) 2).trans rfl
 go_wp2_with (fail)
 clear hW4a
 obtain ⟨K2, hK2⟩ := Ev.rounds (bvalid_ev RW RH RP hmR)
 refine (bitmap_Valid.calls K2 RW RH AR cR RP _ _ (HA.out _ (HM2.out.below HD4a.out)) hcR hK2).mono ?_
 rintro e W5 ⟨rfl, hb⟩
 have HD5 := A' (below_drew (below_then HD4a.out HD4a.out.size hb))
 have HD5' := A' (below_then HD4a.out HD4a.out.size hb)
 clear hb hK2 q110 q111 q112
 obtain ⟨vr, hvr⟩ : ∃ x, okB RW RH RP = x := ⟨_, rfl⟩
 have hR := HR.out
 clear HR
 rw [hvr] at hR ⊢
 cases vr
 · rw [if_neg (show ¬ (True ∧ false = true) by simp), if_neg (show ¬ ((30 : Int) = 0) by decide)] at hR
   subst hR
   clear hvr
   have m0 : W5.cell? ⟨b12, 0, none⟩ = some (.int .i64 0) := (blk_cell (blk_below HZ12.out HD5'.out) 0).trans rfl
   have m1 : W5.cell? ⟨b12, 1, none⟩ = some (.int .i64 0) := (blk_cell (blk_below HZ12.out HD5'.out) 1).trans rfl
   have m2 : W5.cell? ⟨b12, 2, none⟩ = some (.slice none 0 0) := (blk_cell (blk_below HZ12.out HD5'.out) 2).trans rfl
   have k0 := blk_frozen (blk_below HZ12.out HD5'.out) 0
   have k1 := blk_frozen (blk_below HZ12.out HD5'.out) 1
   have k2 := blk_frozen (blk_below HZ12.out HD5'.out) 2
   have HZW := A' (zset3 (blk_below HZ12.out HD5'.out) (.int .i64 0) (.int .i64 0) (.slice none 0 0))
   have hP := GPost.bad (At := DecAt) (w := w) (S := S) (gd := gd) (s := s) (b := b12) 30 (HIS.out _ HD5'.out) HS.out HB12.out.1
   go_wp2_with (fail)
   exact bodyPost_ret (gret36 HZW.out rfl rfl) rfl hP
 have HBR := A' (okB_bm HbR.out hvr).1
 clear hvr
 rw [if_pos (show True ∧ true = true from ⟨trivial, rfl⟩)] at hR
 obtain ⟨FT, hFT⟩ : ∃ x, okF s.st.length base t = x := ⟨_, rfl⟩
 rw [hFT] at hR
 have HR := A' hR
 have HFF := A' hFT
 clear hR hFT
 go_wp2_with (fail)
 refine start_ (n := 6) (S := fun w' => w'.cell? ⟨b8, 0, none⟩ = some (.int .i64 t) ∧ w'.cell? ⟨b8, 1, none⟩ = some (.int .i64 dx) ∧ w'.cell? ⟨b8, 2, none⟩ = some (.int .i64 dy) ∧ w'.cell? ⟨b8, 3, none⟩ = some (.bool ty) ∧ w'.cell? ⟨b8, 4, none⟩ = some (.int .i64 kd)) (ds := []) #[false, false, false, false, false, false] (by kernel_rfl) rfl rfl ⟨(blk_cell (blk_below HZ8.out HD5.out) 0).trans rfl, (blk_cell (blk_below HZ8.out HD5.out) 1).trans rfl, (blk_cell (blk_below HZ8.out HD5.out) 2).trans rfl, (blk_cell (blk_below HZ8.out HD5.out) 3).trans rfl, (blk_cell (blk_below HZ8.out HD5.out) 4).trans rfl⟩ (fun hHeld => ?_)
 refine u' 0 48 (B' 6 1) ?_ rfl rfl (by kernel_rfl) (fun _ _ _ h => h) (.inl ⟨by rfl, ?_⟩) ?_ ?_ ?_; rotate_left; (intro w'; go_simp; with_reducible rfl); rotate_left; (simp only [Act.put, p1', p2', p3', i64_w, i32_w]; rfl)
 refine u' 2 50 (B' 6 5) ?_ rfl rfl (by kernel_rfl) (fun _ _ _ h => h) (.inl ⟨by rfl, ?_⟩) ?_ ?_ ?_; rotate_left; (intro w'; go_simp; with_reducible rfl); rotate_left; (simp only [Act.put, p1', p2', p3', i64_w, i32_w]; rfl)
 refine t' 3 51 (B' 6 13) ?_ rfl rfl (by kernel_rfl) (fun _ _ _ h => h) (.inl ⟨by rfl, ?_⟩) hHeld ?_ ?_ ?_; rotate_left; (rintro w' ⟨s0, s1, s2, s3, s4⟩; go_simp; with_reducible rfl); rotate_left; (simp only [Act.put, p1', p2', p3', i64_w, i32_w]; rfl)
 refine one_ (i := 1) (N := some 49) (B' 6 15) rfl rfl (by kernel_rfl) (by decide) (fun K hK => ?_)
 refine goes_ Try.func81 (by kernel_rfl) rfl #[.pointer (some ⟨gd, 0, none⟩)] (by rfl) rfl rfl (by simp only [List.map_toArray, List.map_cons, List.map_nil]; rfl) ?_
 with_reducible refine (dec_model_calls _ _ _ _ (HD.out.below HD5.out) HOK.out).mono ?_
 rintro e W6 ⟨A6, c6, rfl, hM6, hb⟩
 refine ⟨_, rfl, ?_⟩
 have HD6 := A' (below_then HD5.out HD5.out.size hb)
 have hc6 := (Kd.R_reads' hM6).2.1
 have HM6 := A' (Kd.R_reads' hM6).2.2
 clear hb hM6
 refine hK.out _ _ ⟨(blk_cell (blk_below HZ8.out HD6.out) 0).trans rfl, (blk_cell (blk_below HZ8.out HD6.out) 1).trans rfl, (blk_cell (blk_below HZ8.out HD6.out) 2).trans rfl, (blk_cell (blk_below HZ8.out HD6.out) 3).trans rfl, (blk_cell (blk_below HZ8.out HD6.out) 4).trans rfl⟩ (fun hHeld => ?_)
 clear hK K
 refine norm_ (a' := ?_) ?_ ?_; rotate_left; (show Act.put _ (some 49) _ = _; simp only [Act.put, p1', p2', p3', i64_w, i32_w]; rfl)
 refine one_ (i := 4) (N := some 52) (B' 6 31) rfl rfl (by kernel_rfl) (by decide) (fun K hK => ?_)
 refine goes_ Try.func57 (by kernel_rfl) rfl #[.agg #[.int .i64 s.kind, .slice A6 s.st.length c6], .int .i64 base, .agg #[.int .i64 t, .int .i64 dx, .int .i64 dy, .bool ty, .int .i64 kd]] (by rfl) rfl rfl (by simp only [List.map_toArray, List.map_cons, List.map_nil]; rfl) ?_
 with_reducible refine (Hsm.fits_calls s.kind A6 c6 s.st hst base t dx dy ty kd FT HFF.out _).mono ?_
 rintro e W7 ⟨rfl, hb⟩
 refine ⟨_, rfl, ?_⟩
 have HD7 := A' (below_then HD6.out HD6.out.size hb)
 clear hb
 refine hK.out _ _ ⟨(blk_cell (blk_below HZ8.out HD7.out) 0).trans rfl, (blk_cell (blk_below HZ8.out HD7.out) 1).trans rfl, (blk_cell (blk_below HZ8.out HD7.out) 2).trans rfl, (blk_cell (blk_below HZ8.out HD7.out) 3).trans rfl, (blk_cell (blk_below HZ8.out HD7.out) 4).trans rfl⟩ (fun hHeld => ?_)
 clear hK K
 refine norm_ (a' := ?_) ?_ ?_; rotate_left; (show Act.put _ (some 52) _ = _; simp only [Act.put, p1', p2', p3', i64_w, i32_w]; rfl)
 refine u' 5 53 (B' 6 63) ?_ rfl rfl (by kernel_rfl) (fun _ _ _ h => h) (.inl ⟨by rfl, ?_⟩) ?_ ?_ ?_; rotate_left; (intro w'; go_simp; with_reducible rfl); rotate_left; (simp only [Act.put, p1', p2', p3', i64_w, i32_w]; rfl)
 refine done_ (by kernel_rfl) ?_
 have hR := HR.out
 clear HR
 cases FT
 · rw [if_neg (show ¬ (false = true) by decide), if_neg (show ¬ ((2 : Int) = 0) by decide)] at hR
   subst hR
   have m0 : W7.cell? ⟨b12, 0, none⟩ = some (.int .i64 0) := (blk_cell (blk_below HZ12.out HD7.out) 0).trans rfl
   have m1 : W7.cell? ⟨b12, 1, none⟩ = some (.int .i64 0) := (blk_cell (blk_below HZ12.out HD7.out) 1).trans rfl
   have m2 : W7.cell? ⟨b12, 2, none⟩ = some (.slice none 0 0) := (blk_cell (blk_below HZ12.out HD7.out) 2).trans rfl
   have k0 := blk_frozen (blk_below HZ12.out HD7.out) 0
   have k1 := blk_frozen (blk_below HZ12.out HD7.out) 1
   have k2 := blk_frozen (blk_below HZ12.out HD7.out) 2
   have HZW := A' (zset3 (blk_below HZ12.out HD7.out) (.int .i64 0) (.int .i64 0) (.slice none 0 0))
   have hP := GPost.bad (At := DecAt) (w := w) (S := S) (gd := gd) (s := s) (b := b12) 2 (HIS.out _ HD7.out) HS.out HB12.out.1
   go_wp2_with (fail)
   exact bodyPost_ret (gret36 HZW.out rfl rfl) rfl hP
 rw [if_pos (show true = true from rfl), if_pos (show (0 : Int) = 0 from rfl)] at hR
 have hff := okF_iff.1 HFF.out
 obtain ⟨nP, hnp⟩ : ∃ n, (W * H).toNat = n := ⟨_, rfl⟩
 rw [hnp] at hR
 have hwh : W * H = (nP : Int) := by omega
 rw [hnp] at HBN
 have HR := A' hR
 have HNP := A' (show wrap64 (W * H) = (nP : Int) by rw [hwh, wrap_id] <;> omega)
 have hnP : nP ≤ 1000000 := by omega
 clear hR hnp hwh
 go_wp2_with (fail)
 have HW7d := A' (show w.heap.size ≤ W7.drew.heap.size ∧ Below W2.heap.size W2 W7.drew from ⟨Nat.le_trans HM2.out.size (below_drew HD7.out).size, below_drew HD7.out⟩)
 refine start_ (n := 10) (S := fun w' => w'.cell? ⟨b8, 0, none⟩ = some (.int .i64 t) ∧ w'.cell? ⟨b8, 1, none⟩ = some (.int .i64 dx) ∧ w'.cell? ⟨b8, 2, none⟩ = some (.int .i64 dy) ∧ w'.cell? ⟨b8, 3, none⟩ = some (.bool ty) ∧ w'.cell? ⟨b8, 4, none⟩ = some (.int .i64 kd) ∧ w'.cell? ⟨b11, 0, none⟩ = some (.int .i64 RW) ∧ w'.cell? ⟨b11, 1, none⟩ = some (.int .i64 RH) ∧ w'.cell? ⟨b11, 2, none⟩ = some (.slice AR RP.length cR)) (ds := []) #[false, false, false, false, false, false, false, false, false, false] (by kernel_rfl) rfl rfl ⟨(blk_cell (blk_below HZ8.out HW7d.out.2) 0).trans rfl, (blk_cell (blk_below HZ8.out HW7d.out.2) 1).trans rfl, (blk_cell (blk_below HZ8.out HW7d.out.2) 2).trans rfl, (blk_cell (blk_below HZ8.out HW7d.out.2) 3).trans rfl, (blk_cell (blk_below HZ8.out HW7d.out.2) 4).trans rfl, (blk_cell (blk_below HZ11.out HW7d.out.2) 0).trans rfl, (blk_cell (blk_below HZ11.out HW7d.out.2) 1).trans rfl, (blk_cell (blk_below HZ11.out HW7d.out.2) 2).trans rfl⟩ (fun hHeld => ?_)
 refine u' 1 56 (B' 10 2) ?_ rfl rfl (by kernel_rfl) (fun _ _ _ h => h) (.inl ⟨by rfl, ?_⟩) ?_ ?_ ?_; rotate_left; (intro w'; go_simp; with_reducible rfl); rotate_left; (simp only [Act.put, p1', p2', p3', i64_w, i32_w]; rfl)
 refine u' 2 57 (B' 10 6) ?_ rfl rfl (by kernel_rfl) (fun _ _ _ h => h) (.inl ⟨by rfl, ?_⟩) ?_ ?_ ?_; rotate_left; (intro w'; go_simp; with_reducible rfl); rotate_left; (simp only [Act.put, p1', p2', p3', i64_w, i32_w]; rfl)
 refine u' 3 58 (B' 10 14) ?_ rfl rfl (by kernel_rfl) (fun _ _ _ h => h) (.inl ⟨by rfl, ?_⟩) ?_ ?_ ?_; rotate_left; (intro w'; go_simp; with_reducible rfl); rotate_left; (simp only [Act.put, p1', p2', p3', i64_w, i32_w]; rfl)
 refine u' 4 59 (B' 10 30) ?_ rfl rfl (by kernel_rfl) (fun _ _ _ h => h) (.inl ⟨by rfl, ?_⟩) ?_ ?_ ?_; rotate_left; (intro w'; go_simp; with_reducible rfl); rotate_left; (simp only [Act.put, p1', p2', p3', i64_w, i32_w]; rfl)
 refine u' 5 60 (B' 10 62) ?_ rfl rfl (by kernel_rfl) (fun _ _ _ h => h) (.inl ⟨by rfl, ?_⟩) ?_ ?_ ?_; rotate_left; (intro w'; go_simp; with_reducible rfl); rotate_left; (simp only [Act.put, p1', p2', p3', i64_w, i32_w]; rfl)
 refine t' 0 55 (B' 10 63) ?_ rfl rfl (by kernel_rfl) (fun _ _ _ h => h) (.inl ⟨by rfl, ?_⟩) hHeld ?_ ?_ ?_; rotate_left; (rintro w' ⟨s0, s1, s2, s3, s4, s5, s6, s7⟩; go_simp; with_reducible rfl); rotate_left; (simp only [Act.put, p1', p2', p3', i64_w, i32_w]; rfl)
 refine t' 7 62 (B' 10 191) ?_ rfl rfl (by kernel_rfl) (fun _ _ _ h => h) (.inl ⟨by rfl, ?_⟩) hHeld ?_ ?_ ?_; rotate_left; (rintro w' ⟨s0, s1, s2, s3, s4, s5, s6, s7⟩; go_simp; with_reducible rfl); rotate_left; (simp only [Act.put, p1', p2', p3', i64_w, i32_w]; rfl)
 refine one_ (i := 6) (N := some 61) (B' 10 255) rfl rfl (by kernel_rfl) (by decide) (fun K hK => ?_)
 refine value_ (w1 := ?_) (v := ?_) (by rfl) rfl ?_ ?_
 rotate_left 2
 · refine make_step _ (.tmp 60) (.tmp 60) ?_ (wrap64 (W * H)) nP ?_ ?_ HNP.out hnP <;> rfl
 obtain ⟨gp, hgp⟩ : ∃ x, W7.drew.heap.size = x := ⟨_, rfl⟩
 obtain ⟨W8, hW8⟩ : ∃ x, W7.drew.alloc (.cells (zcells nP) 5) = x := ⟨_, rfl⟩
 have HROW := A' (show Kd.R (Kd.int .u8) 5 W8 w.heap.size (fun k => k = gp) (.slice (some ⟨gp, 0, none⟩) nP nP) (List.replicate nP 0) from hW8 ▸ hgp ▸ made_row W7.drew w.heap.size nP HW7d.out.1 hnP)
 have HD8 := A' (show Below W2.heap.size W2 W8 from hW8 ▸ below_alloc HW7d.out.2 _)
 have HGP := A' (show W7.drew.heap.size ≤ gp ∧ gp < W8.heap.size from ⟨by omega, by rw [← hW8, World.size_alloc]; omega⟩)
 rw [hgp, hW8]
 clear hW8 hgp
 refine hK.out _ _ ⟨(blk_cell (blk_below HZ8.out HD8.out) 0).trans rfl, (blk_cell (blk_below HZ8.out HD8.out) 1).trans rfl, (blk_cell (blk_below HZ8.out HD8.out) 2).trans rfl, (blk_cell (blk_below HZ8.out HD8.out) 3).trans rfl, (blk_cell (blk_below HZ8.out HD8.out) 4).trans rfl, (blk_cell (blk_below HZ11.out HD8.out) 0).trans rfl, (blk_cell (blk_below HZ11.out HD8.out) 1).trans rfl, (blk_cell (blk_below HZ11.out HD8.out) 2).trans rfl⟩ (fun hHeld => ?_)
 clear hK K
 refine norm_ (a' := ?_) ?_ ?_; rotate_left; (show Act.put _ (some 61) _ = _; simp only [Act.put, p1', p2', p3', i64_w, i32_w]; rfl)
 refine one_ (i := 8) (N := some 63) (B' 10 511) rfl rfl (by kernel_rfl) (by decide) (fun K hK => ?_)
 refine goes_ Try.func58 (by kernel_rfl) rfl #[.agg #[.int .i64 t, .int .i64 dx, .int .i64 dy, .bool ty, .int .i64 kd], .int .i64 W, .int .i64 H, .slice (some ⟨gp, 0, none⟩) nP nP, .agg #[.int .i64 RW, .int .i64 RH, .slice AR RP.length cR]] (by rfl) rfl rfl (by simp only [List.map_toArray, List.map_cons, List.map_nil]; rfl) ?_
 with_reducible refine (newRegion_calls _ t dx dy ty kd W H _ RW RH _ (some ⟨gp, 0, none⟩) nP nP AR RP.length cR rfl rfl).mono ?_
 rintro e W9 ⟨gr, rfl, hgr, hZg, hb⟩
 refine ⟨_, rfl, ?_⟩
 have HD9 := A' (below_then HD8.out HD8.out.size hb)
 have HROW := A' (Kd.R_below HROW.out hb)
 have HGR := A' hgr
 have HZG := A' hZg
 clear hb hgr hZg
 refine hK.out _ _ ⟨(blk_cell (blk_below HZ8.out HD9.out) 0).trans rfl, (blk_cell (blk_below HZ8.out HD9.out) 1).trans rfl, (blk_cell (blk_below HZ8.out HD9.out) 2).trans rfl, (blk_cell (blk_below HZ8.out HD9.out) 3).trans rfl, (blk_cell (blk_below HZ8.out HD9.out) 4).trans rfl, (blk_cell (blk_below HZ11.out HD9.out) 0).trans rfl, (blk_cell (blk_below HZ11.out HD9.out) 1).trans rfl, (blk_cell (blk_below HZ11.out HD9.out) 2).trans rfl⟩ (fun hHeld => ?_)
 clear hK K
 refine norm_ (a' := ?_) ?_ ?_; rotate_left; (show Act.put _ (some 63) _ = _; simp only [Act.put, p1', p2', p3', i64_w, i32_w]; rfl)
 refine u' 9 18 (B' 10 1023) ?_ rfl rfl (by kernel_rfl) (fun _ _ _ h => h) (.inl ⟨by rfl, ?_⟩) ?_ ?_ ?_; rotate_left; (intro w'; go_simp; with_reducible rfl); rotate_left; (simp only [Act.put, p1', p2', p3', i64_w, i32_w]; rfl)
 refine done_ (by kernel_rfl) ?_
 have HW12 := A' (Nat.le_trans HM2.out.size HD9.out.size)
 obtain ⟨T, hT⟩ : ∃ T : Nat → Prop, (fun k => k = gp) = T := ⟨_, rfl⟩
 have HT2 := A' (show ∀ k, T k → k = gp from hT ▸ fun k hk => hk)
 have hgp1 : W2.heap.size ≤ gp := Nat.le_trans HW7d.out.2.size HGP.out.1
 have hwg : w.heap.size ≤ gp := Nat.le_trans HM2.out.size hgp1
 have HST := A' (show ∀ k, T k → ¬ S k from fun k hk hs => by have := HT2.out k hk; have := HS.out k hs; omega)
 have HS9 := A' (show ∀ k, S k → k < W9.heap.size from fun k hk => Nat.lt_of_lt_of_le (HS.out k hk) HW12.out)
 have HX := A' (show GX DecAt W9 S T w.heap.size gd s (.slice (some ⟨gp, 0, none⟩) nP nP) (List.replicate nP 0) W9 from ⟨HD.out.below HD9.out, hT ▸ HROW.out, Mods.refl _ _, HOK.out⟩)
 have HM9 := A' (show ∀ V, Mods W9 V (fun k => S k ∨ T k) → Mods w V S from fun V hV => (HM2.out.below HD9.out).then_ hV (fun k hk => hk.imp id (fun h => by rw [HT2.out k h]; exact hwg)))
 have HNO := A' (show ∀ b, w.heap.size ≤ b → b ≠ gp → ¬ (S b ∨ T b) from fun b h1 h2 hk => hk.elim (fun h => by have := HS.out b h; omega) (fun h => h2 (HT2.out b h)))
 have HZ12 := A' (show ∀ V, Mods W9 V (fun k => S k ∨ T k) → V.heap[b12]? = some (.cells #[.int .i64 0, .int .i64 0, .slice none 0 0] 31 (0, 0)) from fun V hV => blk_mods (blk_below HZ12.out HD9.out) hV (HNO.out _ HB12.out.1 (by have := HB12.out.2; have := HS1.out; omega)))
 have HZG := A' (show ∀ V, Mods W9 V (fun k => S k ∨ T k) → V.heap[gr]? = some (.cells (regc t dx dy ty kd W H (.slice (some ⟨gp, 0, none⟩) nP nP) RW RH (.slice AR RP.length cR)) 109 (0, 0)) from fun V hV => blk_mods HZG.out hV (HNO.out _ (by have := HGR.out; have := HGP.out.2; omega) (by have := HGR.out; have := HGP.out.2; omega)))
 obtain ⟨R1, hR1⟩ : ∃ x, rowsD q H.toNat 0 s (List.replicate nP 0) = x := ⟨_, rfl⟩
 have hR := HR.out
 rw [hR1] at hR
 have HR1 := A' (show rowsD q (H.toNat - 0) 0 s (List.replicate nP 0) = R1 from hR1)
 have HR := A' hR
 have HL0 := A' (show (List.replicate nP (0 : Int)).length = nP from List.length_replicate)
 clear hR hR1 hT HROW hwg HD3 HD4 HD4a HD5 HD5' HD6 HD7 HD8 HM6
 go_wp2_with (fail)
 go_loopw [65] (fun j wr => ∃ (k : Nat) (s1 : DS) (P1 : List Int), k ≤ H.toNat ∧ j = .int .i64 k ∧ Aside0 (rowsD q (H.toNat - k) k s1 P1 = R1) ∧ Aside0 (P1.length = nP) ∧ Aside0 (Bm W H P1) ∧ Aside0 (GX DecAt W9 S T w.heap.size gd s1 (.slice (some ⟨gp, 0, none⟩) nP nP) P1 wr)) (fun j _ => H.toNat - (intOf j).toNat)
 case atStart => exact ⟨0, s, _, Nat.zero_le _, rfl, HR1, HL0, HBN, HX⟩
 clear HR1 HL0 HBN HX
 case round =>
  obtain ⟨k, s1, P1, hk, rfl, HX1, HL, HBM, HX⟩ := hrel
  by_cases hlt : k < H.toNat
  · have hltk : (k : Int) < H := by omega
    have hX := HX1.out
    rw [show H.toNat - k = (H.toNat - (k + 1)) + 1 by omega] at hX
    unfold rowsD at hX
    obtain ⟨⟨s3, P3, er⟩, hrr⟩ : ∃ r, rowH q (k : Int) s1 P1 = r := ⟨_, rfl⟩
    have hl3 := (rowH_len q (k : Int) s1 P1).1
    have hb3 := rowH_bm q (by rw [HQQ.out]; exact HBR.out) (k : Int) s1 P1 (by rw [HQQ.out]; exact HBM.out)
    rw [hrr] at hX hl3 hb3
    simp only at hX hl3 hb3
    have HX2 := A' hX
    have HRR := A' hrr
    have HL3 := A' (hl3.trans HL.out)
    have HB3 := A' (show Bm W H P3 by rw [HQQ.out] at hb3; exact hb3)
    clear hX hrr hl3 hb3 HX1
    go_wp2_with (fail)
    refine (rrow_calls W9 wr S T w.heap.size gd gr s1 base t dx dy ty kd W H (some ⟨gp, 0, none⟩) nP nP P1 RW RH AR cR RP k HZG.out (fun V hV => HA.out V (HM9.out V hV)) hcR HS9.out HST.out HX.out HL.out HBM.out HBR.out HT.out (by have := HOO.out; omega) (by have := HOO.out; omega) ⟨hff.1, by have := ctxs_range t; omega⟩ hltk q HQQ.out _ HRR.out).mono ?_
    rintro e V2 ⟨rfl, hx⟩
    have HX := A' hx
    clear hx HRR
    have hX := HX2.out
    clear HX2
    simp only
    by_cases her : er = 0
    · rw [if_pos her] at hX
      have e1 : (er != 0) = false := by simp [her]
      have HX2 := A' hX
      clear hX her
      go_wp2_with (fail)
      exact ⟨⟨k + 1, s3, P3, by omega, by go_num, HX2, HL3, HB3, HX⟩, by simp [intOf]; omega⟩
    · rw [if_neg her] at hX
      have e1 : (er != 0) = true := bne_iff_ne.mpr her
      have hR := HR.out
      rw [← hX] at hR
      simp only at hR
      rw [if_neg her] at hR
      subst hR
      have hz := HZ12.out _ HX.out.m
      have m0 : V2.cell? ⟨b12, 0, none⟩ = some (.int .i64 0) := (blk_cell hz 0).trans rfl
      have m1 : V2.cell? ⟨b12, 1, none⟩ = some (.int .i64 0) := (blk_cell hz 1).trans rfl
      have m2 : V2.cell? ⟨b12, 2, none⟩ = some (.slice none 0 0) := (blk_cell hz 2).trans rfl
      have k0 := blk_frozen hz 0
      have k1 := blk_frozen hz 1
      have k2 := blk_frozen hz 2
      have HZW := A' (zset3 hz (.int .i64 0) (.int .i64 0) (.slice none 0 0))
      have hP := GPost.bad (At := DecAt) (w := w) (S := S) (gd := gd) (s := s3) (b := b12) er ⟨HX.out.d, HM9.out _ HX.out.m, HX.out.ok⟩ HS.out HB12.out.1
      clear hX her hz
      go_wp2_with (fail)
      exact bodyPost_ret (gret36 HZW.out rfl rfl) rfl hP
  · have hX := HX1.out
    rw [show H.toNat - k = 0 by omega] at hX
    simp only [rowsD] at hX
    have hR := HR.out
    rw [← hX] at hR
    simp only [if_true] at hR
    subst hR
    have hz := HZ12.out _ HX.out.m
    have m0 : wr.cell? ⟨b12, 0, none⟩ = some (.int .i64 0) := (blk_cell hz 0).trans rfl
    have m1 : wr.cell? ⟨b12, 1, none⟩ = some (.int .i64 0) := (blk_cell hz 1).trans rfl
    have m2 : wr.cell? ⟨b12, 2, none⟩ = some (.slice none 0 0) := (blk_cell hz 2).trans rfl
    have k0 := blk_frozen hz 0
    have k1 := blk_frozen hz 1
    have k2 := blk_frozen hz 2
    have HZW := A' (zset3 hz (.int .i64 W) (.int .i64 H) (.slice (some ⟨gp, 0, none⟩) nP nP))
    have c7 : wr.cell? ⟨gr, 7, none⟩ = some (.slice (some ⟨gp, 0, none⟩) nP nP) := (blk_cell (HZG.out _ HX.out.m) 7).trans rfl
    have hP : GPost DecAt w S gd (s1, (W, H, P1), 0) (.returned (.tuple #[.agg #[.int .i64 W, .int .i64 H, .slice (some ⟨gp, 0, none⟩) nP nP], .int .i64 0])) (((wr.setCell ⟨b12, 0, none⟩ (.int .i64 W)).setCell ⟨b12, 1, none⟩ (.int .i64 H)).setCell ⟨b12, 2, none⟩ (.slice (some ⟨gp, 0, none⟩) nP nP)) := by
     have hne : ∀ k, T k → k ≠ b12 := fun k hk he => by have := HT2.out k hk; have := HB12.out.2; have := HS1.out; omega
     have hp := Kd.R_far (p := ⟨b12, 2, none⟩) (Kd.R_far (p := ⟨b12, 1, none⟩) (Kd.R_far (p := ⟨b12, 0, none⟩) HX.out.p hne (.int .i64 W)) hne (.int .i64 H)) hne (.slice (some ⟨gp, 0, none⟩) nP nP)
     have hl := HL.out
     refine ⟨some ⟨gp, 0, none⟩, nP, by rw [show P1.length = nP from hl], by rw [show P1.length = nP from hl]; exact Kd.R_mono hp (fun _ _ => trivial), ?_⟩
     exact (((⟨HX.out.d, HM9.out _ HX.out.m, HX.out.ok⟩ : IS DecAt w S gd s1 wr).set HS.out _ HB12.out.1 _).set HS.out _ HB12.out.1 _).set HS.out _ HB12.out.1 _
    clear hX hz
    go_wp2_with (fail)
    exact bodyPost_ret (gret36 HZW.out rfl rfl) rfl hP
end Go.Proofs.Ytkfejicdjpffcaa.Rgt
namespace Go.Proofs.Ytkfejicdjpffcaa.Rrg
open Go Go.RowKit YtkfejicdjpffcaaW PrintWords PrintLast PrintMore U Aid HandAid Cod1 Cod2 Cod3 Ytkfejicdjpffcaa.Mod NewRef Enc Mods EncAt Put End Snc Dec Get DecNew RefAt RDec RDecNew Isk Pse Rpx Rva Rfl Rcx Rty Rev Rdv Rrw Rmk Rgt
theorem gret38 {W : World} {b : Nat} {x y err : Int} {A : Option Addr} {n c : Nat} {tmps : Array Value} (hz : W.heap[b]? = some (.cells #[.int .i64 x, .int .i64 y, .slice A n c] 31 (0, 0))) (h2 : tmps.getD 12 undef = .pointer (some ⟨b, 0, none⟩)) (h3 : tmps.getD 13 undef = .int .i64 err) :
 (results Try.f38 tmps).run Try.prog W = .ok (.tuple #[.agg #[.int .i64 x, .int .i64 y, .slice A n c], .int .i64 err]) W := by
 have y0 : W.cell? ⟨b, 0, none⟩ = some (.int .i64 x) := (blk_cell hz 0).trans rfl
 have y1 : W.cell? ⟨b, 1, none⟩ = some (.int .i64 y) := (blk_cell hz 1).trans rfl
 have y2 : W.cell? ⟨b, 2, none⟩ = some (.slice A n c) := (blk_cell hz 2).trans rfl
 have hu := Try.underlying31
 rw [results_cell_tmp rfl, h2, h3]
 go_simp
theorem asked_get (t dx dy : Int) (ty : Bool) (kd W H : Int) (RW RH : Int) (RP : List Int) (base kind : Int) (st : List Int) (hn : st.length ≤ 8192) : incunableref08_asked.f t dx dy ty kd (okS W H && okB RW RH RP) base kind st = some (getErr ⟨t, dx, dy, ty, W, H, RW, RH, RP, base⟩ kd st.length) := by
 rw [asked_eq t dx dy ty kd _ base kind st hn]
 unfold getErr
 simp only [Bool.and_eq_true]
set_option maxHeartbeats 8000000 in
set_option maxRecDepth 100000 in
theorem refget_calls (w : World) (S : Nat → Prop) (gd : Nat) (s : DS) (base t dx dy : Int) (ty : Bool) (kd W H : Int) (RW RH : Int) (AR : Option Addr) (cR : Nat) (RP : List Int) (hE : RDecAt w S gd s) (hS : ∀ k, S k → k < w.heap.size) (hok : s.ok) (hA : ∀ V, Mods w V S → Kd.C (Kd.int .u8) V AR RP.length RP) (hcR : RP.length ≤ cR) (hbR : Bytes RP) (q : RQ) (hq : q = ⟨t, dx, dy, ty, W, H, RW, RH, RP, base⟩) (R : DS × (Int × Int × List Int) × Int) (hR : getD q kd s = R) :
 Calls Try.prog 38 #[.pointer (some ⟨gd, 0, none⟩), .int .i64 base, .agg #[.int .i64 t, .int .i64 dx, .int .i64 dy, .bool ty, .int .i64 kd], .int .i64 W, .int .i64 H, .agg #[.int .i64 RW, .int .i64 RH, .slice AR RP.length cR]] w (GPost RDecAt w S gd R) := by
 have HA := A' hA
 have HS := A' hS
 have HbR := A' hbR
 have HE := A' hE
 have HQQ := A' hq
 have HQF := A' (show ∀ x y, q.flat x y = flatP RW RH RP (x - dx) (y - dy) from fun x y => by rw [hq]; rfl)
 have HQC := A' (show ∀ P2 x y, q.base + q.ctx P2 x y = base + ctxP t dx dy W H P2 RW RH RP x y from fun P2 x y => by rw [hq]; rfl)
 have HQI := A' (show ∀ x y : Int, (y * q.W + x).toNat = (y * W + x).toNat from fun x y => by rw [hq])
 have hst : s.st.length ≤ 8192 := hok.m.2.1
 have hmR : RP.length ≤ 9223372036854775807 := Kd.C_max (hA w (Mods.refl w S))
 have HOK := A' hok
 obtain ⟨ER, hER⟩ : ∃ x, getErr q kd s.st.length = x := ⟨_, rfl⟩
 have hask := asked_get t dx dy ty kd W H RW RH RP base s.kind s.st hst
 rw [← hq, hER] at hask
 have HER := A' hER
 have hq1 : q.W = W := by rw [hq]
 have hq2 : q.H = H := by rw [hq]
 unfold getD at hR
 rw [hER, hq1, hq2] at hR
 have HR := A' hR
 obtain ⟨vs, hvs⟩ : ∃ x, okS W H = x := ⟨_, rfl⟩
 obtain ⟨vr, hvr⟩ : ∃ x, okB RW RH RP = x := ⟨_, rfl⟩
 rw [hvs, hvr] at hask
 have HVS := A' hvs
 have HIR0 := A' (show ∀ V, Mods w V S → Calls Try.prog 22 #[.agg #[.int .i64 RW, .int .i64 RH, .slice AR RP.length cR]] V fun e V' => e = .returned (.bool vr) ∧ Below V.heap.size V V' from fun V hV => by
  obtain ⟨K1, hK1⟩ := Ev.rounds (isbitmap_ev RW RH RP hmR)
  rw [hvr] at hK1
  exact incunableref06_IsBitmap.calls K1 RW RH AR cR RP _ _ (hA _ hV) hcR hK1)
 have hu1 := Try.underlying125
 have hu3 := Try.underlying23
 have hu4 := Try.underlying31
 have hu5 := Try.underlying45
 obtain ⟨A, c, vo, hRR⟩ := hE
 have HRR0 := A' hRR
 clear hRR hA hS hbR hok hR hER hq hvs hvr hq1 hq2
 go_enter Try.func38, Try.ntmps38
 go_wp2_with (fail)
 obtain ⟨b12, hb12⟩ : ∃ x, w.heap.size + 1 + 1 = x := ⟨_, rfl⟩
 obtain ⟨b11, hb11⟩ : ∃ x, w.heap.size + 1 = x := ⟨_, rfl⟩
 obtain ⟨b8, hb8⟩ : ∃ x, w.heap.size = x := ⟨_, rfl⟩
 obtain ⟨W1, hW1⟩ : ∃ x, ((w.alloc (.cells #[.int .i64 t, .int .i64 dx, .int .i64 dy, .bool ty, .int .i64 kd] 23)).alloc (.cells #[.int .i64 RW, .int .i64 RH, .slice AR RP.length cR] 31)).alloc (.cells #[.int .i64 0, .int .i64 0, .slice none 0 0] 31) = x := ⟨_, rfl⟩
 have HB1 := A' (show Below w.heap.size w W1 from hW1 ▸ below_alloc (below_alloc (below_alloc (Below.refl _ _) _) _) _)
 have HZ12 := A' (show W1.heap[b12]? = some (.cells #[.int .i64 0, .int .i64 0, .slice none 0 0] 31 (0, 0)) by
  have h := heap_new ((w.alloc (.cells #[.int .i64 t, .int .i64 dx, .int .i64 dy, .bool ty, .int .i64 kd] 23)).alloc (.cells #[.int .i64 RW, .int .i64 RH, .slice AR RP.length cR] 31)) (.cells #[.int .i64 0, .int .i64 0, .slice none 0 0] 31)
  rw [World.size_alloc, World.size_alloc, hb12, hW1] at h
  exact h)
 have HZ11 := A' (show W1.heap[b11]? = some (.cells #[.int .i64 RW, .int .i64 RH, .slice AR RP.length cR] 31 (0, 0)) by
  have h := heap_new (w.alloc (.cells #[.int .i64 t, .int .i64 dx, .int .i64 dy, .bool ty, .int .i64 kd] 23)) (.cells #[.int .i64 RW, .int .i64 RH, .slice AR RP.length cR] 31)
  rw [World.size_alloc, hb11] at h
  rw [← hW1]
  exact blk_alloc h _)
 have HZ8 := A' (show W1.heap[b8]? = some (.cells #[.int .i64 t, .int .i64 dx, .int .i64 dy, .bool ty, .int .i64 kd] 23 (0, 0)) by
  have h := heap_new w (.cells #[.int .i64 t, .int .i64 dx, .int .i64 dy, .bool ty, .int .i64 kd] 23)
  rw [hb8] at h
  rw [← hW1]
  exact blk_alloc (blk_alloc h _) _)
 have HGE := A' (show w.heap.size ≤ b8 ∧ w.heap.size ≤ b11 ∧ w.heap.size ≤ b12 by omega)
 have HLT := A' (show b8 < W1.heap.size ∧ b11 < W1.heap.size ∧ b12 < W1.heap.size from ⟨blk_lt HZ8.out, blk_lt HZ11.out, blk_lt HZ12.out⟩)
 rw [hb12, hb11, hb8, hW1]
 clear hb12 hb11 hb8 hW1
 have HIR := A' (show ∀ V, Below W1.heap.size W1 V → Calls Try.prog 22 #[.agg #[.int .i64 RW, .int .i64 RH, .slice AR RP.length cR]] V fun e V' => e = .returned (.bool vr) ∧ Below V.heap.size V V' from fun V hV => HIR0.out V ((Mods.of_below HB1.out S).below hV))
 have HIS := A' (show ∀ V, Below W1.heap.size W1 V → IS RDecAt w S gd s V from fun V hV => ⟨HE.out.below (below_then HB1.out HB1.out.size hV), (Mods.of_below HB1.out S).below hV, HOK.out⟩)
 have HRR := A' (HRR0.out.below HB1.out)
 have HD0 := A' (below_drew (Below.refl W1.heap.size W1))
 clear HIR0 HRR0
 cases vs
 · rw [Bool.false_and] at hask
   have HAS := A' hask
   clear hask
   refine start_ (n := 15) (S := fun w' => w'.cell? ⟨b8, 0, none⟩ = some (.int .i64 t) ∧ w'.cell? ⟨b8, 1, none⟩ = some (.int .i64 dx) ∧ w'.cell? ⟨b8, 2, none⟩ = some (.int .i64 dy) ∧ w'.cell? ⟨b8, 3, none⟩ = some (.bool ty) ∧ w'.cell? ⟨b8, 4, none⟩ = some (.int .i64 kd) ∧ w'.cell? ⟨b11, 0, none⟩ = some (.int .i64 RW) ∧ w'.cell? ⟨b11, 1, none⟩ = some (.int .i64 RH) ∧ w'.cell? ⟨b11, 2, none⟩ = some (.slice AR RP.length cR) ∧ w'.cell? ⟨gd, 0, none⟩ = some (.int .i64 s.kind) ∧ w'.cell? ⟨gd, 1, none⟩ = some (.slice A s.st.length c)) (ds := []) #[false, false, false, false, false, false, false, false, false, false, false, false, false, false, false] (by kernel_rfl) rfl rfl ⟨(blk_cell (blk_below HZ8.out HD0.out) 0).trans rfl, (blk_cell (blk_below HZ8.out HD0.out) 1).trans rfl, (blk_cell (blk_below HZ8.out HD0.out) 2).trans rfl, (blk_cell (blk_below HZ8.out HD0.out) 3).trans rfl, (blk_cell (blk_below HZ8.out HD0.out) 4).trans rfl, (blk_cell (blk_below HZ11.out HD0.out) 0).trans rfl, (blk_cell (blk_below HZ11.out HD0.out) 1).trans rfl, (blk_cell (blk_below HZ11.out HD0.out) 2).trans rfl, (HRR.out.below HD0.out).c0, (HRR.out.below HD0.out).c1⟩ (fun hHeld => ?_)
   refine u' 1 30 (B' 15 2) ?_ rfl rfl (by kernel_rfl) (fun _ _ _ h => h) (.inl ⟨by rfl, ?_⟩) ?_ ?_ ?_; rotate_left; (intro w'; go_simp; with_reducible rfl); rotate_left; (simp only [Act.put, p1', p2', p3', i64_w, i32_w]; rfl)
   refine u' 2 31 (B' 15 6) ?_ rfl rfl (by kernel_rfl) (fun _ _ _ h => h) (.inl ⟨by rfl, ?_⟩) ?_ ?_ ?_; rotate_left; (intro w'; go_simp; with_reducible rfl); rotate_left; (simp only [Act.put, p1', p2', p3', i64_w, i32_w]; rfl)
   refine u' 8 37 (B' 15 262) ?_ rfl rfl (by kernel_rfl) (fun _ _ _ h => h) (.inl ⟨by rfl, ?_⟩) ?_ ?_ ?_; rotate_left; (intro w'; go_simp; with_reducible rfl); rotate_left; (simp only [Act.put, p1', p2', p3', i64_w, i32_w]; rfl)
   refine u' 9 38 (B' 15 774) ?_ rfl rfl (by kernel_rfl) (fun _ _ _ h => h) (.inl ⟨by rfl, ?_⟩) ?_ ?_ ?_; rotate_left; (intro w'; go_simp; with_reducible rfl); rotate_left; (simp only [Act.put, p1', p2', p3', i64_w, i32_w]; rfl)
   refine u' 10 39 (B' 15 1798) ?_ rfl rfl (by kernel_rfl) (fun _ _ _ h => h) (.inl ⟨by rfl, ?_⟩) ?_ ?_ ?_; rotate_left; (intro w'; go_simp; with_reducible rfl); rotate_left; (simp only [Act.put, p1', p2', p3', i64_w, i32_w]; rfl)
   refine u' 11 40 (B' 15 3846) ?_ rfl rfl (by kernel_rfl) (fun _ _ _ h => h) (.inl ⟨by rfl, ?_⟩) ?_ ?_ ?_; rotate_left; (intro w'; go_simp; with_reducible rfl); rotate_left; (simp only [Act.put, p1', p2', p3', i64_w, i32_w]; rfl)
   refine t' 0 29 (B' 15 3847) ?_ rfl rfl (by kernel_rfl) (fun _ _ _ h => h) (.inl ⟨by rfl, ?_⟩) hHeld ?_ ?_ ?_; rotate_left; (rintro w' ⟨s0, s1, s2, s3, s4, s5, s6, s7, s8, s9⟩; go_simp; with_reducible rfl); rotate_left; (simp only [Act.put, p1', p2', p3', i64_w, i32_w]; rfl)
   refine t' 12 41 (B' 15 7943) ?_ rfl rfl (by kernel_rfl) (fun _ _ _ h => h) (.inl ⟨by rfl, ?_⟩) hHeld ?_ ?_ ?_; rotate_left; (rintro w' ⟨s0, s1, s2, s3, s4, s5, s6, s7, s8, s9⟩; go_simp; with_reducible rfl); rotate_left; (simp only [Act.put, p1', p2', p3', i64_w, i32_w]; rfl)
   refine one_ (i := 3) (N := some 32) (B' 15 7951) rfl rfl (by kernel_rfl) (by decide) (fun K hK => ?_)
   refine goes_ Try.func49 (by kernel_rfl) rfl #[.int .i64 W, .int .i64 H] (by rfl) rfl rfl (by simp only [List.map_toArray, List.map_cons, List.map_nil]; rfl) ?_
   with_reducible refine (incunableref06_IsSize.calls W H false _ (by rw [issize_eq, HVS.out])).mono ?_
   rintro e X1 ⟨rfl, hdr⟩
   refine ⟨_, rfl, ?_⟩
   have HD1 := A' (below_then HD0.out HD0.out.size hdr.below)
   clear hdr
   refine hK.out _ _ ⟨(blk_cell (blk_below HZ8.out HD1.out) 0).trans rfl, (blk_cell (blk_below HZ8.out HD1.out) 1).trans rfl, (blk_cell (blk_below HZ8.out HD1.out) 2).trans rfl, (blk_cell (blk_below HZ8.out HD1.out) 3).trans rfl, (blk_cell (blk_below HZ8.out HD1.out) 4).trans rfl, (blk_cell (blk_below HZ11.out HD1.out) 0).trans rfl, (blk_cell (blk_below HZ11.out HD1.out) 1).trans rfl, (blk_cell (blk_below HZ11.out HD1.out) 2).trans rfl, (HRR.out.below HD1.out).c0, (HRR.out.below HD1.out).c1⟩ (fun hHeld => ?_)
   clear hK K
   refine norm_ (a' := ?_) ?_ ?_; rotate_left; (show Act.put _ (some 32) _ = _; simp only [Act.put, p1', p2', p3', i64_w, i32_w]; rfl)
   refine u' 4 33 (B' 15 7967) ?_ rfl rfl (by kernel_rfl) (fun _ _ _ h => h) (.inl ⟨by rfl, ?_⟩) ?_ ?_ ?_; rotate_left; (intro w'; go_simp; with_reducible rfl); rotate_left; (simp only [Act.put, p1', p2', p3', i64_w, i32_w]; rfl)
   refine pure_ (i := 5) (N := some 34) (v := undef) (a' := ?_) (B' 15 7999) rfl rfl (by kernel_rfl) (fun _ _ _ h => h) (Or.inr ⟨by rfl, rfl⟩) ?_ ?_
   rotate_left
   · simp only [Act.put, p1', p2', p3', i64_w, i32_w]
     rfl
   refine pure_ (i := 6) (N := some 35) (v := undef) (a' := ?_) (B' 15 8063) rfl rfl (by kernel_rfl) (fun _ _ _ h => h) (Or.inr ⟨by rfl, rfl⟩) ?_ ?_
   rotate_left
   · simp only [Act.put, p1', p2', p3', i64_w, i32_w]
     rfl
   refine u' 7 36 (B' 15 8191) ?_ rfl rfl (by kernel_rfl) (fun _ _ _ h => h) (.inl ⟨by rfl, ?_⟩) ?_ ?_ ?_; rotate_left; (intro w'; go_simp; with_reducible rfl); rotate_left; (simp only [Act.put, p1', p2', p3', i64_w, i32_w]; rfl)
   refine one_ (i := 13) (N := some 42) (B' 15 16383) rfl rfl (by kernel_rfl) (by decide) (fun K hK => ?_)
   refine goes_ Try.func68 (by kernel_rfl) rfl #[.agg #[.int .i64 t, .int .i64 dx, .int .i64 dy, .bool ty, .int .i64 kd], .bool false, .int .i64 base, .agg #[.int .i64 s.kind, .slice A s.st.length c]] (by rfl) rfl rfl (by simp only [List.map_toArray, List.map_cons, List.map_nil]; rfl) ?_
   with_reducible refine (Hsm.asked_calls t dx dy ty kd false base s.kind A c s.st hst ER (Option.some.inj ((asked_eq t dx dy ty kd false base s.kind s.st hst).symm.trans HAS.out)) _).mono ?_
   rintro e X3 ⟨rfl, hb⟩
   refine ⟨_, rfl, ?_⟩
   have HD3 := A' (below_then HD1.out HD1.out.size hb)
   clear hb
   refine hK.out _ _ ⟨(blk_cell (blk_below HZ8.out HD3.out) 0).trans rfl, (blk_cell (blk_below HZ8.out HD3.out) 1).trans rfl, (blk_cell (blk_below HZ8.out HD3.out) 2).trans rfl, (blk_cell (blk_below HZ8.out HD3.out) 3).trans rfl, (blk_cell (blk_below HZ8.out HD3.out) 4).trans rfl, (blk_cell (blk_below HZ11.out HD3.out) 0).trans rfl, (blk_cell (blk_below HZ11.out HD3.out) 1).trans rfl, (blk_cell (blk_below HZ11.out HD3.out) 2).trans rfl, (HRR.out.below HD3.out).c0, (HRR.out.below HD3.out).c1⟩ (fun hHeld => ?_)
   clear hK K
   refine norm_ (a' := ?_) ?_ ?_; rotate_left; (show Act.put _ (some 42) _ = _; simp only [Act.put, p1', p2', p3', i64_w, i32_w]; rfl)
   refine u' 14 14 (B' 15 32767) ?_ rfl rfl (by kernel_rfl) (fun _ _ _ h => h) (.inl ⟨by rfl, ?_⟩) ?_ ?_ ?_; rotate_left; (intro w'; go_simp; with_reducible rfl); rotate_left; (simp only [Act.put, p1', p2', p3', i64_w, i32_w]; rfl)
   refine done_ (by kernel_rfl) ?_
   have hbad : ER ≠ 0 := fun h => by have hz := getErr_zero (q := q) (kd := kd) (n := s.st.length) (HER.out.trans h); rw [HQQ.out] at hz; have := hz.2.1.symm.trans HVS.out; exact absurd this (by decide)
   have e1 : (ER != 0) = true := bne_iff_ne.mpr hbad
   have hR := HR.out
   rw [if_neg hbad] at hR
   subst hR
   clear hbad
   have hz := blk_below HZ12.out HD3.out
   have m0 : X3.cell? ⟨b12, 0, none⟩ = some (.int .i64 0) := (blk_cell hz 0).trans rfl
   have m1 : X3.cell? ⟨b12, 1, none⟩ = some (.int .i64 0) := (blk_cell hz 1).trans rfl
   have m2 : X3.cell? ⟨b12, 2, none⟩ = some (.slice none 0 0) := (blk_cell hz 2).trans rfl
   have k0 := blk_frozen hz 0
   have k1 := blk_frozen hz 1
   have k2 := blk_frozen hz 2
   have HZW := A' (zset3 hz (.int .i64 0) (.int .i64 0) (.slice none 0 0))
   have hP := GPost.bad (At := RDecAt) (w := w) (S := S) (gd := gd) (s := s) (b := b12) ER (HIS.out _ HD3.out) HS.out HGE.out.2.2
   clear hz
   go_wp2_with (fail)
   exact bodyPost_ret (gret38 HZW.out rfl rfl) rfl hP
 rw [Bool.true_and] at hask
 have HAS := A' hask
 clear hask
 refine start_ (n := 15) (S := fun w' => w'.cell? ⟨b8, 0, none⟩ = some (.int .i64 t) ∧ w'.cell? ⟨b8, 1, none⟩ = some (.int .i64 dx) ∧ w'.cell? ⟨b8, 2, none⟩ = some (.int .i64 dy) ∧ w'.cell? ⟨b8, 3, none⟩ = some (.bool ty) ∧ w'.cell? ⟨b8, 4, none⟩ = some (.int .i64 kd) ∧ w'.cell? ⟨b11, 0, none⟩ = some (.int .i64 RW) ∧ w'.cell? ⟨b11, 1, none⟩ = some (.int .i64 RH) ∧ w'.cell? ⟨b11, 2, none⟩ = some (.slice AR RP.length cR) ∧ w'.cell? ⟨gd, 0, none⟩ = some (.int .i64 s.kind) ∧ w'.cell? ⟨gd, 1, none⟩ = some (.slice A s.st.length c)) (ds := []) #[false, false, false, false, false, false, false, false, false, false, false, false, false, false, false] (by kernel_rfl) rfl rfl ⟨(blk_cell (blk_below HZ8.out HD0.out) 0).trans rfl, (blk_cell (blk_below HZ8.out HD0.out) 1).trans rfl, (blk_cell (blk_below HZ8.out HD0.out) 2).trans rfl, (blk_cell (blk_below HZ8.out HD0.out) 3).trans rfl, (blk_cell (blk_below HZ8.out HD0.out) 4).trans rfl, (blk_cell (blk_below HZ11.out HD0.out) 0).trans rfl, (blk_cell (blk_below HZ11.out HD0.out) 1).trans rfl, (blk_cell (blk_below HZ11.out HD0.out) 2).trans rfl, (HRR.out.below HD0.out).c0, (HRR.out.below HD0.out).c1⟩ (fun hHeld => ?_)
 refine u' 1 30 (B' 15 2) ?_ rfl rfl (by kernel_rfl) (fun _ _ _ h => h) (.inl ⟨by rfl, ?_⟩) ?_ ?_ ?_; rotate_left; (intro w'; go_simp; with_reducible rfl); rotate_left; (simp only [Act.put, p1', p2', p3', i64_w, i32_w]; rfl)
 refine u' 2 31 (B' 15 6) ?_ rfl rfl (by kernel_rfl) (fun _ _ _ h => h) (.inl ⟨by rfl, ?_⟩) ?_ ?_ ?_; rotate_left; (intro w'; go_simp; with_reducible rfl); rotate_left; (simp only [Act.put, p1', p2', p3', i64_w, i32_w]; rfl)
 refine u' 8 37 (B' 15 262) ?_ rfl rfl (by kernel_rfl) (fun _ _ _ h => h) (.inl ⟨by rfl, ?_⟩) ?_ ?_ ?_; rotate_left; (intro w'; go_simp; with_reducible rfl); rotate_left; (simp only [Act.put, p1', p2', p3', i64_w, i32_w]; rfl)
 refine u' 9 38 (B' 15 774) ?_ rfl rfl (by kernel_rfl) (fun _ _ _ h => h) (.inl ⟨by rfl, ?_⟩) ?_ ?_ ?_; rotate_left; (intro w'; go_simp; with_reducible rfl); rotate_left; (simp only [Act.put, p1', p2', p3', i64_w, i32_w]; rfl)
 refine u' 10 39 (B' 15 1798) ?_ rfl rfl (by kernel_rfl) (fun _ _ _ h => h) (.inl ⟨by rfl, ?_⟩) ?_ ?_ ?_; rotate_left; (intro w'; go_simp; with_reducible rfl); rotate_left; (simp only [Act.put, p1', p2', p3', i64_w, i32_w]; rfl)
 refine u' 11 40 (B' 15 3846) ?_ rfl rfl (by kernel_rfl) (fun _ _ _ h => h) (.inl ⟨by rfl, ?_⟩) ?_ ?_ ?_; rotate_left; (intro w'; go_simp; with_reducible rfl); rotate_left; (simp only [Act.put, p1', p2', p3', i64_w, i32_w]; rfl)
 refine t' 0 29 (B' 15 3847) ?_ rfl rfl (by kernel_rfl) (fun _ _ _ h => h) (.inl ⟨by rfl, ?_⟩) hHeld ?_ ?_ ?_; rotate_left; (rintro w' ⟨s0, s1, s2, s3, s4, s5, s6, s7, s8, s9⟩; go_simp; with_reducible rfl); rotate_left; (simp only [Act.put, p1', p2', p3', i64_w, i32_w]; rfl)
 refine t' 12 41 (B' 15 7943) ?_ rfl rfl (by kernel_rfl) (fun _ _ _ h => h) (.inl ⟨by rfl, ?_⟩) hHeld ?_ ?_ ?_; rotate_left; (rintro w' ⟨s0, s1, s2, s3, s4, s5, s6, s7, s8, s9⟩; go_simp; with_reducible rfl); rotate_left; (simp only [Act.put, p1', p2', p3', i64_w, i32_w]; rfl)
 refine one_ (i := 3) (N := some 32) (B' 15 7951) rfl rfl (by kernel_rfl) (by decide) (fun K hK => ?_)
 refine goes_ Try.func49 (by kernel_rfl) rfl #[.int .i64 W, .int .i64 H] (by rfl) rfl rfl (by simp only [List.map_toArray, List.map_cons, List.map_nil]; rfl) ?_
 with_reducible refine (incunableref06_IsSize.calls W H true _ (by rw [issize_eq, HVS.out])).mono ?_
 rintro e X1 ⟨rfl, hdr⟩
 refine ⟨_, rfl, ?_⟩
 have HD1 := A' (below_then HD0.out HD0.out.size hdr.below)
 clear hdr
 refine hK.out _ _ ⟨(blk_cell (blk_below HZ8.out HD1.out) 0).trans rfl, (blk_cell (blk_below HZ8.out HD1.out) 1).trans rfl, (blk_cell (blk_below HZ8.out HD1.out) 2).trans rfl, (blk_cell (blk_below HZ8.out HD1.out) 3).trans rfl, (blk_cell (blk_below HZ8.out HD1.out) 4).trans rfl, (blk_cell (blk_below HZ11.out HD1.out) 0).trans rfl, (blk_cell (blk_below HZ11.out HD1.out) 1).trans rfl, (blk_cell (blk_below HZ11.out HD1.out) 2).trans rfl, (HRR.out.below HD1.out).c0, (HRR.out.below HD1.out).c1⟩ (fun hHeld => ?_)
 clear hK K
 refine norm_ (a' := ?_) ?_ ?_; rotate_left; (show Act.put _ (some 32) _ = _; simp only [Act.put, p1', p2', p3', i64_w, i32_w]; rfl)
 refine u' 4 33 (B' 15 7967) ?_ rfl rfl (by kernel_rfl) (fun _ _ _ h => h) (.inl ⟨by rfl, ?_⟩) ?_ ?_ ?_; rotate_left; (intro w'; go_simp; with_reducible rfl); rotate_left; (simp only [Act.put, p1', p2', p3', i64_w, i32_w]; rfl)
 refine t' 5 34 (B' 15 7999) ?_ rfl rfl (by kernel_rfl) (fun _ _ _ h => h) (.inl ⟨by rfl, ?_⟩) hHeld ?_ ?_ ?_; rotate_left; (rintro w' ⟨s0, s1, s2, s3, s4, s5, s6, s7, s8, s9⟩; go_simp; with_reducible rfl); rotate_left; (simp only [Act.put, p1', p2', p3', i64_w, i32_w]; rfl)
 refine one_ (i := 6) (N := some 35) (B' 15 8063) rfl rfl (by kernel_rfl) (by decide) (fun K hK => ?_)
 refine goes_ Try.func22 (by kernel_rfl) rfl #[.agg #[.int .i64 RW, .int .i64 RH, .slice AR RP.length cR]] (by rfl) rfl rfl (by simp only [List.map_toArray, List.map_cons, List.map_nil]; rfl) ?_
 with_reducible refine (HIR.out _ HD1.out).mono ?_
 rintro e X2 ⟨rfl, hb⟩
 refine ⟨_, rfl, ?_⟩
 have HD2 := A' (below_then HD1.out HD1.out.size hb)
 clear hb
 refine hK.out _ _ ⟨(blk_cell (blk_below HZ8.out HD2.out) 0).trans rfl, (blk_cell (blk_below HZ8.out HD2.out) 1).trans rfl, (blk_cell (blk_below HZ8.out HD2.out) 2).trans rfl, (blk_cell (blk_below HZ8.out HD2.out) 3).trans rfl, (blk_cell (blk_below HZ8.out HD2.out) 4).trans rfl, (blk_cell (blk_below HZ11.out HD2.out) 0).trans rfl, (blk_cell (blk_below HZ11.out HD2.out) 1).trans rfl, (blk_cell (blk_below HZ11.out HD2.out) 2).trans rfl, (HRR.out.below HD2.out).c0, (HRR.out.below HD2.out).c1⟩ (fun hHeld => ?_)
 clear hK K
 refine norm_ (a' := ?_) ?_ ?_; rotate_left; (show Act.put _ (some 35) _ = _; simp only [Act.put, p1', p2', p3', i64_w, i32_w]; rfl)
 refine u' 7 36 (B' 15 8191) ?_ rfl rfl (by kernel_rfl) (fun _ _ _ h => h) (.inl ⟨by rfl, ?_⟩) ?_ ?_ ?_; rotate_left; (intro w'; go_simp; with_reducible rfl); rotate_left; (simp only [Act.put, p1', p2', p3', i64_w, i32_w]; rfl)
 refine one_ (i := 13) (N := some 42) (B' 15 16383) rfl rfl (by kernel_rfl) (by decide) (fun K hK => ?_)
 refine goes_ Try.func68 (by kernel_rfl) rfl #[.agg #[.int .i64 t, .int .i64 dx, .int .i64 dy, .bool ty, .int .i64 kd], .bool vr, .int .i64 base, .agg #[.int .i64 s.kind, .slice A s.st.length c]] (by rfl) rfl rfl (by simp only [List.map_toArray, List.map_cons, List.map_nil]; rfl) ?_
 with_reducible refine (Hsm.asked_calls t dx dy ty kd vr base s.kind A c s.st hst ER (Option.some.inj ((asked_eq t dx dy ty kd vr base s.kind s.st hst).symm.trans HAS.out)) _).mono ?_
 rintro e X3 ⟨rfl, hb⟩
 refine ⟨_, rfl, ?_⟩
 have HD3 := A' (below_then HD2.out HD2.out.size hb)
 clear hb
 refine hK.out _ _ ⟨(blk_cell (blk_below HZ8.out HD3.out) 0).trans rfl, (blk_cell (blk_below HZ8.out HD3.out) 1).trans rfl, (blk_cell (blk_below HZ8.out HD3.out) 2).trans rfl, (blk_cell (blk_below HZ8.out HD3.out) 3).trans rfl, (blk_cell (blk_below HZ8.out HD3.out) 4).trans rfl, (blk_cell (blk_below HZ11.out HD3.out) 0).trans rfl, (blk_cell (blk_below HZ11.out HD3.out) 1).trans rfl, (blk_cell (blk_below HZ11.out HD3.out) 2).trans rfl, (HRR.out.below HD3.out).c0, (HRR.out.below HD3.out).c1⟩ (fun hHeld => ?_)
 clear hK K
 refine norm_ (a' := ?_) ?_ ?_; rotate_left; (show Act.put _ (some 42) _ = _; simp only [Act.put, p1', p2', p3', i64_w, i32_w]; rfl)
 refine u' 14 14 (B' 15 32767) ?_ rfl rfl (by kernel_rfl) (fun _ _ _ h => h) (.inl ⟨by rfl, ?_⟩) ?_ ?_ ?_; rotate_left; (intro w'; go_simp; with_reducible rfl); rotate_left; (simp only [Act.put, p1', p2', p3', i64_w, i32_w]; rfl)
 refine done_ (by kernel_rfl) ?_
 by_cases hE0 : ER = 0
 · have e1 : (ER != 0) = false := by simp [hE0]
   have hz := getErr_zero (q := q) (kd := kd) (n := s.st.length) (HER.out.trans hE0)
   have hR := HR.out
   rw [if_pos hE0] at hR
   have HR := A' hR
   rw [HQQ.out] at hz
   have hoo := okO_iff.1 hz.1
   have HBR := A' (okB_bm HbR.out hz.2.2.1).1
   have HBN := A' (bm_new hz.2.1)
   have hsz := okS_iff.1 hz.2.1
   simp only at hsz
   have har := area hsz.1 hsz.2.1 hsz.2.2.1 hsz.2.2.2.1
   have HT := A' hoo.1
   have HOO := A' hoo
   have hff := okF_iff.1 hz.2.2.2
   simp only at hff
   have hcx := ctxs_range t
   clear hR hz hE0 hoo
   obtain ⟨nP, hnp⟩ : ∃ n, (W * H).toNat = n := ⟨_, rfl⟩
   have hR := HR.out
   rw [hnp] at hR
   have HR := A' hR
   have hwh : W * H = (nP : Int) := by omega
   simp only at HBN
   rw [hnp] at HBN
   have hnP : nP ≤ 1000000 := by omega
   have hnPi : (nP : Int) ≤ 8192 := by omega
   clear hR hnp
   have q0 : X3.cell? ⟨b8, 0, none⟩ = some (.int .i64 t) := (blk_cell (blk_below HZ8.out HD3.out) 0).trans rfl
   go_wp2_with (fail)
   refine (incunableref08_size.calls t (ctxs t + 1) _ (size_eq t)).mono ?_
   rintro e W8 ⟨rfl, hdr⟩
   have HD8 := A' (below_then HD3.out HD3.out.size hdr.below)
   clear q0 hdr
   have hu6 : Try.prog.underlying 29 = _ := Try.underlying29
   go_wp2_with (with_reducible refine gate_dst (N := 58) rfl ?_; refine Kd.event_run rfl (make_step _ (.tmp 57) (.tmp 57) rfl (nP : Int) nP rfl rfl rfl hnP) ?_; (obtain ⟨gp, hgp⟩ : ∃ x, W8.heap.size = x := ⟨_, rfl⟩); (obtain ⟨W8a, hW8a⟩ : ∃ x, W8.alloc (.cells (zcells nP) 5) = x := ⟨_, rfl⟩); have HROW := A' (show Kd.R (Kd.int .u8) 5 W8a w.heap.size (fun k => k = gp) (.slice (some ⟨gp, 0, none⟩) nP nP) (List.replicate nP 0) from hW8a ▸ hgp ▸ made_row W8 w.heap.size nP (Nat.le_trans HB1.out.size HD8.out.size) hnP); have HD8a := A' (show Below W1.heap.size W1 W8a from hW8a ▸ below_alloc HD8.out _); have HGP := A' (show W1.heap.size ≤ gp ∧ gp < W8a.heap.size from ⟨by have := HD8.out.size; omega, by rw [← hW8a, World.size_alloc]; omega⟩); rw [hgp, hW8a]; clear hgp hW8a; obtain ⟨b16, hb16⟩ : ∃ x, W8a.heap.size = x := ⟨_, rfl⟩; (obtain ⟨W9, hW9⟩ : ∃ x, W8a.alloc (.cells #[.int .i64 W, .int .i64 H, .slice (some ⟨gp, 0, none⟩) nP nP] 31) = x := ⟨_, rfl⟩); have HD9 := A' (show Below W1.heap.size W1 W9 from hW9 ▸ below_alloc HD8a.out _); have HROW := A' (show Kd.R (Kd.int .u8) 5 W9 w.heap.size (fun k => k = gp) (.slice (some ⟨gp, 0, none⟩) nP nP) (List.replicate nP 0) from hW9 ▸ Kd.R_below HROW.out (below_alloc (Below.refl _ _) _)); have HZ16 := A' (show W9.heap[b16]? = some (.cells #[.int .i64 W, .int .i64 H, .slice (some ⟨gp, 0, none⟩) nP nP] 31 (0, 0)) from hW9 ▸ hb16 ▸ heap_new W8a _); have HG16 := A' (show gp < b16 ∧ W1.heap.size ≤ b16 from ⟨by have := HGP.out; omega, by have := HD8a.out.size; omega⟩))
   clear hW9 hb16
   have HW19 := A' (Nat.le_trans HB1.out.size HD9.out.size)
   obtain ⟨T, hT⟩ : ∃ T : Nat → Prop, (fun k => k = gp) = T := ⟨_, rfl⟩
   have HT2 := A' (show ∀ k, T k → k = gp from hT ▸ fun k hk => hk)
   have HTG := A' (show T gp from hT ▸ rfl)
   have hwg : w.heap.size ≤ gp := Nat.le_trans HB1.out.size HGP.out.1
   have HST := A' (show ∀ k, T k → ¬ S k from fun k hk hs => by have := HT2.out k hk; have := HS.out k hs; omega)
   have HS9 := A' (show ∀ k, S k → k < W9.heap.size from fun k hk => Nat.lt_of_lt_of_le (HS.out k hk) HW19.out)
   have HX := A' (show GX RDecAt W9 S T w.heap.size gd s (.slice (some ⟨gp, 0, none⟩) nP nP) (List.replicate nP 0) W9 from ⟨HE.out.below (below_then HB1.out HB1.out.size HD9.out), hT ▸ HROW.out, Mods.refl _ _, HOK.out⟩)
   have HM9 := A' (show ∀ V, Mods W9 V (fun k => S k ∨ T k) → Mods w V S from fun V hV => ((Mods.of_below HB1.out S).below HD9.out).then_ hV (fun k hk => hk.imp id (fun h => by rw [HT2.out k h]; exact hwg)))
   have HNO := A' (show ∀ b, w.heap.size ≤ b → b ≠ gp → ¬ (S b ∨ T b) from fun b h1 h2 hk => hk.elim (fun h => by have := HS.out b h; omega) (fun h => h2 (HT2.out b h)))
   have HZ12 := A' (show ∀ V, Mods W9 V (fun k => S k ∨ T k) → V.heap[b12]? = some (.cells #[.int .i64 0, .int .i64 0, .slice none 0 0] 31 (0, 0)) from fun V hV => blk_mods (blk_below HZ12.out HD9.out) hV (HNO.out _ HGE.out.2.2 (by have := HLT.out.2.2; have := HGP.out.1; omega)))
   have HZ8 := A' (show ∀ V, Mods W9 V (fun k => S k ∨ T k) → V.heap[b8]? = some (.cells #[.int .i64 t, .int .i64 dx, .int .i64 dy, .bool ty, .int .i64 kd] 23 (0, 0)) from fun V hV => blk_mods (blk_below HZ8.out HD9.out) hV (HNO.out _ HGE.out.1 (by have := HLT.out.1; have := HGP.out.1; omega)))
   have HZ11 := A' (show ∀ V, Mods W9 V (fun k => S k ∨ T k) → V.heap[b11]? = some (.cells #[.int .i64 RW, .int .i64 RH, .slice AR RP.length cR] 31 (0, 0)) from fun V hV => blk_mods (blk_below HZ11.out HD9.out) hV (HNO.out _ HGE.out.2.1 (by have := HLT.out.2.1; have := HGP.out.1; omega)))
   have HZ16 := A' (show ∀ V, Mods W9 V (fun k => S k ∨ T k) → V.heap[b16]? = some (.cells #[.int .i64 W, .int .i64 H, .slice (some ⟨gp, 0, none⟩) nP nP] 31 (0, 0)) from fun V hV => blk_mods HZ16.out hV (HNO.out _ (Nat.le_trans HB1.out.size HG16.out.2) (by have := HG16.out.1; omega)))
   have HAL := A' (show ∀ V, Mods w V S → ∀ x y, (-100000 ≤ x ∧ x ≤ 100000) → (-100000 ≤ y ∧ y ≤ 100000) → Calls Try.prog 41 #[.agg #[.int .i64 t, .int .i64 dx, .int .i64 dy, .bool ty, .int .i64 kd], .agg #[.int .i64 RW, .int .i64 RH, .slice AR RP.length cR], .int .i64 x, .int .i64 y] V fun e V' => e = .returned (.tuple #[.int .u8 (flatP RW RH RP (x - dx) (y - dy)).1, .bool (flatP RW RH RP (x - dx) (y - dy)).2]) ∧ Below V.heap.size V V' from fun V hV x y hx hy => by
    obtain ⟨K1, hK1⟩ := Ev.rounds (alike_ev HBR.out t dx dy ty kd x y hx hy (by have := HOO.out; omega) (by have := HOO.out; omega))
    exact incunableref08_Alike.calls K1 t dx dy ty kd RW RH AR cR RP x y _ _ V (HA.out V hV) hcR hK1)
   have HCT := A' (show ∀ V (s2 : DS) P2, GX RDecAt W9 S T w.heap.size gd s2 (.slice (some ⟨gp, 0, none⟩) nP nP) P2 V → P2.length = nP → Bm W H P2 → ∀ x y, (-100000 ≤ x ∧ x ≤ 100000) → (-100000 ≤ y ∧ y ≤ 100000) → Calls Try.prog 40 #[.agg #[.int .i64 t, .int .i64 dx, .int .i64 dy, .bool ty, .int .i64 kd], .agg #[.int .i64 W, .int .i64 H, .slice (some ⟨gp, 0, none⟩) nP nP], .agg #[.int .i64 RW, .int .i64 RH, .slice AR RP.length cR], .int .i64 x, .int .i64 y] V fun e V' => e = .returned (.int .i64 (ctxP t dx dy W H P2 RW RH RP x y)) ∧ Below V.heap.size V V' from fun V s2 P2 hG hl hb2 x y hx hy => by
    subst hl
    obtain ⟨K1, hK1⟩ := Ev.rounds (context_ev hb2 HBR.out t dx dy ty kd x y hx hy (by have := HOO.out; omega) (by have := HOO.out; omega))
    exact incunableref08_Context.calls K1 t dx dy ty kd W H (some ⟨gp, 0, none⟩) P2.length P2 RW RH AR cR RP x y _ V (Kd.R_reads' hG.p).2.2 (Nat.le_refl _) (HA.out V (HM9.out V hG.m)) hcR hK1)
   obtain ⟨R1, hR1⟩ : ∃ x, rowsD q H.toNat 0 s (List.replicate nP 0) = x := ⟨_, rfl⟩
   have hR := HR.out
   rw [hR1] at hR
   have HR1 := A' (show rowsD q (H.toNat - 0) 0 s (List.replicate nP 0) = R1 from hR1)
   have HR := A' hR
   have HL0 := A' (show (List.replicate nP (0 : Int)).length = nP from List.length_replicate)
   have hw : 0 ≤ W ∧ W ≤ 200 := ⟨hsz.1, hsz.2.1⟩
   have hh : 0 ≤ H ∧ H ≤ 200 := ⟨hsz.2.2.1, hsz.2.2.2.1⟩
   clear hR hR1 hT HROW hwg HD1 HD2 HD3 HD8 HD8a HRR HIR HAS hwh hsz har
   go_wp2_with (fail)
   go_loopw [17] (fun j wr => ∃ (k : Nat) (s1 : DS) (P1 : List Int), k ≤ H.toNat ∧ j = .int .i64 k ∧ Aside0 (rowsD q (H.toNat - k) k s1 P1 = R1) ∧ Aside0 (P1.length = nP) ∧ Aside0 (Bm W H P1) ∧ Aside0 (GX RDecAt W9 S T w.heap.size gd s1 (.slice (some ⟨gp, 0, none⟩) nP nP) P1 wr)) (fun j _ => H.toNat - (intOf j).toNat)
   case atStart => exact ⟨0, s, _, Nat.zero_le _, rfl, HR1, HL0, HBN, HX⟩
   clear HR1 HL0 HBN HX
   case round =>
    obtain ⟨k, s1, P1, hk, rfl, HX1, HL1, HBM1, HQ1⟩ := hrel
    by_cases hlt : k < H.toNat
    · have hltk : (k : Int) < H := by omega
      have hX := HX1.out
      rw [show H.toNat - k = (H.toNat - (k + 1)) + 1 by omega] at hX
      unfold rowsD at hX
      obtain ⟨Rh, hrr⟩ : ∃ r, rowH q (k : Int) s1 P1 = r := ⟨_, rfl⟩
      rw [hrr] at hX
      have HHD := A' hX
      have HRF := A' (show ∀ er : Int, er ≠ 0 → ∀ {sx : DS} {Px : List Int}, (if er = 0 then rowsD q (H.toNat - (k + 1)) (k + 1) sx Px else (sx, Px, er)) = R1 → (sx, ((0 : Int), (0 : Int), ([] : List Int)), er) = R from fun er her sx Px h => by
       have hR := HR.out
       rw [if_neg her] at h
       rw [← h] at hR
       simp only at hR
       rw [if_neg her] at hR
       exact hR)
      have HRN := A' (show ∀ {sx : DS} {Px : List Int}, (if True then rowsD q (H.toNat - (k + 1)) (k + 1) sx Px else (sx, Px, 0)) = R1 → rowsD q (H.toNat - (k + 1)) (k + 1) sx Px = R1 from fun h => by rw [if_pos trivial] at h; exact h)
      unfold rowH at hrr
      have hq1 : q.ty = ty := by rw [HQQ.out]
      have hq2 : q.W = W := by rw [HQQ.out]
      have hq3 : q.base + ctxs q.t = base + ctxs t := by rw [HQQ.out]
      rw [hq1, hq2, hq3] at hrr
      have z3 : wr.cell? ⟨b8, 3, none⟩ = some (.bool ty) := (blk_cell (HZ8.out _ HQ1.out.m) 3).trans rfl
      clear hX HX1 hq1 hq2 hq3
      cases ty
      · rw [if_neg (by decide)] at hrr
        have HRH := A' (show rowD q (k : Int) 0 (W.toNat - 0) 0 s1 P1 = Rh from hrr)
        clear hrr
        go_wp2_with (fail)
        clear z3
        obtain ⟨V, hV⟩ : ∃ V, V = wr := ⟨_, rfl⟩
        subst hV
        go_loopw [21] (fun i wr => ∃ (m : Nat) (s2 : DS) (P2 : List Int), m ≤ W.toNat ∧ i = .int .i64 m ∧ Aside0 (rowD q (k : Int) 0 (W.toNat - m) m s2 P2 = Rh) ∧ Aside0 (P2.length = nP) ∧ Aside0 (Bm W H P2) ∧ Aside0 (GX RDecAt W9 S T w.heap.size gd s2 (.slice (some ⟨gp, 0, none⟩) nP nP) P2 wr)) (fun i _ => W.toNat - (intOf i).toNat)
        case atStart => exact ⟨0, _, _, Nat.zero_le _, rfl, HRH, HL1, HBM1, HQ1⟩
        clear HRH HL1 HBM1 HQ1
        case round =>
         obtain ⟨m, s2, P2, hm, rfl, HX, HL, HBM2, HQ⟩ := hrel
         by_cases hltm : m < W.toNat
         · have hltm2 : (m : Int) < W := by omega
           have hat := HBM2.out.at_ (x := (m : Int)) (y := (k : Int)) (by omega) (by omega) hltm2 hltk
           obtain ⟨yw, hyw⟩ : ∃ z, (k : Int) * W = z := ⟨_, rfl⟩
           rw [hyw] at hat
           obtain ⟨ix, hix⟩ : ∃ ix : Nat, yw + (m : Int) = ix := ⟨(yw + m).toNat, by omega⟩
           rw [hix] at hat
           have hixl : ix < P2.length := by omega
           have hyw0 : 0 ≤ yw ∧ yw ≤ 40000 := ⟨hat.1, hat.2.1⟩
           have hix0 : (ix : Int) ≤ 9223372036854775807 := by omega
           have hixn : ix < nP := by have := HL.out; omega
           have hixn2 : (ix : Int) < nP := by omega
           clear hat
           have q80 : wr.cell? ⟨b8, 0, none⟩ = some (.int .i64 t) := (blk_cell (HZ8.out _ HQ.out.m) 0).trans rfl
           have q81 : wr.cell? ⟨b8, 1, none⟩ = some (.int .i64 dx) := (blk_cell (HZ8.out _ HQ.out.m) 1).trans rfl
           have q82 : wr.cell? ⟨b8, 2, none⟩ = some (.int .i64 dy) := (blk_cell (HZ8.out _ HQ.out.m) 2).trans rfl
           have q83 : wr.cell? ⟨b8, 3, none⟩ = some (.bool false) := (blk_cell (HZ8.out _ HQ.out.m) 3).trans rfl
           have q84 : wr.cell? ⟨b8, 4, none⟩ = some (.int .i64 kd) := (blk_cell (HZ8.out _ HQ.out.m) 4).trans rfl
           have q110 : wr.cell? ⟨b11, 0, none⟩ = some (.int .i64 RW) := (blk_cell (HZ11.out _ HQ.out.m) 0).trans rfl
           have q111 : wr.cell? ⟨b11, 1, none⟩ = some (.int .i64 RH) := (blk_cell (HZ11.out _ HQ.out.m) 1).trans rfl
           have q112 : wr.cell? ⟨b11, 2, none⟩ = some (.slice AR RP.length cR) := (blk_cell (HZ11.out _ HQ.out.m) 2).trans rfl
           go_wp2_with (fail)
           refine (HAL.out _ (HM9.out _ HQ.out.m) (m : Int) (k : Int) (by omega) (by omega)).mono ?_
           rintro e X0 ⟨rfl, hb⟩
           have HQ := A' (HQ.out.below hb)
           clear hb q80 q81 q82 q83 q84 q110 q111 q112
           have hfp := flatP_01 HBR.out ((m : Int) - dx) ((k : Int) - dy)
           obtain ⟨⟨fc, is⟩, hF⟩ : ∃ r, flatP RW RH RP ((m : Int) - dx) ((k : Int) - dy) = r := ⟨_, rfl⟩
           rw [hF] at hfp ⊢
           have HF := A' (show q.flat (m : Int) (k : Int) = (fc, is) by rw [HQF.out, hF])
           clear hF
           simp only at hfp ⊢
           have hX := HX.out
           rw [show W.toNat - m = (W.toNat - (m + 1)) + 1 by omega] at hX
           unfold rowD at hX
           rw [if_neg (show ¬ ((0 : Int) = 1 ∧ (q.flat (m : Int) (k : Int)).2 = true) by simp), HQC.out, HQI.out, hyw, hix, Int.toNat_natCast] at hX
           have hcr := ctxP_range HBM2.out HBR.out t dx dy (m : Int) (k : Int) HT.out
           obtain ⟨⟨s3, bt, er⟩, hg⟩ : ∃ r, s2.getI (base + ctxP t dx dy W H P2 RW RH RP (m : Int) (k : Int)) = r := ⟨_, rfl⟩
           have hbt : 0 ≤ bt ∧ bt ≤ 1 := by have := bit_range s2 (base + ctxP t dx dy W H P2 RW RH RP (m : Int) (k : Int)); rw [hg] at this; exact this
           rw [hg] at hX
           simp only at hX
           have HG := A' hg
           have HX2 := A' hX
           clear hX hg
           have q80 : X0.cell? ⟨b8, 0, none⟩ = some (.int .i64 t) := (blk_cell (HZ8.out _ HQ.out.m) 0).trans rfl
           have q81 : X0.cell? ⟨b8, 1, none⟩ = some (.int .i64 dx) := (blk_cell (HZ8.out _ HQ.out.m) 1).trans rfl
           have q82 : X0.cell? ⟨b8, 2, none⟩ = some (.int .i64 dy) := (blk_cell (HZ8.out _ HQ.out.m) 2).trans rfl
           have q83 : X0.cell? ⟨b8, 3, none⟩ = some (.bool false) := (blk_cell (HZ8.out _ HQ.out.m) 3).trans rfl
           have q84 : X0.cell? ⟨b8, 4, none⟩ = some (.int .i64 kd) := (blk_cell (HZ8.out _ HQ.out.m) 4).trans rfl
           have q160 : X0.cell? ⟨b16, 0, none⟩ = some (.int .i64 W) := (blk_cell (HZ16.out _ HQ.out.m) 0).trans rfl
           have q161 : X0.cell? ⟨b16, 1, none⟩ = some (.int .i64 H) := (blk_cell (HZ16.out _ HQ.out.m) 1).trans rfl
           have q162 : X0.cell? ⟨b16, 2, none⟩ = some (.slice (some ⟨gp, 0, none⟩) nP nP) := (blk_cell (HZ16.out _ HQ.out.m) 2).trans rfl
           have q110 : X0.cell? ⟨b11, 0, none⟩ = some (.int .i64 RW) := (blk_cell (HZ11.out _ HQ.out.m) 0).trans rfl
           have q111 : X0.cell? ⟨b11, 1, none⟩ = some (.int .i64 RH) := (blk_cell (HZ11.out _ HQ.out.m) 1).trans rfl
           have q112 : X0.cell? ⟨b11, 2, none⟩ = some (.slice AR RP.length cR) := (blk_cell (HZ11.out _ HQ.out.m) 2).trans rfl
           go_wp2_with (fail)
           refine (HCT.out _ s2 P2 HQ.out HL.out HBM2.out (m : Int) (k : Int) (by omega) (by omega)).mono ?_
           rintro e X1 ⟨rfl, hb⟩
           have HQ := A' (HQ.out.below hb)
           clear hb q80 q81 q82 q83 q84 q160 q161 q162 q110 q111 q112
           go_wp2_with (fail)
           refine (HQ.out.rget HS9.out HST.out (base + ctxP t dx dy W H P2 RW RH RP (m : Int) (k : Int)) (by first | rfl | (rw [wrap_id] <;> omega))).mono ?_
           rintro e X2 ⟨rfl, hq⟩
           rw [HG.out] at hq ⊢
           simp only at hq ⊢
           have HQ := A' hq
           clear hq HG hcr
           have hX := HX2.out
           clear HX2
           by_cases her : er = 0
           · rw [if_pos her] at hX
             have e1 : (er != 0) = false := by simp [her]
             have HX2 := A' hX
             clear hX her
             have c162 : X2.cell? ⟨b16, 2, none⟩ = some (.slice (some ⟨gp, 0, none⟩) nP nP) := (blk_cell (HZ16.out _ HQ.out.m) 2).trans rfl
             have hce := HQ.out.cell HL.out.symm ix hixl
             have hfz := hce.2
             have hcv := hce.1
             clear hce
             go_wp2_with (fail)
             refine ⟨⟨m + 1, s3, P2.set ix bt, by omega, by go_num, HX2, ⟨by rw [List.length_set]; exact HL.out⟩, ⟨bm_set HBM2.out _ (by omega)⟩, ⟨?_⟩⟩, by simp [intOf]; omega⟩
             have hf := HQ.out.set HL.out.symm HST.out HTG.out ix bt
             first | exact hf | (rw [show bt % 256 = bt by omega]; exact hf) | (rw [show IntKind.wrap .u8 bt = bt by simp [IntKind.wrap, IntKind.bits, IntKind.signed]; omega]; exact hf)
           · rw [if_neg her] at hX
             have e1 : (er != 0) = true := bne_iff_ne.mpr her
             have hq := HHD.out
             rw [← hX] at hq
             simp only at hq
             have hR := HRF.out er her hq
             subst hR
             clear her hX hq
             have hz := HZ12.out _ HQ.out.m
             have m0 : X2.cell? ⟨b12, 0, none⟩ = some (.int .i64 0) := (blk_cell hz 0).trans rfl
             have m1 : X2.cell? ⟨b12, 1, none⟩ = some (.int .i64 0) := (blk_cell hz 1).trans rfl
             have m2 : X2.cell? ⟨b12, 2, none⟩ = some (.slice none 0 0) := (blk_cell hz 2).trans rfl
             have k0 := blk_frozen hz 0
             have k1 := blk_frozen hz 1
             have k2 := blk_frozen hz 2
             have HZW := A' (zset3 hz (.int .i64 0) (.int .i64 0) (.slice none 0 0))
             have hP := GPost.bad (At := RDecAt) (w := w) (S := S) (gd := gd) (s := s3) (b := b12) er ⟨HQ.out.d, HM9.out _ HQ.out.m, HQ.out.ok⟩ HS.out HGE.out.2.2
             clear hz
             go_wp2_with (fail)
             exact bodyPost_ret (gret38 HZW.out rfl rfl) rfl hP
         · have hX := HX.out
           rw [show W.toNat - m = 0 by omega] at hX
           simp only [rowD] at hX
           have hq := HHD.out
           rw [← hX] at hq
           simp only at hq
           have HX2 := A' (HRN.out hq)
           clear hX hq
           go_wp2_with (fail)
           exact ⟨⟨k + 1, s2, P2, by omega, by go_num, HX2, HL, HBM2, HQ⟩, by simp [intOf]; omega⟩
      · rw [if_pos rfl] at hrr
        obtain ⟨⟨s1b, bh, er1⟩, hg⟩ : ∃ r, s1.getI (base + ctxs t) = r := ⟨_, rfl⟩
        have hbh : 0 ≤ bh ∧ bh ≤ 1 := by have := bit_range s1 (base + ctxs t); rw [hg] at this; exact this
        rw [hg] at hrr
        simp only at hrr
        have HG1 := A' hg
        have HRR1 := A' hrr
        clear hg hrr
        go_wp2_with (fail)
        refine (HQ1.out.rget HS9.out HST.out (base + ctxs t) (by first | rfl | omega | (rw [wrap_id] <;> omega))).mono ?_
        rintro e V2 ⟨rfl, hx⟩
        rw [HG1.out] at hx ⊢
        simp only at hx ⊢
        have HQ1 := A' hx
        have hrr := HRR1.out
        clear hx HG1 HRR1 z3
        by_cases her : er1 = 0
        · rw [if_pos her] at hrr
          have e1 : (er1 != 0) = false := by simp [her]
          clear her
          have h01 : bh = 0 ∨ bh = 1 := by omega
          rcases h01 with rfl | rfl
          · have HRH := A' (show rowD q (k : Int) 0 (W.toNat - 0) 0 s1b P1 = Rh from hrr)
            clear hrr
            go_wp2_with (fail)
            go_loopw [21] (fun i wr => ∃ (m : Nat) (s2 : DS) (P2 : List Int), m ≤ W.toNat ∧ i = .int .i64 m ∧ Aside0 (rowD q (k : Int) 0 (W.toNat - m) m s2 P2 = Rh) ∧ Aside0 (P2.length = nP) ∧ Aside0 (Bm W H P2) ∧ Aside0 (GX RDecAt W9 S T w.heap.size gd s2 (.slice (some ⟨gp, 0, none⟩) nP nP) P2 wr)) (fun i _ => W.toNat - (intOf i).toNat)
            case atStart => exact ⟨0, _, _, Nat.zero_le _, rfl, HRH, HL1, HBM1, HQ1⟩
            clear HRH HL1 HBM1 HQ1
            case round =>
             obtain ⟨m, s2, P2, hm, rfl, HX, HL, HBM2, HQ⟩ := hrel
             by_cases hltm : m < W.toNat
             · have hltm2 : (m : Int) < W := by omega
               have hat := HBM2.out.at_ (x := (m : Int)) (y := (k : Int)) (by omega) (by omega) hltm2 hltk
               obtain ⟨yw, hyw⟩ : ∃ z, (k : Int) * W = z := ⟨_, rfl⟩
               rw [hyw] at hat
               obtain ⟨ix, hix⟩ : ∃ ix : Nat, yw + (m : Int) = ix := ⟨(yw + m).toNat, by omega⟩
               rw [hix] at hat
               have hixl : ix < P2.length := by omega
               have hyw0 : 0 ≤ yw ∧ yw ≤ 40000 := ⟨hat.1, hat.2.1⟩
               have hix0 : (ix : Int) ≤ 9223372036854775807 := by omega
               have hixn : ix < nP := by have := HL.out; omega
               have hixn2 : (ix : Int) < nP := by omega
               clear hat
               have q80 : wr.cell? ⟨b8, 0, none⟩ = some (.int .i64 t) := (blk_cell (HZ8.out _ HQ.out.m) 0).trans rfl
               have q81 : wr.cell? ⟨b8, 1, none⟩ = some (.int .i64 dx) := (blk_cell (HZ8.out _ HQ.out.m) 1).trans rfl
               have q82 : wr.cell? ⟨b8, 2, none⟩ = some (.int .i64 dy) := (blk_cell (HZ8.out _ HQ.out.m) 2).trans rfl
               have q83 : wr.cell? ⟨b8, 3, none⟩ = some (.bool true) := (blk_cell (HZ8.out _ HQ.out.m) 3).trans rfl
               have q84 : wr.cell? ⟨b8, 4, none⟩ = some (.int .i64 kd) := (blk_cell (HZ8.out _ HQ.out.m) 4).trans rfl
               have q110 : wr.cell? ⟨b11, 0, none⟩ = some (.int .i64 RW) := (blk_cell (HZ11.out _ HQ.out.m) 0).trans rfl
               have q111 : wr.cell? ⟨b11, 1, none⟩ = some (.int .i64 RH) := (blk_cell (HZ11.out _ HQ.out.m) 1).trans rfl
               have q112 : wr.cell? ⟨b11, 2, none⟩ = some (.slice AR RP.length cR) := (blk_cell (HZ11.out _ HQ.out.m) 2).trans rfl
               go_wp2_with (fail)
               refine (HAL.out _ (HM9.out _ HQ.out.m) (m : Int) (k : Int) (by omega) (by omega)).mono ?_
               rintro e X0 ⟨rfl, hb⟩
               have HQ := A' (HQ.out.below hb)
               clear hb q80 q81 q82 q83 q84 q110 q111 q112
               have hfp := flatP_01 HBR.out ((m : Int) - dx) ((k : Int) - dy)
               obtain ⟨⟨fc, is⟩, hF⟩ : ∃ r, flatP RW RH RP ((m : Int) - dx) ((k : Int) - dy) = r := ⟨_, rfl⟩
               rw [hF] at hfp ⊢
               have HF := A' (show q.flat (m : Int) (k : Int) = (fc, is) by rw [HQF.out, hF])
               clear hF
               simp only at hfp ⊢
               have hX := HX.out
               rw [show W.toNat - m = (W.toNat - (m + 1)) + 1 by omega] at hX
               unfold rowD at hX
               rw [if_neg (show ¬ ((0 : Int) = 1 ∧ (q.flat (m : Int) (k : Int)).2 = true) by simp), HQC.out, HQI.out, hyw, hix, Int.toNat_natCast] at hX
               have hcr := ctxP_range HBM2.out HBR.out t dx dy (m : Int) (k : Int) HT.out
               obtain ⟨⟨s3, bt, er⟩, hg⟩ : ∃ r, s2.getI (base + ctxP t dx dy W H P2 RW RH RP (m : Int) (k : Int)) = r := ⟨_, rfl⟩
               have hbt : 0 ≤ bt ∧ bt ≤ 1 := by have := bit_range s2 (base + ctxP t dx dy W H P2 RW RH RP (m : Int) (k : Int)); rw [hg] at this; exact this
               rw [hg] at hX
               simp only at hX
               have HG := A' hg
               have HX2 := A' hX
               clear hX hg
               have q80 : X0.cell? ⟨b8, 0, none⟩ = some (.int .i64 t) := (blk_cell (HZ8.out _ HQ.out.m) 0).trans rfl
               have q81 : X0.cell? ⟨b8, 1, none⟩ = some (.int .i64 dx) := (blk_cell (HZ8.out _ HQ.out.m) 1).trans rfl
               have q82 : X0.cell? ⟨b8, 2, none⟩ = some (.int .i64 dy) := (blk_cell (HZ8.out _ HQ.out.m) 2).trans rfl
               have q83 : X0.cell? ⟨b8, 3, none⟩ = some (.bool true) := (blk_cell (HZ8.out _ HQ.out.m) 3).trans rfl
               have q84 : X0.cell? ⟨b8, 4, none⟩ = some (.int .i64 kd) := (blk_cell (HZ8.out _ HQ.out.m) 4).trans rfl
               have q160 : X0.cell? ⟨b16, 0, none⟩ = some (.int .i64 W) := (blk_cell (HZ16.out _ HQ.out.m) 0).trans rfl
               have q161 : X0.cell? ⟨b16, 1, none⟩ = some (.int .i64 H) := (blk_cell (HZ16.out _ HQ.out.m) 1).trans rfl
               have q162 : X0.cell? ⟨b16, 2, none⟩ = some (.slice (some ⟨gp, 0, none⟩) nP nP) := (blk_cell (HZ16.out _ HQ.out.m) 2).trans rfl
               have q110 : X0.cell? ⟨b11, 0, none⟩ = some (.int .i64 RW) := (blk_cell (HZ11.out _ HQ.out.m) 0).trans rfl
               have q111 : X0.cell? ⟨b11, 1, none⟩ = some (.int .i64 RH) := (blk_cell (HZ11.out _ HQ.out.m) 1).trans rfl
               have q112 : X0.cell? ⟨b11, 2, none⟩ = some (.slice AR RP.length cR) := (blk_cell (HZ11.out _ HQ.out.m) 2).trans rfl
               go_wp2_with (fail)
               refine (HCT.out _ s2 P2 HQ.out HL.out HBM2.out (m : Int) (k : Int) (by omega) (by omega)).mono ?_
               rintro e X1 ⟨rfl, hb⟩
               have HQ := A' (HQ.out.below hb)
               clear hb q80 q81 q82 q83 q84 q160 q161 q162 q110 q111 q112
               go_wp2_with (fail)
               refine (HQ.out.rget HS9.out HST.out (base + ctxP t dx dy W H P2 RW RH RP (m : Int) (k : Int)) (by first | rfl | (rw [wrap_id] <;> omega))).mono ?_
               rintro e X2 ⟨rfl, hq⟩
               rw [HG.out] at hq ⊢
               simp only at hq ⊢
               have HQ := A' hq
               clear hq HG hcr
               have hX := HX2.out
               clear HX2
               by_cases her : er = 0
               · rw [if_pos her] at hX
                 have e1 : (er != 0) = false := by simp [her]
                 have HX2 := A' hX
                 clear hX her
                 have c162 : X2.cell? ⟨b16, 2, none⟩ = some (.slice (some ⟨gp, 0, none⟩) nP nP) := (blk_cell (HZ16.out _ HQ.out.m) 2).trans rfl
                 have hce := HQ.out.cell HL.out.symm ix hixl
                 have hfz := hce.2
                 have hcv := hce.1
                 clear hce
                 go_wp2_with (fail)
                 refine ⟨⟨m + 1, s3, P2.set ix bt, by omega, by go_num, HX2, ⟨by rw [List.length_set]; exact HL.out⟩, ⟨bm_set HBM2.out _ (by omega)⟩, ⟨?_⟩⟩, by simp [intOf]; omega⟩
                 have hf := HQ.out.set HL.out.symm HST.out HTG.out ix bt
                 first | exact hf | (rw [show bt % 256 = bt by omega]; exact hf) | (rw [show IntKind.wrap .u8 bt = bt by simp [IntKind.wrap, IntKind.bits, IntKind.signed]; omega]; exact hf)
               · rw [if_neg her] at hX
                 have e1 : (er != 0) = true := bne_iff_ne.mpr her
                 have hq := HHD.out
                 rw [← hX] at hq
                 simp only at hq
                 have hR := HRF.out er her hq
                 subst hR
                 clear her hX hq
                 have hz := HZ12.out _ HQ.out.m
                 have m0 : X2.cell? ⟨b12, 0, none⟩ = some (.int .i64 0) := (blk_cell hz 0).trans rfl
                 have m1 : X2.cell? ⟨b12, 1, none⟩ = some (.int .i64 0) := (blk_cell hz 1).trans rfl
                 have m2 : X2.cell? ⟨b12, 2, none⟩ = some (.slice none 0 0) := (blk_cell hz 2).trans rfl
                 have k0 := blk_frozen hz 0
                 have k1 := blk_frozen hz 1
                 have k2 := blk_frozen hz 2
                 have HZW := A' (zset3 hz (.int .i64 0) (.int .i64 0) (.slice none 0 0))
                 have hP := GPost.bad (At := RDecAt) (w := w) (S := S) (gd := gd) (s := s3) (b := b12) er ⟨HQ.out.d, HM9.out _ HQ.out.m, HQ.out.ok⟩ HS.out HGE.out.2.2
                 clear hz
                 go_wp2_with (fail)
                 exact bodyPost_ret (gret38 HZW.out rfl rfl) rfl hP
             · have hX := HX.out
               rw [show W.toNat - m = 0 by omega] at hX
               simp only [rowD] at hX
               have hq := HHD.out
               rw [← hX] at hq
               simp only at hq
               have HX2 := A' (HRN.out hq)
               clear hX hq
               go_wp2_with (fail)
               exact ⟨⟨k + 1, s2, P2, by omega, by go_num, HX2, HL, HBM2, HQ⟩, by simp [intOf]; omega⟩
          · have HRH := A' (show rowD q (k : Int) 1 (W.toNat - 0) 0 s1b P1 = Rh from hrr)
            clear hrr
            go_wp2_with (fail)
            go_loopw [21] (fun i wr => ∃ (m : Nat) (s2 : DS) (P2 : List Int), m ≤ W.toNat ∧ i = .int .i64 m ∧ Aside0 (rowD q (k : Int) 1 (W.toNat - m) m s2 P2 = Rh) ∧ Aside0 (P2.length = nP) ∧ Aside0 (Bm W H P2) ∧ Aside0 (GX RDecAt W9 S T w.heap.size gd s2 (.slice (some ⟨gp, 0, none⟩) nP nP) P2 wr)) (fun i _ => W.toNat - (intOf i).toNat)
            case atStart => exact ⟨0, _, _, Nat.zero_le _, rfl, HRH, HL1, HBM1, HQ1⟩
            clear HRH HL1 HBM1 HQ1
            case round =>
             obtain ⟨m, s2, P2, hm, rfl, HX, HL, HBM2, HQ⟩ := hrel
             by_cases hltm : m < W.toNat
             · have hltm2 : (m : Int) < W := by omega
               have hat := HBM2.out.at_ (x := (m : Int)) (y := (k : Int)) (by omega) (by omega) hltm2 hltk
               obtain ⟨yw, hyw⟩ : ∃ z, (k : Int) * W = z := ⟨_, rfl⟩
               rw [hyw] at hat
               obtain ⟨ix, hix⟩ : ∃ ix : Nat, yw + (m : Int) = ix := ⟨(yw + m).toNat, by omega⟩
               rw [hix] at hat
               have hixl : ix < P2.length := by omega
               have hyw0 : 0 ≤ yw ∧ yw ≤ 40000 := ⟨hat.1, hat.2.1⟩
               have hix0 : (ix : Int) ≤ 9223372036854775807 := by omega
               have hixn : ix < nP := by have := HL.out; omega
               have hixn2 : (ix : Int) < nP := by omega
               clear hat
               have q80 : wr.cell? ⟨b8, 0, none⟩ = some (.int .i64 t) := (blk_cell (HZ8.out _ HQ.out.m) 0).trans rfl
               have q81 : wr.cell? ⟨b8, 1, none⟩ = some (.int .i64 dx) := (blk_cell (HZ8.out _ HQ.out.m) 1).trans rfl
               have q82 : wr.cell? ⟨b8, 2, none⟩ = some (.int .i64 dy) := (blk_cell (HZ8.out _ HQ.out.m) 2).trans rfl
               have q83 : wr.cell? ⟨b8, 3, none⟩ = some (.bool true) := (blk_cell (HZ8.out _ HQ.out.m) 3).trans rfl
               have q84 : wr.cell? ⟨b8, 4, none⟩ = some (.int .i64 kd) := (blk_cell (HZ8.out _ HQ.out.m) 4).trans rfl
               have q110 : wr.cell? ⟨b11, 0, none⟩ = some (.int .i64 RW) := (blk_cell (HZ11.out _ HQ.out.m) 0).trans rfl
               have q111 : wr.cell? ⟨b11, 1, none⟩ = some (.int .i64 RH) := (blk_cell (HZ11.out _ HQ.out.m) 1).trans rfl
               have q112 : wr.cell? ⟨b11, 2, none⟩ = some (.slice AR RP.length cR) := (blk_cell (HZ11.out _ HQ.out.m) 2).trans rfl
               go_wp2_with (fail)
               refine (HAL.out _ (HM9.out _ HQ.out.m) (m : Int) (k : Int) (by omega) (by omega)).mono ?_
               rintro e X0 ⟨rfl, hb⟩
               have HQ := A' (HQ.out.below hb)
               clear hb q80 q81 q82 q83 q84 q110 q111 q112
               have hfp := flatP_01 HBR.out ((m : Int) - dx) ((k : Int) - dy)
               obtain ⟨⟨fc, is⟩, hF⟩ : ∃ r, flatP RW RH RP ((m : Int) - dx) ((k : Int) - dy) = r := ⟨_, rfl⟩
               rw [hF] at hfp ⊢
               have HF := A' (show q.flat (m : Int) (k : Int) = (fc, is) by rw [HQF.out, hF])
               clear hF
               simp only at hfp ⊢
               cases is
               · have hX := HX.out
                 rw [show W.toNat - m = (W.toNat - (m + 1)) + 1 by omega] at hX
                 unfold rowD at hX
                 rw [if_neg (show ¬ ((1 : Int) = 1 ∧ (q.flat (m : Int) (k : Int)).2 = true) by rw [HF.out]; simp), HQC.out, HQI.out, hyw, hix, Int.toNat_natCast] at hX
                 have hcr := ctxP_range HBM2.out HBR.out t dx dy (m : Int) (k : Int) HT.out
                 obtain ⟨⟨s3, bt, er⟩, hg⟩ : ∃ r, s2.getI (base + ctxP t dx dy W H P2 RW RH RP (m : Int) (k : Int)) = r := ⟨_, rfl⟩
                 have hbt : 0 ≤ bt ∧ bt ≤ 1 := by have := bit_range s2 (base + ctxP t dx dy W H P2 RW RH RP (m : Int) (k : Int)); rw [hg] at this; exact this
                 rw [hg] at hX
                 simp only at hX
                 have HG := A' hg
                 have HX2 := A' hX
                 clear hX hg
                 have q80 : X0.cell? ⟨b8, 0, none⟩ = some (.int .i64 t) := (blk_cell (HZ8.out _ HQ.out.m) 0).trans rfl
                 have q81 : X0.cell? ⟨b8, 1, none⟩ = some (.int .i64 dx) := (blk_cell (HZ8.out _ HQ.out.m) 1).trans rfl
                 have q82 : X0.cell? ⟨b8, 2, none⟩ = some (.int .i64 dy) := (blk_cell (HZ8.out _ HQ.out.m) 2).trans rfl
                 have q83 : X0.cell? ⟨b8, 3, none⟩ = some (.bool true) := (blk_cell (HZ8.out _ HQ.out.m) 3).trans rfl
                 have q84 : X0.cell? ⟨b8, 4, none⟩ = some (.int .i64 kd) := (blk_cell (HZ8.out _ HQ.out.m) 4).trans rfl
                 have q160 : X0.cell? ⟨b16, 0, none⟩ = some (.int .i64 W) := (blk_cell (HZ16.out _ HQ.out.m) 0).trans rfl
                 have q161 : X0.cell? ⟨b16, 1, none⟩ = some (.int .i64 H) := (blk_cell (HZ16.out _ HQ.out.m) 1).trans rfl
                 have q162 : X0.cell? ⟨b16, 2, none⟩ = some (.slice (some ⟨gp, 0, none⟩) nP nP) := (blk_cell (HZ16.out _ HQ.out.m) 2).trans rfl
                 have q110 : X0.cell? ⟨b11, 0, none⟩ = some (.int .i64 RW) := (blk_cell (HZ11.out _ HQ.out.m) 0).trans rfl
                 have q111 : X0.cell? ⟨b11, 1, none⟩ = some (.int .i64 RH) := (blk_cell (HZ11.out _ HQ.out.m) 1).trans rfl
                 have q112 : X0.cell? ⟨b11, 2, none⟩ = some (.slice AR RP.length cR) := (blk_cell (HZ11.out _ HQ.out.m) 2).trans rfl
                 go_wp2_with (fail)
                 refine (HCT.out _ s2 P2 HQ.out HL.out HBM2.out (m : Int) (k : Int) (by omega) (by omega)).mono ?_
                 rintro e X1 ⟨rfl, hb⟩
                 have HQ := A' (HQ.out.below hb)
                 clear hb q80 q81 q82 q83 q84 q160 q161 q162 q110 q111 q112
                 go_wp2_with (fail)
                 refine (HQ.out.rget HS9.out HST.out (base + ctxP t dx dy W H P2 RW RH RP (m : Int) (k : Int)) (by first | rfl | (rw [wrap_id] <;> omega))).mono ?_
                 rintro e X2 ⟨rfl, hq⟩
                 rw [HG.out] at hq ⊢
                 simp only at hq ⊢
                 have HQ := A' hq
                 clear hq HG hcr
                 have hX := HX2.out
                 clear HX2
                 by_cases her : er = 0
                 · rw [if_pos her] at hX
                   have e1 : (er != 0) = false := by simp [her]
                   have HX2 := A' hX
                   clear hX her
                   have c162 : X2.cell? ⟨b16, 2, none⟩ = some (.slice (some ⟨gp, 0, none⟩) nP nP) := (blk_cell (HZ16.out _ HQ.out.m) 2).trans rfl
                   have hce := HQ.out.cell HL.out.symm ix hixl
                   have hfz := hce.2
                   have hcv := hce.1
                   clear hce
                   go_wp2_with (fail)
                   refine ⟨⟨m + 1, s3, P2.set ix bt, by omega, by go_num, HX2, ⟨by rw [List.length_set]; exact HL.out⟩, ⟨bm_set HBM2.out _ (by omega)⟩, ⟨?_⟩⟩, by simp [intOf]; omega⟩
                   have hf := HQ.out.set HL.out.symm HST.out HTG.out ix bt
                   first | exact hf | (rw [show bt % 256 = bt by omega]; exact hf) | (rw [show IntKind.wrap .u8 bt = bt by simp [IntKind.wrap, IntKind.bits, IntKind.signed]; omega]; exact hf)
                 · rw [if_neg her] at hX
                   have e1 : (er != 0) = true := bne_iff_ne.mpr her
                   have hq := HHD.out
                   rw [← hX] at hq
                   simp only at hq
                   have hR := HRF.out er her hq
                   subst hR
                   clear her hX hq
                   have hz := HZ12.out _ HQ.out.m
                   have m0 : X2.cell? ⟨b12, 0, none⟩ = some (.int .i64 0) := (blk_cell hz 0).trans rfl
                   have m1 : X2.cell? ⟨b12, 1, none⟩ = some (.int .i64 0) := (blk_cell hz 1).trans rfl
                   have m2 : X2.cell? ⟨b12, 2, none⟩ = some (.slice none 0 0) := (blk_cell hz 2).trans rfl
                   have k0 := blk_frozen hz 0
                   have k1 := blk_frozen hz 1
                   have k2 := blk_frozen hz 2
                   have HZW := A' (zset3 hz (.int .i64 0) (.int .i64 0) (.slice none 0 0))
                   have hP := GPost.bad (At := RDecAt) (w := w) (S := S) (gd := gd) (s := s3) (b := b12) er ⟨HQ.out.d, HM9.out _ HQ.out.m, HQ.out.ok⟩ HS.out HGE.out.2.2
                   clear hz
                   go_wp2_with (fail)
                   exact bodyPost_ret (gret38 HZW.out rfl rfl) rfl hP
               · have hX := HX.out
                 rw [show W.toNat - m = (W.toNat - (m + 1)) + 1 by omega] at hX
                 unfold rowD at hX
                 rw [if_pos (show (1 : Int) = 1 ∧ (q.flat (m : Int) (k : Int)).2 = true from ⟨rfl, by rw [HF.out]⟩), HF.out, HQI.out, hyw, hix, Int.toNat_natCast] at hX
                 simp only at hX
                 have HX2 := A' hX
                 clear hX
                 have c162 : X0.cell? ⟨b16, 2, none⟩ = some (.slice (some ⟨gp, 0, none⟩) nP nP) := (blk_cell (HZ16.out _ HQ.out.m) 2).trans rfl
                 have hce := HQ.out.cell HL.out.symm ix hixl
                 have hfz := hce.2
                 have hcv := hce.1
                 clear hce
                 go_wp2_with (fail)
                 exact ⟨⟨m + 1, s2, P2.set ix fc, by omega, by go_num, HX2, ⟨by rw [List.length_set]; exact HL.out⟩, ⟨bm_set HBM2.out _ hfp⟩, ⟨HQ.out.set HL.out.symm HST.out HTG.out ix fc⟩⟩, by simp [intOf]; omega⟩
             · have hX := HX.out
               rw [show W.toNat - m = 0 by omega] at hX
               simp only [rowD] at hX
               have hq := HHD.out
               rw [← hX] at hq
               simp only at hq
               have HX2 := A' (HRN.out hq)
               clear hX hq
               go_wp2_with (fail)
               exact ⟨⟨k + 1, s2, P2, by omega, by go_num, HX2, HL, HBM2, HQ⟩, by simp [intOf]; omega⟩
        · rw [if_neg her] at hrr
          have e1 : (er1 != 0) = true := bne_iff_ne.mpr her
          have hq := HHD.out
          rw [← hrr] at hq
          simp only at hq
          have hR := HRF.out er1 her hq
          subst hR
          have HQ := HQ1
          clear her hrr hq
          have hz := HZ12.out _ HQ.out.m
          have m0 : V2.cell? ⟨b12, 0, none⟩ = some (.int .i64 0) := (blk_cell hz 0).trans rfl
          have m1 : V2.cell? ⟨b12, 1, none⟩ = some (.int .i64 0) := (blk_cell hz 1).trans rfl
          have m2 : V2.cell? ⟨b12, 2, none⟩ = some (.slice none 0 0) := (blk_cell hz 2).trans rfl
          have k0 := blk_frozen hz 0
          have k1 := blk_frozen hz 1
          have k2 := blk_frozen hz 2
          have HZW := A' (zset3 hz (.int .i64 0) (.int .i64 0) (.slice none 0 0))
          have hP := GPost.bad (At := RDecAt) (w := w) (S := S) (gd := gd) (s := s1b) (b := b12) er1 ⟨HQ.out.d, HM9.out _ HQ.out.m, HQ.out.ok⟩ HS.out HGE.out.2.2
          clear hz
          go_wp2_with (fail)
          exact bodyPost_ret (gret38 HZW.out rfl rfl) rfl hP
    · have hX := HX1.out
      rw [show H.toNat - k = 0 by omega] at hX
      simp only [rowsD] at hX
      have hR := HR.out
      rw [← hX] at hR
      simp only [if_true] at hR
      subst hR
      have hz := HZ12.out _ HQ1.out.m
      have m0 : wr.cell? ⟨b12, 0, none⟩ = some (.int .i64 0) := (blk_cell hz 0).trans rfl
      have m1 : wr.cell? ⟨b12, 1, none⟩ = some (.int .i64 0) := (blk_cell hz 1).trans rfl
      have m2 : wr.cell? ⟨b12, 2, none⟩ = some (.slice none 0 0) := (blk_cell hz 2).trans rfl
      have k0 := blk_frozen hz 0
      have k1 := blk_frozen hz 1
      have k2 := blk_frozen hz 2
      have HZW := A' (zset3 hz (.int .i64 W) (.int .i64 H) (.slice (some ⟨gp, 0, none⟩) nP nP))
      have q160 : wr.cell? ⟨b16, 0, none⟩ = some (.int .i64 W) := (blk_cell (HZ16.out _ HQ1.out.m) 0).trans rfl
      have q161 : wr.cell? ⟨b16, 1, none⟩ = some (.int .i64 H) := (blk_cell (HZ16.out _ HQ1.out.m) 1).trans rfl
      have q162 : wr.cell? ⟨b16, 2, none⟩ = some (.slice (some ⟨gp, 0, none⟩) nP nP) := (blk_cell (HZ16.out _ HQ1.out.m) 2).trans rfl
      have hP : GPost RDecAt w S gd (s1, (W, H, P1), 0) (.returned (.tuple #[.agg #[.int .i64 W, .int .i64 H, .slice (some ⟨gp, 0, none⟩) nP nP], .int .i64 0])) (((wr.setCell ⟨b12, 0, none⟩ (.int .i64 W)).setCell ⟨b12, 1, none⟩ (.int .i64 H)).setCell ⟨b12, 2, none⟩ (.slice (some ⟨gp, 0, none⟩) nP nP)) := by
       have hne : ∀ k, T k → k ≠ b12 := fun k hk he => by have := HT2.out k hk; have := HLT.out.2.2; have := HGP.out.1; omega
       have hp := Kd.R_far (p := ⟨b12, 2, none⟩) (Kd.R_far (p := ⟨b12, 1, none⟩) (Kd.R_far (p := ⟨b12, 0, none⟩) HQ1.out.p hne (.int .i64 W)) hne (.int .i64 H)) hne (.slice (some ⟨gp, 0, none⟩) nP nP)
       have hl := HL1.out
       refine ⟨some ⟨gp, 0, none⟩, nP, by rw [show P1.length = nP from hl], by rw [show P1.length = nP from hl]; exact Kd.R_mono hp (fun _ _ => trivial), ?_⟩
       exact (((⟨HQ1.out.d, HM9.out _ HQ1.out.m, HQ1.out.ok⟩ : IS RDecAt w S gd s1 wr).set HS.out _ HGE.out.2.2 _).set HS.out _ HGE.out.2.2 _).set HS.out _ HGE.out.2.2 _
      clear hX hz
      go_wp2_with (fail)
      exact bodyPost_ret (gret38 HZW.out rfl rfl) rfl hP
 · have hbad : ER ≠ 0 := hE0
   have e1 : (ER != 0) = true := bne_iff_ne.mpr hbad
   have hR := HR.out
   rw [if_neg hbad] at hR
   subst hR
   clear hbad
   have hz := blk_below HZ12.out HD3.out
   have m0 : X3.cell? ⟨b12, 0, none⟩ = some (.int .i64 0) := (blk_cell hz 0).trans rfl
   have m1 : X3.cell? ⟨b12, 1, none⟩ = some (.int .i64 0) := (blk_cell hz 1).trans rfl
   have m2 : X3.cell? ⟨b12, 2, none⟩ = some (.slice none 0 0) := (blk_cell hz 2).trans rfl
   have k0 := blk_frozen hz 0
   have k1 := blk_frozen hz 1
   have k2 := blk_frozen hz 2
   have HZW := A' (zset3 hz (.int .i64 0) (.int .i64 0) (.slice none 0 0))
   have hP := GPost.bad (At := RDecAt) (w := w) (S := S) (gd := gd) (s := s) (b := b12) ER (HIS.out _ HD3.out) HS.out HGE.out.2.2
   clear hz
   go_wp2_with (fail)
   exact bodyPost_ret (gret38 HZW.out rfl rfl) rfl hP
end Go.Proofs.Ytkfejicdjpffcaa.Rrg
