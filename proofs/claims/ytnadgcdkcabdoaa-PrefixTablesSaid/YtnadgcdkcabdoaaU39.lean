-- ext making rsh: 1=V 2=N share: 0,0
import Derived.Test.YtnadgcdkcabdoaaU0
import Derived.Test.YtnadgcdkcabdoaaHandAid
import Derived.Deep.DeepAppendRoom
import Derived.Lib.SliceRun
import Derived.Deep.RegionLaw
import Derived.Laws.ResultCell
namespace Go.Proofs.Ytnadgcdkcabdoaa.Node
open Go Go.RowKit Go.Proofs.YtnadgcdkcabdoaaW.PrintWords Go.Proofs.YtnadgcdkcabdoaaW.PrintLast Go.Proofs.YtnadgcdkcabdoaaW.PrintMore Go.Proofs.Ytnadgcdkcabdoaa.Aid Go.Proofs.Ytnadgcdkcabdoaa.HandAid
set_option linter.unusedVariables false
set_option linter.unusedSimpArgs false
/-- Values lie from an address on. -/
def Src (w : World) (a : Addr) (l : List Value) : Prop := ∀ j u, l[j]? = some u → w.cell? (a.add j) = some u
theorem owns_take {w : World} {base g e k n c : Nat} {L : List Value} (h : w.ownsRow base e 2 (.slice (some ⟨g, 0, none⟩) n c) n L) (hk : k ≤ n) : w.ownsRow base e 2 (.slice (some ⟨g, 0, none⟩) k c) k (L.take (2 * k)) := by
  obtain ⟨hl, h | ⟨g', cap, cur, hv, hb, hh, hnc, hcm, hcs, ht⟩⟩ := h
  · exact absurd h.1 (by simp)
  · injection hv with h1 h2 h3
    injection h1 with h1
    injection h1 with h1 _ _
    subst h1 h3
    refine ⟨by rw [List.length_take]; omega, .inr ⟨g, c, cur, rfl, hb, hh, by omega, hcm, hcs, ?_⟩⟩
    rw [← ht, List.take_take, Nat.min_eq_left (by omega), Nat.mul_comm]
theorem owns_src {w : World} {base g e k n c : Nat} {L : List Value} (h : w.ownsRow base e 2 (.slice (some ⟨g, 0, none⟩) n c) n L) : Src w ⟨g, k, none⟩ (L.drop k) := by
  obtain ⟨hl, h | ⟨g', cap, cur, hv, hb, hh, hnc, hcm, hcs, ht⟩⟩ := h
  · exact absurd h.1 (by simp)
  · injection hv with h1 h2 h3
    injection h1 with h1
    injection h1 with h1 _ _
    subst h1 h3
    intro j u hu
    rw [List.getElem?_drop, ← ht, List.getElem?_take] at hu
    split at hu
    · rw [Array.getElem?_toList] at hu
      rw [Addr.add_lit, blk_cell hh (k + j)]
      exact hu
    · cases hu
theorem owns_set_out {w : World} {base g e m c o : Nat} {L : List Value} (h : w.ownsRow base e 2 (.slice (some ⟨g, 0, none⟩) m c) m L) (ho : 2 * m ≤ o) (v : Value) : (w.setCell ⟨g, o, none⟩ v).ownsRow base e 2 (.slice (some ⟨g, 0, none⟩) m c) m L := by
  obtain ⟨hl, h | ⟨g', cap, cur, hv, hb, hh, hnc, hcm, hcs, ht⟩⟩ := h
  · exact absurd h.1 (by simp)
  · injection hv with h1 h2 h3
    injection h1 with h1
    injection h1 with h1 _ _
    subst h1 h3
    refine ⟨hl, .inr ⟨g, c, cur.setIfInBounds o v, rfl, hb, blk_set hh o v, hnc, hcm, by simp [hcs], ?_⟩⟩
    rw [← ht, Array.toList_setIfInBounds, List.take_set_of_le (by omega)]
theorem clear_run (w : World) (g o n' c' : Nat) (hn : n' = 1) (hc : ∀ j, j < 2 → (w.cell? ⟨g, o + j, none⟩).isSome = true) (hf : ∀ j, j < 2 → w.frozen? ⟨g, o + j, none⟩ = false) (ty : TypeId) : (Builtin.clear_ #[64] ty #[.slice (some ⟨g, o, none⟩) n' c']).run Try.prog w = .ok (.tuple #[]) ((w.setCell ⟨g, o, none⟩ (.int .i64 0)).setCell ⟨g, o + 1, none⟩ (.slice none 0 0)) := by
  subst hn
  have hst := run_storeCells_cells (P := Try.prog) g o [.int .i64 0, .slice none 0 0] 0 w (by simpa using hc) (by simpa using hf) (by intro v hv; simp at hv; rcases hv with rfl | rfl <;> rfl)
  simp only [Nat.add_zero] at hst
  simp [Builtin.clear_, run_underlying Try.underlying64, Try.zeroValue66, Builtin.zeroCells, Value.cells]
  rw [show (List.map (fun i => [Value.int IntKind.i64 0, Value.slice none 0 0][i % 2]?.getD default) (List.range 2)) = [Value.int IntKind.i64 0, Value.slice none 0 0] from rfl, hst]
  rfl
theorem infoN : (Try.prog.info? 66).map (fun i => (i.zero, i.size, i.bytes)) = some (some (.agg #[.int .i64 0, .slice none 0 0]), 2, 32) := by kernel_rfl
theorem info_node : ∃ i0, Try.prog.info? 66 = some i0 ∧ i0.size = 2 := by
  obtain ⟨i0, h, hz⟩ := Option.map_eq_some_iff.1 infoN
  simp only [Prod.mk.injEq] at hz
  exact ⟨i0, h, hz.2.1⟩
set_option maxHeartbeats 4000000 in
set_option maxRecDepth 100000 in
theorem delete_raw (w : World) (base g k n c : Nat) (L : List Value) (h1 : ∀ u ∈ L, u.oneCell' = true) (hk : k < n) (hown : w.ownsRow base 66 2 (.slice (some ⟨g, 0, none⟩) n c) n L) : Calls Try.prog 64 #[.slice (some ⟨g, 0, none⟩) n c, .int .i64 k, .int .i64 ((k : Int) + 1)] w fun e w' => e = .returned (.slice (some ⟨g, 0, none⟩) (n - 1) c) ∧ w'.ownsRow base 66 2 (.slice (some ⟨g, 0, none⟩) (n - 1) c) (n - 1) (L.take (2 * k) ++ L.drop (2 * k + 2)) ∧ w.grownBy w' (some g) := by
  obtain ⟨i0, hi0, hz0⟩ := info_node
  have hL := hown.1
  have hnc : n ≤ c ∧ c ≤ 9223372036854775807 := by
    obtain ⟨hl, h | ⟨g', cap, cur, hv, hb, hh, hnc, hcm, hcs, ht⟩⟩ := hown
    · exact absurd h.1 (by simp)
    · injection hv with h1 h2 h3
      subst h3
      exact ⟨hnc, hcm⟩
  have hdl : (L.drop (2 * k + 2)).length = (n - (k + 1)) * 2 := by rw [List.length_drop, hL]; omega
  have hd1 : ∀ u ∈ L.drop (2 * k + 2), u.oneCell' = true := fun u hu => h1 u (List.mem_of_mem_drop hu)
  have p0 := owns_take hown (Nat.le_of_lt hk)
  obtain ⟨ad, had, p1⟩ : ∃ ad : Addr, (if c = k + 1 then some (⟨g, 0, none⟩ : Addr) else some ⟨g, (k + 1) * 2, none⟩) = some ad ∧ Src w ad (L.drop (2 * k + 2)) := by
    by_cases h : c = k + 1
    · refine ⟨_, if_pos h, ?_⟩
      have : L.drop (2 * k + 2) = [] := List.eq_nil_of_length_eq_zero (by rw [hdl]; omega)
      rw [this]
      intro j u hu; simp at hu
    · refine ⟨_, if_neg h, ?_⟩
      rw [show (k + 1) * 2 = 2 * k + 2 by omega]
      exact owns_src hown
  have HH := Aside0.mk hown
  have hd := Aside0.mk h1
  clear hown h1
  have b1 := eq_true (show k ≤ c by omega)
  have b2 := eq_true (show 0 ≤ (k : Int) + 1 ∧ (k : Int) + 1 ≤ n by omega)
  go_enter Try.func64, Try.ntmps64
  go_wp2
  refine start_ (n := 8) (S := fun w' => w'.ownsRow base 66 2 (.slice (some ⟨g, 0, none⟩) k c) k (L.take (2 * k)) ∧ Src w' ad (L.drop (2 * k + 2))) (ds := [6]) #[false, false, false, false, false, false, false, false] (by kernel_rfl) rfl rfl ⟨p0, p1⟩ (fun hHeld => ?_)
  refine pure_ (i := 0) (N := some 20) (v := ?_) (a' := ?_) #[true, false, false, false, false, false, false, false] rfl rfl (by kernel_rfl) (fun _ _ _ h => h) (Or.inl ⟨by rfl, ?_⟩) ?_ ?_
  rotate_left
  · intro w'
    go_simp
    with_reducible rfl
  rotate_left
  · simp only [Act.put, List.setIfInBounds_toArray, List.set_cons_zero, List.set_cons_succ, i64_w, i32_w]
    rfl
  refine pure_ (i := 1) (N := some 21) (v := ?_) (a' := ?_) #[true, true, false, false, false, false, false, false] rfl rfl (by kernel_rfl) (fun _ _ _ h => h) (Or.inl ⟨by rfl, ?_⟩) ?_ ?_
  rotate_left
  · intro w'
    go_simp
    with_reducible rfl
  rotate_left
  · simp only [Act.put, List.setIfInBounds_toArray, List.set_cons_zero, List.set_cons_succ, i64_w, i32_w]
    rfl
  refine pure_ (i := 2) (N := some 22) (v := ?_) (a' := ?_) #[true, true, true, false, false, false, false, false] rfl rfl (by kernel_rfl) (fun _ _ _ h => h) (Or.inl ⟨by rfl, ?_⟩) ?_ ?_
  rotate_left
  · intro w'
    go_simp
    with_reducible rfl
  rotate_left
  · simp only [Act.put, List.setIfInBounds_toArray, List.set_cons_zero, List.set_cons_succ, i64_w, i32_w]
    rfl
  refine pure_ (i := 3) (N := some 23) (v := ?_) (a' := ?_) #[true, true, true, true, false, false, false, false] rfl rfl (by kernel_rfl) (fun _ _ _ h => h) (Or.inl ⟨by rfl, ?_⟩) ?_ ?_
  rotate_left
  · intro w'
    go_simp
    with_reducible rfl
  rotate_left
  · simp only [Act.put, List.setIfInBounds_toArray, List.set_cons_zero, List.set_cons_succ, i64_w, i32_w]
    rfl
  refine pure_ (i := 4) (N := some 24) (v := ?_) (a' := ?_) #[true, true, true, true, true, false, false, false] rfl rfl (by kernel_rfl) (fun _ _ _ h => h) (Or.inl ⟨by rfl, ?_⟩) ?_ ?_
  rotate_left
  · intro w'
    go_simp
    with_reducible rfl
  rotate_left
  · simp only [Act.put, List.setIfInBounds_toArray, List.set_cons_zero, List.set_cons_succ, i64_w, i32_w]
    rfl
  refine pure_ (i := 5) (N := some 25) (v := ?_) (a' := ?_) #[true, true, true, true, true, true, false, false] rfl rfl (by kernel_rfl) (fun _ _ _ h => h) (Or.inl ⟨by rfl, ?_⟩) ?_ ?_
  rotate_left
  · intro w'
    go_simp
    with_reducible rfl
  rotate_left
  · simp only [Act.put, List.setIfInBounds_toArray, List.set_cons_zero, List.set_cons_succ, i64_w, i32_w]
    rfl
  refine last_ (i := 6) (N := some 26) #[true, true, true, true, true, true, true, false] rfl rfl (by kernel_rfl) (by decide) (fun K hK => ?_)
  rw [if_pos (by rfl)]
  refine wp_append_own_spare _ (.tmp 22) (.tmp 25) 64 rfl base 66 i0 2 Try.underlying64 hi0 hz0 g k c (L.take (2 * k)) rfl hHeld.1 ad (n - (k + 1)) (c - (k + 1)) (L.drop (2 * k + 2)) rfl hdl hHeld.2 hd1 (by omega) ?_
  intro w1 hown hgr
  have hW1 := Aside0.mk hown
  have hG1 := Aside0.mk hgr
  refine hK.out _ _ ?_
  clear hK K
  refine norm_ (a' := ?_) ?_ ?_
  rotate_left
  · show Act.put _ (some 26) _ = _
    simp only [Act.put, List.setIfInBounds_toArray, List.set_cons_zero, List.set_cons_succ, i64_w, i32_w]
    rfl
  refine pure_ (i := 7) (N := some 0) (v := ?_) (a' := ?_) #[true, true, true, true, true, true, true, true] rfl rfl (by kernel_rfl) (fun _ _ _ h => h) (Or.inl ⟨by rfl, ?_⟩) ?_ ?_
  rotate_left
  · intro w'
    go_simp
    with_reducible rfl
  rotate_left
  · simp only [Act.put, List.setIfInBounds_toArray, List.set_cons_zero, List.set_cons_succ, i64_w, i32_w]
    rfl
  refine done_ (by kernel_rfl) ?_
  have hm : k + (n - (k + 1)) = n - 1 := by omega
  have hkn : n = n - 1 + 1 := by omega
  have hW2 := hW1.out
  rw [hm] at hW2
  have HW2 := Aside0.mk hW2
  have hcl : ∀ (ty : TypeId) (c' : Nat), (Builtin.clear_ #[64] ty #[.slice (some ⟨g, (n - 1) * 2, none⟩) (n - (n - 1)) c']).run Try.prog w1 = .ok (.tuple #[]) ((w1.setCell ⟨g, (n - 1) * 2, none⟩ (.int .i64 0)).setCell ⟨g, (n - 1) * 2 + 1, none⟩ (.slice none 0 0)) := by
    intro ty c'
    obtain ⟨hl, h | ⟨g', cap, cur, hv, hb, hh, hnc2, hcm, hcs, ht⟩⟩ := hW2
    · exact absurd h.1 (by simp)
    · injection hv with h1 h2 h3
      injection h1 with h1
      injection h1 with h1 _ _
      subst h1 h3
      refine clear_run w1 g _ _ c' (by omega) ?_ ?_ ty
      · intro j hj
        rw [blk_cell hh, Array.getElem?_eq_getElem (by omega)]
        rfl
      · intro j hj
        exact blk_frozen hh _
  have hown2 := owns_set_out (owns_set_out hW2 (o := (n - 1) * 2) (by omega) (.int .i64 0)) (o := (n - 1) * 2 + 1) (by omega) (.slice none 0 0)
  have hgr2 := grown_set (i := (n - 1) * 2 + 1) (v := .slice none 0 0) (grown_set (i := (n - 1) * 2) (v := .int .i64 0) hG1.out)
  have HO2 := Aside0.mk hown2
  have HG2 := Aside0.mk hgr2
  have HK := Aside0.mk hkn
  clear hkn hW2 hown2 hgr2
  go_wp2
  go_ret
  exact ⟨by rw [← hm]; rfl, HO2.out, ⟨HG2.out.os, HG2.out.tape, HG2.out.output, HG2.out.size, HG2.out.block⟩⟩
end Go.Proofs.Ytnadgcdkcabdoaa.Node
namespace Go.Proofs.Ytnadgcdkcabdoaa.NodeN
open Go Go.RowKit Go.Proofs.YtnadgcdkcabdoaaW.PrintWords Go.Proofs.YtnadgcdkcabdoaaW.PrintLast Go.Proofs.YtnadgcdkcabdoaaW.PrintMore Go.Proofs.Ytnadgcdkcabdoaa.Aid Go.Proofs.Ytnadgcdkcabdoaa.HandAid Go.Proofs.Ytnadgcdkcabdoaa.U Go.Proofs.Ytnadgcdkcabdoaa.Node
set_option linter.unusedVariables false
set_option linter.unusedSimpArgs false
theorem delete_calls (w : World) (base g k n c : Nat) (ok : Nat → Prop) (xs : List S66) (hk : k < n) (h : Kd.N k66 66 w base ok (.slice (some ⟨g, 0, none⟩) n c) xs) : Calls Try.prog 64 #[.slice (some ⟨g, 0, none⟩) n c, .int .i64 k, .int .i64 ((k : Int) + 1)] w fun e w' => e = .returned (.slice (some ⟨g, 0, none⟩) (n - 1) c) ∧ Kd.N k66 66 w' base ok (.slice (some ⟨g, 0, none⟩) (n - 1) c) (xs.take k ++ xs.drop (k + 1)) ∧ w.grownBy w' (some g) := by
  have hn := (Kd.N_reads' h).1
  obtain ⟨h0, rows, hl, ⟨hr0, inner, hown, hr⟩, hf⟩ := h
  rw [hl, ← hn] at hown
  have h1 : ∀ u ∈ inner, u.oneCell' = true := Kd.reps_one hr (by decide) (fun p c hp u hu => by first | exact hp.2.2 u hu | exact hp.2 u hu)
  refine (delete_raw w base g k n c inner h1 hk hown).mono ?_
  rintro e w' ⟨rfl, ho, hg⟩
  refine ⟨rfl, ⟨fun q hq => h0 q hq, rows.take k ++ rows.drop (k + 1), ?_, ⟨fun q hq => hr0 q hq, inner.take (2 * k) ++ inner.drop (2 * k + 2), ?_, ?_⟩, ?_⟩, hg⟩
  · simp [hl]
  · rw [show (rows.take k ++ rows.drop (k + 1)).length = n - 1 by simp; omega]
    exact ho
  · have a := Kd.reps_append (Kd.reps_take hr (m := k) (by omega)) (Kd.reps_drop hr (m := k + 1))
    rw [show k * (Kd.raw k66.sz).sz = 2 * k from Nat.mul_comm _ _, show (k + 1) * (Kd.raw k66.sz).sz = 2 * k + 2 by show (k + 1) * 2 = _; omega] at a
    exact a
  · intro j x cc hx hc
    have key : ∃ i : Nat, xs[i]? = some x ∧ rows[i]? = some cc := by
      rcases Nat.lt_or_ge j k with c1 | c1
      · refine ⟨j, ?_, ?_⟩
        · rwa [List.getElem?_append_left (by simp; omega), List.getElem?_take_of_lt c1] at hx
        · rwa [List.getElem?_append_left (by simp; omega), List.getElem?_take_of_lt c1] at hc
      · refine ⟨k + 1 + (j - k), ?_, ?_⟩
        · rw [List.getElem?_append_right (by simp; omega), List.getElem?_drop] at hx
          rwa [show (xs.take k).length = k by simp; omega] at hx
        · rw [List.getElem?_append_right (by simp; omega), List.getElem?_drop] at hc
          rwa [show (rows.take k).length = k by simp; omega] at hc
    obtain ⟨i, hi, hci⟩ := key
    exact Kd.FK_grown (hf i x cc hi hci) hg (fun q hq => hq.2)
end Go.Proofs.Ytnadgcdkcabdoaa.NodeN
namespace Go.Proofs.Ytnadgcdkcabdoaa.Least
open Go Go.RowKit Go.Proofs.YtnadgcdkcabdoaaW.PrintWords Go.Proofs.YtnadgcdkcabdoaaW.PrintLast Go.Proofs.YtnadgcdkcabdoaaW.PrintMore Go.Proofs.Ytnadgcdkcabdoaa.Aid Go.Proofs.Ytnadgcdkcabdoaa.HandAid Go.Proofs.Ytnadgcdkcabdoaa.U Go.Proofs.Ytnadgcdkcabdoaa.Node Go.Proofs.Ytnadgcdkcabdoaa.NodeN
set_option linter.unusedVariables false
set_option linter.unusedSimpArgs false
/-- The place of the first least of the first i nodes. -/
def best (xs : List S66) : Nat → Nat
  | 0 => 0
  | i + 1 => if (rd_T66 xs (i : Int)).f0 < (rd_T66 xs (best xs i : Int)).f0 then i else best xs i
theorem best_lt (xs : List S66) : ∀ i, 0 < i → best xs i < i
  | i + 1, _ => by
    unfold best
    split
    · omega
    · rcases Nat.eq_zero_or_pos i with c | c
      · subst c; exact Nat.zero_lt_one
      · have := best_lt xs i c; omega
theorem best_le (xs : List S66) (i n : Nat) (h : i ≤ n) (hn : 0 < n) : best xs i < n := by
  rcases Nat.eq_zero_or_pos i with c | c
  · subst c; exact hn
  · have := best_lt xs i c; omega
theorem grown_undrew {w wr : World} {row : Option Nat} (h : w.drew.grownBy wr row) : w.grownBy wr row := ⟨h.os, h.tape, h.output, h.size, h.block⟩
theorem grown_far {w wr : World} {p : Addr} {v : Value} {row : Option Nat} (h : w.grownBy wr row) (hp : w.heap.size ≤ p.block) : w.grownBy (wr.setCell p v) row :=
  ⟨h.os, h.tape, h.output, by rw [World.size_setCell]; exact h.size, fun k hk hne => (Below.heap_setCell wr p v k (by omega)).trans (h.block k hk hne)⟩
theorem leastF {w : World} {base g n c q : Nat} {ok : Nat → Prop} {xs : List S66} (h : Kd.N k66 66 w base ok (.slice (some ⟨g, 0, none⟩) n c) xs) (hq : q < xs.length) {A1 : Option Addr} {m c1 : Nat} (hc : w.cell? ⟨g, q * 2 + 1, none⟩ = some (.slice A1 m c1)) : Kd.F (Kd.int .i64) w (fun k => ok k ∧ k ≠ g) A1 (rd_T66 xs (q : Int)).f1.length (rd_T66 xs (q : Int)).f1 := by
  have hn := (Kd.N_reads' h).1
  obtain ⟨cc, hcl, hK, hcc, _⟩ := Kd.N_elem h z66 (q : Int) (by omega) (by omega)
  obtain ⟨A1', c1', he, _, hF⟩ := k66_openF hK
  have h2 := hcc 1 (.slice A1' (rd_T66 xs (q : Int)).f1.length c1') (by rw [he]; rfl)
  rw [show (q : Int).toNat * k66.sz + 1 = q * 2 + 1 from rfl, hc] at h2
  injection h2 with h2
  injection h2 with h2 _ _
  rw [h2]
  exact hF
set_option maxHeartbeats 4000000 in
set_option maxRecDepth 100000 in
theorem least_in (w : World) (base g n c : Nat) (ok : Nat → Prop) (hok : ∀ k, ok k → k < w.heap.size) (xs : List S66) (hpos : 0 < n) (h : Kd.N k66 66 w base ok (.slice (some ⟨g, 0, none⟩) n c) xs) : Calls Try.prog 39 #[.slice (some ⟨g, 0, none⟩) n c] w fun e w' => ∃ A1 c1, e = .returned (.tuple #[.agg #[.int .i64 (rd_T66 xs (best xs n : Nat)).f0, .slice A1 (rd_T66 xs (best xs n : Nat)).f1.length c1], .slice (some ⟨g, 0, none⟩) (n - 1) c]) ∧ (rd_T66 xs (best xs n : Nat)).f1.length ≤ c1 ∧ Kd.F (Kd.int .i64) w' (fun k => ok k ∧ k ≠ g) A1 (rd_T66 xs (best xs n : Nat)).f1.length (rd_T66 xs (best xs n : Nat)).f1 ∧ Kd.N k66 66 w' base ok (.slice (some ⟨g, 0, none⟩) (n - 1) c) (xs.take (best xs n) ++ xs.drop (best xs n + 1)) ∧ w.grownBy w' (some g) := by
  have HL := Aside0.mk (Kd.N_reads' h).1
  have hnc := (Kd.N_reads' h).2.1
  have hmax : n ≤ 9223372036854775807 := by have := (Kd.N_reads' h).1; have := (Kd.N_reads' h).2.2.2.1; omega
  have HN := Aside0.mk h
  have hu := Try.underlying66
  have hgb := Kd.N_lt h g rfl
  clear h
  go_enter Try.func39, Try.ntmps39
  go_wp2
  go_loopw [4, 9] (fun b i wr => ∃ j : Nat, j ≤ n ∧ b = .int .i64 (best xs j : Nat) ∧ i = .int .i64 j ∧ Aside0 (wr.heap[w.heap.size]? = some (.cells #[.int .i64 0, .slice none 0 0] 66 (0, 0))) ∧ Aside0 (Kd.N k66 66 wr base ok (.slice (some ⟨g, 0, none⟩) n c) xs) ∧ Aside0 (w.grownBy wr (some g))) (fun _ i _ => n - (intOf i).toNat)
  case atStart => exact ⟨0, Nat.zero_le _, rfl, rfl, ⟨heap_new w _⟩, ⟨Kd.N_alloc HN.out _⟩, ⟨World.grownBy_alloc w _ _⟩⟩
  clear HN
  case round =>
    obtain ⟨j, hj, rfl, rfl, HZ, HN, HG⟩ := hrel
    have hC := Aside0.mk (Kd.N_reads' HN.out).2.2
    have hbn := best_le xs j n hj hpos
    by_cases hlt : j < n
    · obtain ⟨ad, A1, c1, he, hx0, hx1, hl1, hi1⟩ := at_T66 hC.out (j : Int) (by omega) (by have := HL.out; omega)
      cases he
      obtain ⟨ad, A2, c2, he, hy0, hy1, hl2, hi2⟩ := at_T66 hC.out (best xs j : Int) (by omega) (by have := HL.out; omega)
      cases he
      simp only [Int.toNat_natCast, Addr.add_lit, Nat.zero_add] at hx0 hx1 hy0 hy1
      clear hi1 hi2 hl1 hl2 hx1 hy1
      by_cases hb : (rd_T66 xs (j : Int)).f0 < (rd_T66 xs (best xs j : Int)).f0
      · have hb1 : best xs (j + 1) = j := if_pos hb
        go_wp2
        go_quiet (fail)
        go_wp2
        go_roundw
        case rel => exact ⟨j + 1, by omega, by rw [hb1], by go_num, ⟨HZ.out⟩, ⟨Kd.N_drewN HN.out _⟩, ⟨grown_drewN HG.out _⟩⟩
        case measure => simp [intOf]; omega
      · have hb1 : best xs (j + 1) = best xs j := if_neg hb
        go_wp2
        go_quiet (fail)
        go_wp2
        go_roundw
        case rel => exact ⟨j + 1, by omega, by rw [hb1], by go_num, ⟨HZ.out⟩, ⟨Kd.N_drewN HN.out _⟩, ⟨grown_drewN HG.out _⟩⟩
        case measure => simp [intOf]; omega
    · obtain rfl : j = n := by omega
      obtain ⟨q, hq⟩ : ∃ q, best xs j = q := ⟨_, rfl⟩
      rw [hq] at hbn ⊢
      have HQ := Aside0.mk hq
      obtain ⟨ad, A1, c1, he, hx0, hx1, hl1, hi1⟩ := at_T66 hC.out (q : Int) (by omega) (by have := HL.out; omega)
      cases he
      simp only [Int.toNat_natCast, Addr.add_lit, Nat.zero_add] at hx0 hx1
      have hF := leastF (q := q) HN.out (by have := HL.out; omega) hx1
      obtain ⟨x, hx⟩ : ∃ x, rd_T66 xs (q : Int) = x := ⟨_, rfl⟩
      rw [hx] at hx0 hx1 hl1 hi1 hF
      have HX := Aside0.mk hx
      have HF := Aside0.mk hF
      clear hF hx hq hi1
      go_wp2
      obtain ⟨gx, hgx'⟩ : ∃ gx, wr.heap.size = gx := ⟨_, rfl⟩
      have hzl : w.heap.size < gx := by rw [← hgx']; exact blk_lt HZ.out
      have hgn : some gx ≠ some g := by intro e; injection e with e; omega
      obtain ⟨W0, hW0⟩ : ∃ W0, wr.alloc (.cells #[.int .i64 x.f0, .slice A1 x.f1.length c1] 66) = W0 := ⟨_, rfl⟩
      have b0 : W0.heap[gx]? = some (.cells #[.int .i64 x.f0, .slice A1 x.f1.length c1] 66 (0, 0)) := by rw [← hW0, ← hgx']; exact heap_new wr _
      have NW := Aside0.mk (show Kd.N k66 66 W0 base ok (.slice (some ⟨g, 0, none⟩) j c) xs from hW0 ▸ Kd.N_alloc HN.out _)
      have ZW := Aside0.mk (show W0.heap[w.heap.size]? = some (.cells #[.int .i64 0, .slice none 0 0] 66 (0, 0)) from hW0 ▸ blk_alloc HZ.out _)
      have FW := Aside0.mk (Kd.F_alloc HF.out (.cells #[.int .i64 x.f0, .slice A1 x.f1.length c1] 66))
      rw [hW0] at FW
      have GW := Aside0.mk (show w.grownBy W0 (some g) from hW0 ▸ HG.out.trans (World.grownBy_alloc wr _ _))
      rw [hW0, hgx']
      have p0 : W0.cell? ⟨gx, 0, none⟩ = some (.int .i64 x.f0) := (blk_cell b0 0).trans rfl
      have p1 : W0.cell? ⟨gx, 1, none⟩ = some (.slice A1 x.f1.length c1) := (blk_cell b0 1).trans rfl
      clear hW0 hgx' b0 HF HG HZ HN
      have delD := delete_calls W0.drew base g q j c ok xs hbn (Kd.N_drew NW.out)
      rw [← show wrap64 ((q : Int) + 1) = (q : Int) + 1 from wrap_id (by omega) (by omega)] at delD
      refine start_ (n := 8) (S := fun w' => w'.cell? ⟨gx, 0, none⟩ = some (.int .i64 x.f0) ∧ w'.cell? ⟨gx, 1, none⟩ = some (.slice A1 x.f1.length c1)) (ds := [6]) #[false, false, false, false, false, false, false, false] (by kernel_rfl) rfl rfl ⟨p0, p1⟩ (fun hHeld => ?_)
      refine pure_ (i := 1) (N := some 30) (v := ?_) (a' := ?_) #[false, true, false, false, false, false, false, false] rfl rfl (by kernel_rfl) (fun _ _ _ h => h) (Or.inl ⟨by rfl, ?_⟩) ?_ ?_
      rotate_left
      · intro w'
        go_simp
        with_reducible rfl
      rotate_left
      · simp only [Act.put, List.setIfInBounds_toArray, List.set_cons_zero, List.set_cons_succ, i64_w, i32_w]
        rfl
      refine pure_ (i := 2) (N := some 31) (v := ?_) (a' := ?_) #[false, true, true, false, false, false, false, false] rfl rfl (by kernel_rfl) (fun _ _ _ h => h) (Or.inl ⟨by rfl, ?_⟩) ?_ ?_
      rotate_left
      · intro w'
        go_simp
        with_reducible rfl
      rotate_left
      · simp only [Act.put, List.setIfInBounds_toArray, List.set_cons_zero, List.set_cons_succ, i64_w, i32_w]
        rfl
      refine pure_ (i := 3) (N := some 32) (v := ?_) (a' := ?_) #[false, true, true, true, false, false, false, false] rfl rfl (by kernel_rfl) (fun _ _ _ h => h) (Or.inl ⟨by rfl, ?_⟩) ?_ ?_
      rotate_left
      · intro w'
        go_simp
        with_reducible rfl
      rotate_left
      · simp only [Act.put, List.setIfInBounds_toArray, List.set_cons_zero, List.set_cons_succ, i64_w, i32_w]
        rfl
      refine pure_ (i := 4) (N := some 33) (v := ?_) (a' := ?_) #[false, true, true, true, true, false, false, false] rfl rfl (by kernel_rfl) (fun _ _ _ h => h) (Or.inl ⟨by rfl, ?_⟩) ?_ ?_
      rotate_left
      · intro w'
        go_simp
        with_reducible rfl
      rotate_left
      · simp only [Act.put, List.setIfInBounds_toArray, List.set_cons_zero, List.set_cons_succ, i64_w, i32_w]
        rfl
      refine take_ (i := 0) (N := some 29) (v := ?_) (a' := ?_) #[true, true, true, true, true, false, false, false] rfl rfl (by kernel_rfl) (fun _ _ _ h => h) (Or.inl ⟨by rfl, ?_⟩) hHeld ?_ ?_
      rotate_left
      · rintro w' ⟨s0, s1⟩
        go_simp
        with_reducible rfl
      rotate_left
      · simp only [Act.put, List.setIfInBounds_toArray, List.set_cons_zero, List.set_cons_succ, i64_w, i32_w]
        rfl
      refine one_ (i := 5) (N := some 34) #[true, true, true, true, true, true, false, false] rfl rfl (by kernel_rfl) (by decide) (fun K hK => ?_)
      refine goes_ Try.func64 (by kernel_rfl) rfl #[.slice (some ⟨g, 0, none⟩) j c, .int .i64 q, .int .i64 (wrap64 ((q : Int) + 1))] (by rfl) rfl rfl (by simp only [List.map_toArray, List.map_cons, List.map_nil]; rfl) ?_
      with_reducible refine (delD).mono ?_
      rintro e w3 ⟨rfl, hn3, hg3⟩
      refine ⟨_, rfl, ?_⟩
      have HN3 := Aside0.mk hn3
      have HG3 := Aside0.mk hg3
      have t0 : w3.cell? ⟨gx, 0, none⟩ = some (.int .i64 x.f0) := hg3.cell p0 hgn
      have t1 : w3.cell? ⟨gx, 1, none⟩ = some (.slice A1 x.f1.length c1) := hg3.cell p1 hgn
      have zb : w3.heap[w.heap.size]? = some (.cells #[.int .i64 0, .slice none 0 0] 66 (0, 0)) := (hg3.block _ (blk_lt ZW.out) (by intro e; injection e with e; omega)).trans ZW.out
      have z0 : w3.cell? ⟨w.heap.size, 0, none⟩ = some (.int .i64 0) := (blk_cell zb 0).trans rfl
      have z1 : w3.cell? ⟨w.heap.size, 1, none⟩ = some (.slice none 0 0) := (blk_cell zb 1).trans rfl
      have zf0 := blk_frozen zb 0
      have zf1 := blk_frozen zb 1
      have ZB := Aside0.mk zb
      clear hn3 hg3 zb
      refine hK.out _ _ ⟨t0, t1⟩ (fun hHeld => ?_)
      clear hK K
      refine norm_ (a' := ?_) ?_ ?_
      rotate_left
      · show Act.put _ (some 34) _ = _
        simp only [Act.put, List.setIfInBounds_toArray, List.set_cons_zero, List.set_cons_succ, i64_w, i32_w]
        rfl
      refine last_ (i := 6) (N := none) #[true, true, true, true, true, true, true, false] rfl rfl (by kernel_rfl) (by decide) (fun K hK => ?_)
      refine skip_ (w1 := ?_) (by rfl) rfl ?_ ?_
      rotate_left
      · go_simp
        rfl
      refine hK.out _ _ ?_
      clear hK K
      refine pure_ (i := 7) (N := some 3) (v := ?_) (a' := ?_) #[true, true, true, true, true, true, true, true] rfl rfl (by kernel_rfl) (fun _ _ _ h => h) (Or.inl ⟨by rfl, ?_⟩) ?_ ?_
      rotate_left
      · intro w'
        go_simp
        with_reducible rfl
      rotate_left
      · simp only [Act.put, List.setIfInBounds_toArray, List.set_cons_zero, List.set_cons_succ, i64_w, i32_w]
        rfl
      refine done_ (by kernel_rfl) ?_
      go_wp2
      have e4 := blk_set (blk_set ZB.out 0 (.int .i64 x.f0)) 1 (.slice A1 x.f1.length c1)
      have y0 : ((w3.setCell ⟨w.heap.size, 0, none⟩ (.int .i64 x.f0)).setCell ⟨w.heap.size, 1, none⟩ (.slice A1 x.f1.length c1)).cell? ⟨w.heap.size, 0, none⟩ = some (.int .i64 x.f0) := (blk_cell e4 0).trans rfl
      have y1 : ((w3.setCell ⟨w.heap.size, 0, none⟩ (.int .i64 x.f0)).setCell ⟨w.heap.size, 1, none⟩ (.slice A1 x.f1.length c1)).cell? ⟨w.heap.size, 1, none⟩ = some (.slice A1 x.f1.length c1) := (blk_cell e4 1).trans rfl
      refine bodyPost_ret (v := .tuple #[.agg #[.int .i64 x.f0, .slice A1 x.f1.length c1], .slice (some ⟨g, 0, none⟩) (j - 1) c]) ?_ rfl ?_
      · rw [results_cell_tmp rfl]
        go_simp
      · rw [HQ.out, HX.out]
        have k1 : ∀ k, (ok k ∧ k ≠ g) → k ≠ w.heap.size := fun k hk => by have := hok k hk.1; omega
        have k2 : ∀ k, ok k → k ≠ w.heap.size := fun k hk => by have := hok k hk; omega
        refine ⟨A1, c1, rfl, hl1, ?_, ?_, ?_⟩
        · exact Kd.F_far (Kd.F_far (Kd.F_grown (Kd.F_drew FW.out) HG3.out (fun k hk e => hk.2 (by injection e))) k1 _) k1 _
        · exact Kd.N_far (Kd.N_far HN3.out k2 _) k2 _
        · exact grown_far (grown_far (GW.out.trans (grown_undrew HG3.out)) (Nat.le_refl _)) (Nat.le_refl _)
theorem least_calls (w : World) (base g n c : Nat) (ok : Nat → Prop) (xs : List S66) (hpos : 0 < n) (h : Kd.N k66 66 w base ok (.slice (some ⟨g, 0, none⟩) n c) xs) : Calls Try.prog 39 #[.slice (some ⟨g, 0, none⟩) n c] w fun e w' => ∃ A1 c1, e = .returned (.tuple #[.agg #[.int .i64 (rd_T66 xs (best xs n : Nat)).f0, .slice A1 (rd_T66 xs (best xs n : Nat)).f1.length c1], .slice (some ⟨g, 0, none⟩) (n - 1) c]) ∧ (rd_T66 xs (best xs n : Nat)).f1.length ≤ c1 ∧ Kd.F (Kd.int .i64) w' (fun k => ok k ∧ k ≠ g) A1 (rd_T66 xs (best xs n : Nat)).f1.length (rd_T66 xs (best xs n : Nat)).f1 ∧ Kd.N k66 66 w' base ok (.slice (some ⟨g, 0, none⟩) (n - 1) c) (xs.take (best xs n) ++ xs.drop (best xs n + 1)) ∧ w.grownBy w' (some g) := by
  refine (least_in w base g n c (fun k => ok k ∧ k < w.heap.size) (fun k hk => hk.2) xs hpos (Kd.N_bound h)).mono ?_
  rintro e w' ⟨A1, c1, he, hl, hF, hN, hg⟩
  exact ⟨A1, c1, he, hl, Kd.F_mono hF (fun k hk => ⟨hk.1.1, hk.2⟩), Kd.N_mono hN (fun k hk => hk.1), hg⟩
end Go.Proofs.Ytnadgcdkcabdoaa.Least
namespace Go.Proofs.Ytnadgcdkcabdoaa.U
open Go Go.RowKit Go.Proofs.YtnadgcdkcabdoaaW.PrintWords Go.Proofs.YtnadgcdkcabdoaaW.PrintLast Go.Proofs.YtnadgcdkcabdoaaW.PrintMore Go.Proofs.Ytnadgcdkcabdoaa.Aid Go.Proofs.Ytnadgcdkcabdoaa.HandAid Go.Proofs.Ytnadgcdkcabdoaa.Node Go.Proofs.Ytnadgcdkcabdoaa.NodeN Go.Proofs.Ytnadgcdkcabdoaa.Least
set_option linter.unusedVariables false
def prefix_least.f (l : List S66) : Option (Int × List Int × List S66) :=
  if l = [] then none else some ((rd_T66 l (best l l.length : Nat)).f0, (rd_T66 l (best l l.length : Nat)).f1, l.take (best l l.length) ++ l.drop (best l l.length + 1))
/-- What least takes out of a list of nodes: in place. -/
theorem prefix_least.callsN (base : Nat) (ok : Nat → Prop) (A : Option Addr) (c : Nat) (l : List S66) (r0 : Int) (r1 : List Int) (r2 : List S66) (w : World) (h : Kd.N k66 66 w base ok (.slice A l.length c) l) (hf : prefix_least.f l = some (r0, r1, r2)) :
    Calls Try.prog 39 #[.slice A l.length c] w fun e w' => ∃ v0 v1 : Value, e = .returned (.tuple #[.agg #[.int .i64 r0, v0], v1]) ∧ Kd.V (Kd.int .i64) 3 w' base (fun k => ok k ∧ some k ≠ (Value.slice A l.length c).ownBlock) v0 r1 ∧ Kd.N k66 66 w' base ok v1 r2 ∧ w.grownBy w' (Value.slice A l.length c).ownBlock ∧ v1.ownBlock = (Value.slice A l.length c).ownBlock := by
  unfold prefix_least.f at hf
  split at hf
  · simp at hf
  · rename_i hne
    simp only [Option.some.injEq, Prod.mk.injEq] at hf
    obtain ⟨rfl, rfl, rfl⟩ := hf
    have hpos : 0 < l.length := List.length_pos_iff.2 hne
    obtain ⟨g, cap, hv, _⟩ := Kd.N_form h (by omega)
    injection hv with hA _ _
    subst hA
    have hb := best_le l l.length l.length (Nat.le_refl _) hpos
    refine (least_calls w base g l.length c ok l hpos h).mono ?_
    rintro e w' ⟨A1, c1, rfl, hl, hF, hN, hg⟩
    refine ⟨.slice A1 _ c1, .slice (some ⟨g, 0, none⟩) (l.length - 1) c, rfl, Kd.V_mk hl (Kd.F_mono hF (fun k hk => ⟨hk.1, ?_⟩)), ?_, ?_, ?_⟩
    · intro e
      exact hk.2 (by simpa [Value.ownBlock] using e)
    · exact hN
    · simpa [Value.ownBlock] using hg
    · rfl
end Go.Proofs.Ytnadgcdkcabdoaa.U
