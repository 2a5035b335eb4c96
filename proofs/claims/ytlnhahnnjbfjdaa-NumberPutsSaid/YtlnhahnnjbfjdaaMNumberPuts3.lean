import Derived.Test.YtlnhahnnjbfjdaaMNumberPuts1
import Derived.Test.YtlnhahnnjbfjdaaMNumberPuts2
import Derived.Laws.ResultCell
import Derived.RegionTactic
import Derived.ChangeAlike
import Derived.BigRegion
import Derived.Deep.RegionWith
import Derived.IntWalk
set_option linter.unusedVariables false
set_option linter.unusedSimpArgs false
namespace Go.Proofs.Ytlnhahnnjbfjdaa.Get
open Go Go.RowKit Go.Proofs.YtlnhahnnjbfjdaaW.PrintWords Go.Proofs.YtlnhahnnjbfjdaaW.PrintLast Go.Proofs.YtlnhahnnjbfjdaaW.PrintMore Go.Proofs.Ytlnhahnnjbfjdaa.Aid Go.Proofs.Ytlnhahnnjbfjdaa.HandAid Go.Proofs.Ytlnhahnnjbfjdaa.Cod1 Go.Proofs.Ytlnhahnnjbfjdaa.Cod2 Go.Proofs.Ytlnhahnnjbfjdaa.Cod3 Go.Proofs.Ytlnhahnnjbfjdaa.Mod Go.Proofs.Ytlnhahnnjbfjdaa.Enc Go.Proofs.Ytlnhahnnjbfjdaa.Mods Go.Proofs.Ytlnhahnnjbfjdaa.EncAt Go.Proofs.Ytlnhahnnjbfjdaa.Put Go.Proofs.Ytlnhahnnjbfjdaa.End Go.Proofs.Ytlnhahnnjbfjdaa.Snc Go.Proofs.Ytlnhahnnjbfjdaa.Dec
theorem exec_load_row {P : Program} {o : Oper} {a : Act} {w : World} (ty : TypeId) (x : Operand) (ho : o.op = .load ty x)
    (g : Nat) (hx : a.eval x = .pointer (some ⟨g, 0, none⟩)) (t : TypeId) (cs : Array Value) (fr : Nat × Nat) (d : TypeDesc) (hg : w.heap[g]? = some (.cells cs t fr))
    (hu : P.underlying ty = some d) (hd : (match d with | .struct _ | .array _ _ => true | _ => false) = true) (hi : (P.info? ty).map (·.size) = some cs.size) : (execOp a.eval o).run P w = .ok (.value (.agg cs)) w := by
  unfold execOp
  simp only [ho, hx, Instr.loadAt, Instr.sureAddr, Sem.run_bind, Sem.run_pure, Result.andThen_ok, run_loadVar_row w g t ty cs fr d hg hu hd hi]
theorem exec_store_row {P : Program} {o : Oper} {a : Act} {w : World} (ty : TypeId) (x y : Operand) (ho : o.op = .store ty x y)
    (g : Nat) (cells : Array Value) (hx : a.eval x = .pointer (some ⟨g, 0, none⟩)) (hy : a.eval y = .agg cells)
    (t : TypeId) (old : Array Value) (hg : w.heap[g]? = some (.cells old t (0, 0))) (hi : (P.info? ty).map (·.size) = some cells.size)
    (hold : old.size = cells.size) (h1 : cells.all (·.oneCell') = true) : (execOp a.eval o).run P w = .ok .skip (w.setRow g cells) := by
  unfold execOp
  simp only [ho, hx, hy, Instr.storeAt, Instr.sureAddr, Sem.run_bind, Sem.run_pure, Result.andThen_ok, run_storeVar_row w g t ty old cells hg hi hold h1]
theorem info42 {row : Array Value} (h : row.size = 42) : (Try.prog.info? 98).map (·.size) = some row.size := by rw [h]; kernel_rfl
theorem dec42_size (kind : Int) (v : Value) (low high : Int) (vc : Value) (a value be : Int) (ended real : Bool) : (dec42 kind v low high vc a value be ended real).size = 42 := rfl
theorem one42 (kind : Int) (A : Option Addr) (n c : Nat) (low high : Int) (Ac : Option Addr) (nc cc : Nat) (a value be : Int) (ended real : Bool) : (dec42 kind (.slice A n c) low high (.slice Ac nc cc) a value be ended real).all (·.oneCell') = true := by simp [dec42, Value.oneCell']
def z42 : Array Value := #[.int .i64 0, .slice none 0 0, .int .i64 0, .int .i64 0, .int .i64 0, .int .i64 0, .int .i64 0, .int .i64 0, .int .i64 0, .int .i64 0, .int .i64 0, .int .i64 0, .int .i64 0, .int .i64 0, .int .i64 0, .int .i64 0, .int .i64 0, .int .i64 0, .int .i64 0, .int .i64 0, .int .i64 0, .int .i64 0, .int .i64 0, .int .i64 0, .int .i64 0, .int .i64 0, .int .i64 0, .int .i64 0, .int .i64 0, .int .i64 0, .int .i64 0, .int .i64 0, .int .i64 0, .int .i64 0, .int .u64 0, .int .u64 0, .slice none 0 0, .int .i64 0, .int .u64 0, .int .i64 0, .bool false, .bool false]
theorem z42_def : z42 = #[.int .i64 0, .slice none 0 0, .int .i64 0, .int .i64 0, .int .i64 0, .int .i64 0, .int .i64 0, .int .i64 0, .int .i64 0, .int .i64 0, .int .i64 0, .int .i64 0, .int .i64 0, .int .i64 0, .int .i64 0, .int .i64 0, .int .i64 0, .int .i64 0, .int .i64 0, .int .i64 0, .int .i64 0, .int .i64 0, .int .i64 0, .int .i64 0, .int .i64 0, .int .i64 0, .int .i64 0, .int .i64 0, .int .i64 0, .int .i64 0, .int .i64 0, .int .i64 0, .int .i64 0, .int .i64 0, .int .u64 0, .int .u64 0, .slice none 0 0, .int .i64 0, .int .u64 0, .int .i64 0, .bool false, .bool false] := rfl
theorem set_back {st : List Int} {i : Nat} (y : Int) (hi : i < st.length) : (st.set i y).set i (rd st i) = st := by
  rw [List.set_set]
  apply List.ext_getElem?
  intro k
  rw [List.getElem?_set]
  by_cases hk : i = k
  · subst hk
    rw [if_pos rfl, if_pos hi, List.getElem?_eq_getElem hi]
    simp [rd, List.getD_eq_getElem?_getD, List.getElem?_eq_getElem hi]
  · rw [if_neg hk]
theorem setRow_size (W : World) (g : Nat) (cs : Array Value) : (W.setRow g cs).heap.size = W.heap.size := by
  simp [World.setRow]
theorem mods_setRow {w W : World} {S : Nat → Prop} (h : Mods w W S) {g : Nat} (hg : S g) (cs : Array Value) : Mods w (W.setRow g cs) S :=
  h.then_ (S2 := fun k => k = g) ⟨rfl, rfl, rfl, by rw [setRow_size]; exact Nat.le_refl _, fun i _ hn => setRow_other _ _ _ _ hn⟩ (fun k hk => by rw [hk]; exact .inl hg)
theorem dec_setRow {W : World} {S : Nat → Prop} {g : Nat} {kind : Int} {A : Option Addr} {c : Nat} {st : List Int} {low high : Int} {vc : Value} {code : List Int} {a : Nat} {value : Int} {ended : Bool} (h : DecRow W S g kind A c st low high vc code a value ended) {st' : List Int} (hst : st'.length = st.length) (kind' low' high' : Int) (a' : Nat) (value' : Int) (ended' : Bool) : DecRow (W.setRow g (dec42 kind' (.slice A st'.length c) low' high' vc a' value' ((a' - code.length : Nat) : Int) ended' true)) S g kind' A c st low' high' vc code a' value' ended' :=
  ⟨hst ▸ setRow_heap W g _ _ _ _ h.b, Kd.R_mono (Kd.R_step (Kd.R_types h.s h.b (by decide)) fun k hk _ => setRow_other _ _ _ _ hk.2) (fun _ hk => hk.1), Kd.R_mono (Kd.R_step (Kd.R_types h.o h.b (by decide)) fun k hk _ => setRow_other _ _ _ _ hk.2) (fun _ hk => hk.1), h.g⟩
/-- What a Get that takes a bit leaves. -/
def GetPost (w : World) (S : Nat → Prop) (g : Nat) (kind : Int) (b c : Nat) (st : List Int) (low high mid : Int) (vc : Value) (code : List Int) (a : Nat) (value : Int) (i : Nat) (bit : Int) (e : Ending) (w' : World) : Prop :=
  (∃ l h n, normE 4 (cutL low mid bit) (cutH high mid bit) = (n, l, h) ∧ ((a + n.length - code.length > 4 ∧ e = .returned (.tuple #[.int .i64 0, .int .i64 6]) ∧ DecRow w' S g kind (some ⟨b, 0, none⟩) c st low high vc code a value true) ∨ (¬ a + n.length - code.length > 4 ∧ e = .returned (.tuple #[.int .i64 bit, .int .i64 0]) ∧ DecRow w' S g kind (some ⟨b, 0, none⟩) c (st.set i (after kind (rd st i) bit)) l h vc code (a + n.length) (shV code n.length value a) false))) ∧ Mods w w' S
set_option maxHeartbeats 4000000 in
set_option maxRecDepth 100000 in
theorem get_row0 (w : World) (S : Nat → Prop) (g : Nat) (kind : Int) (b c : Nat) (st : List Int) (low high mid : Int) (vc : Value) (code : List Int) (a : Nat) (value : Int) (i : Nat) (hE : DecRow w S g kind (some ⟨b, 0, none⟩) c st low high vc code a value false) (hSb : ∀ k, S k → k < w.heap.size) (hi : i < st.length) (hn : st.length ≤ 8192) (hs : okState kind (rd st i)) (hl0 : 0 ≤ low) (hlh : low ≤ high) (hh : high ≤ 4294967295) (hmid : midOf low high (likely kind (rd st i)) = mid) (hm0 : 0 ≤ mid) (hm1 : mid ≤ 4294967295) (hI0 : PutInv [] (cutL low mid 0) (cutH high mid 0) 4 (cutL low mid 0) (cutH high mid 0) []) (hv0 : 0 ≤ value) (hv1 : value ≤ 4294967295) (hby : Bytes code) (hlen : code.length ≤ 1099511627776) (ha : a - code.length ≤ 4) (hvb : ¬ value ≤ mid) :
    Calls Try.prog 56 #[.pointer (some ⟨g, 0, none⟩), .int .i64 i] w (GetPost w S g kind b c st low high mid vc code a value i 0) := by
  have HE := Aside0.mk hE
  have hSg : S g := hE.g
  obtain ⟨Ac, cc, hvc⟩ := Kd.R_slice hE.o
  subst hvc
  have h2 := hE.c41
  have k40 := hE.c40
  have k1 := hE.iv.s
  have HMID := Aside0.mk (hmid ▸ mid_calls w g kind (some ⟨b, 0, none⟩) st.length c low high i (rd st i) hE.iv ⟨_, rfl, by obtain ⟨b', hA, hc, _⟩ := hE.cell hi; cases hA; rw [add_plain]; exact hc⟩ hi hn hs hl0 hlh hh)
  have HI := Aside0.mk hI0
  have HBY := Aside0.mk hby
  have HSB := Aside0.mk hSb
  clear hE hmid hI0 hby hSb
  have hi1 : (0 : Int) ≤ (i : Int) := by omega
  have hi2 : (i : Int) < (st.length : Int) := by omega
  go_enter Try.func56, Try.ntmps56
  go_wp2_with (first
    | (go_at_call 62; refine (dec_none _ _ _ h2).mono ?_; rintro e w' ⟨rfl, rfl⟩)
    | (go_at_call 73; refine HMID.out.mono ?_; rintro e w3 ⟨rfl, hb3⟩; have HE3 := Aside0.mk (HE.out.below hb3); have HK3 := Aside0.mk ((Mods.refl w S).below hb3); clear hb3; have k38 := HE3.out.c38))
  clear h2 k40 k1 k38
  obtain ⟨row, hrow⟩ : ∃ row, (dec42 kind (.slice (some ⟨b, 0, none⟩) st.length c) low high (.slice Ac code.length cc) a value ((a - code.length : Nat) : Int) false true) = row := ⟨_, rfl⟩
  have hsz : row.size = 42 := by rw [← hrow]; rfl
  have hone : row.all (·.oneCell') = true := by rw [← hrow]; exact one42 _ _ _ _ _ _ _ _ _ _ _ _ _ _
  have p0 : w3.drew.heap[g]? = some (.cells row 98 (0, 0)) := by rw [← hrow]; exact HE3.out.b
  have p1 := HE3.out.drew.iv.s
  have p2 : w3.drew.cell? ⟨b, i, none⟩ = some (.int .i64 (rd st i)) := by
    obtain ⟨b3, hA3, hc3, _⟩ := HE3.out.cell hi
    cases hA3
    exact hc3
  have HROW := Aside0.mk hrow
  have HE3 := Aside0.mk HE3.out.drew
  have HK3 := Aside0.mk HK3.out.drew
  clear hrow
  refine start_ (n := 15) (S := fun w' => w'.heap[g]? = some (.cells row 98 (0, 0)) ∧ w'.cell? ⟨g, 1, none⟩ = some (.slice (some ⟨b, 0, none⟩) st.length c) ∧ w'.cell? ⟨b, i, none⟩ = some (.int .i64 (rd st i))) (ds := []) #[false, false, false, false, false, false, false, false, false, false, false, false, false, false, false] (by kernel_rfl) rfl rfl ⟨p0, p1, p2⟩ (fun hHeld => ?_)
  generalize w3.drew = wd at p0 p1 p2 HE3 HK3 hHeld ⊢
  refine pure_ (i := 0) (N := some 43) (v := ?_) (a' := ?_) #[true, false, false, false, false, false, false, false, false, false, false, false, false, false, false] rfl rfl (by kernel_rfl) (fun _ _ _ h => h) (Or.inl ⟨by rfl, ?_⟩) ?_ ?_
  rotate_left
  · intro w'
    go_simp
    with_reducible rfl
  rotate_left
  · simp only [Act.put, List.setIfInBounds_toArray, List.set_cons_zero, List.set_cons_succ, i64_w, i32_w]
    rfl
  refine pure_ (i := 1) (N := some 44) (v := ?_) (a' := ?_) #[true, true, false, false, false, false, false, false, false, false, false, false, false, false, false] rfl rfl (by kernel_rfl) (fun _ _ _ h => h) (Or.inl ⟨by rfl, ?_⟩) ?_ ?_
  rotate_left
  · intro w'
    go_simp
    with_reducible rfl
  rotate_left
  · simp only [Act.put, List.setIfInBounds_toArray, List.set_cons_zero, List.set_cons_succ, i64_w, i32_w]
    rfl
  refine pure_ (i := 3) (N := some 46) (v := ?_) (a' := ?_) #[true, true, false, true, false, false, false, false, false, false, false, false, false, false, false] rfl rfl (by kernel_rfl) (fun _ _ _ h => h) (Or.inl ⟨by rfl, ?_⟩) ?_ ?_
  rotate_left
  · intro w'
    go_simp
    with_reducible rfl
  rotate_left
  · simp only [Act.put, List.setIfInBounds_toArray, List.set_cons_zero, List.set_cons_succ, i64_w, i32_w]
    rfl
  refine pure_ (i := 4) (N := some 47) (v := ?_) (a' := ?_) #[true, true, false, true, true, false, false, false, false, false, false, false, false, false, false] rfl rfl (by kernel_rfl) (fun _ _ _ h => h) (Or.inl ⟨by rfl, ?_⟩) ?_ ?_
  rotate_left
  · intro w'
    go_simp
    with_reducible rfl
  rotate_left
  · simp only [Act.put, List.setIfInBounds_toArray, List.set_cons_zero, List.set_cons_succ, i64_w, i32_w]
    rfl
  refine pure_ (i := 5) (N := some 48) (v := ?_) (a' := ?_) #[true, true, false, true, true, true, false, false, false, false, false, false, false, false, false] rfl rfl (by kernel_rfl) (fun _ _ _ h => h) (Or.inl ⟨by rfl, ?_⟩) ?_ ?_
  rotate_left
  · intro w'
    go_simp
    with_reducible rfl
  rotate_left
  · simp only [Act.put, List.setIfInBounds_toArray, List.set_cons_zero, List.set_cons_succ, i64_w, i32_w]
    rfl
  refine pure_ (i := 6) (N := some 49) (v := ?_) (a' := ?_) #[true, true, false, true, true, true, true, false, false, false, false, false, false, false, false] rfl rfl (by kernel_rfl) (fun _ _ _ h => h) (Or.inl ⟨by rfl, ?_⟩) ?_ ?_
  rotate_left
  · intro w'
    go_simp
    with_reducible rfl
  rotate_left
  · simp only [Act.put, List.setIfInBounds_toArray, List.set_cons_zero, List.set_cons_succ, i64_w, i32_w]
    rfl
  refine pure_ (i := 7) (N := some 50) (v := ?_) (a' := ?_) #[true, true, false, true, true, true, true, true, false, false, false, false, false, false, false] rfl rfl (by kernel_rfl) (fun _ _ _ h => h) (Or.inl ⟨by rfl, ?_⟩) ?_ ?_
  rotate_left
  · intro w'
    go_simp
    with_reducible rfl
  rotate_left
  · simp only [Act.put, List.setIfInBounds_toArray, List.set_cons_zero, List.set_cons_succ, i64_w, i32_w]
    rfl
  refine pure_ (i := 9) (N := some 52) (v := ?_) (a' := ?_) #[true, true, false, true, true, true, true, true, false, true, false, false, false, false, false] rfl rfl (by kernel_rfl) (fun _ _ _ h => h) (Or.inl ⟨by rfl, ?_⟩) ?_ ?_
  rotate_left
  · intro w'
    go_simp
    with_reducible rfl
  rotate_left
  · simp only [Act.put, List.setIfInBounds_toArray, List.set_cons_zero, List.set_cons_succ, i64_w, i32_w]
    rfl
  refine take_ (i := 2) (N := some 45) (v := ?_) (a' := ?_) #[true, true, true, true, true, true, true, true, false, true, false, false, false, false, false] rfl rfl (by kernel_rfl) (fun _ _ _ h => h) (Or.inl ⟨by rfl, ?_⟩) hHeld ?_ ?_
  rotate_left
  · rintro w' ⟨s0, s1, s2⟩
    refine exec_load_row _ (.tmp 44) ?_ g ?_ 98 row (0, 0) _ s0 Try.underlying98 rfl (info42 hsz)
    · rfl
    · rfl
  rotate_left
  · simp only [Act.put, List.setIfInBounds_toArray, List.set_cons_zero, List.set_cons_succ, i64_w, i32_w]
    rfl
  refine take_ (i := 8) (N := some 51) (v := ?_) (a' := ?_) #[true, true, true, true, true, true, true, true, true, true, false, false, false, false, false] rfl rfl (by kernel_rfl) (fun _ _ _ h => h) (Or.inl ⟨by rfl, ?_⟩) hHeld ?_ ?_
  rotate_left
  · rintro w' ⟨s0, s1, s2⟩
    go_simp
    with_reducible rfl
  rotate_left
  · simp only [Act.put, List.setIfInBounds_toArray, List.set_cons_zero, List.set_cons_succ, i64_w, i32_w]
    rfl
  refine pure_ (i := 10) (N := some 53) (v := ?_) (a' := ?_) #[true, true, true, true, true, true, true, true, true, true, true, false, false, false, false] rfl rfl (by kernel_rfl) (fun _ _ _ h => h) (Or.inl ⟨by rfl, ?_⟩) ?_ ?_
  rotate_left
  · intro w'
    go_simp
    with_reducible rfl
  rotate_left
  · simp only [Act.put, List.setIfInBounds_toArray, List.set_cons_zero, List.set_cons_succ, i64_w, i32_w]
    rfl
  refine take_ (i := 11) (N := some 54) (v := ?_) (a' := ?_) #[true, true, true, true, true, true, true, true, true, true, true, true, false, false, false] rfl rfl (by kernel_rfl) (fun _ _ _ h => h) (Or.inl ⟨by rfl, ?_⟩) hHeld ?_ ?_
  rotate_left
  · rintro w' ⟨s0, s1, s2⟩
    go_simp
    with_reducible rfl
  rotate_left
  · simp only [Act.put, List.setIfInBounds_toArray, List.set_cons_zero, List.set_cons_succ, i64_w, i32_w]
    rfl
  refine one_ (i := 12) (N := some 8) #[true, true, true, true, true, true, true, true, true, true, true, true, true, false, false] rfl rfl (by kernel_rfl) (by decide) (fun K hK => ?_)
  refine value_ (w1 := ?_) (v := ?_) (by rfl) rfl ?_ ?_
  rotate_left 2
  · go_simp
    constructor
    · rfl
    · rfl
  refine hK.out _ _ ⟨blk_alloc p0 _, pw_cell_below (below_alloc (Below.refl _ _) _) p1, pw_cell_below (below_alloc (Below.refl _ _) _) p2⟩ (fun hHeld => ?_)
  clear hK K
  refine norm_ (a' := ?_) ?_ ?_
  rotate_left
  · show Act.put _ (some 8) _ = _
    simp only [Act.put, List.setIfInBounds_toArray, List.set_cons_zero, List.set_cons_succ, i64_w, i32_w]
    rfl
  refine one_ (i := 13) (N := none) #[true, true, true, true, true, true, true, true, true, true, true, true, true, true, false] rfl rfl (by kernel_rfl) (by decide) (fun K hK => ?_)
  refine skip_ (w1 := ?_) (by rfl) rfl ?_ ?_
  rotate_left
  · refine exec_store_row _ (.tmp 8) (.tmp 45) ?_ wd.heap.size row ?_ ?_ 98 _ (heap_new wd _) (info42 hsz) ?_ hone
    · rfl
    · rfl
    · rfl
    · exact hsz.symm
  refine hK.out _ _ ⟨blk_below p0 (below_setRow (below_alloc (Below.refl _ _) _) (Nat.le_refl _) _), pw_cell_below (below_setRow (below_alloc (Below.refl _ _) _) (Nat.le_refl _) _) p1, pw_cell_below (below_setRow (below_alloc (Below.refl _ _) _) (Nat.le_refl _) _) p2⟩ (fun hHeld => ?_)
  clear hK K
  refine pure_ (i := 14) (N := some 9) (v := ?_) (a' := ?_) #[true, true, true, true, true, true, true, true, true, true, true, true, true, true, true] rfl rfl (by kernel_rfl) (fun _ _ _ h => h) (Or.inl ⟨by rfl, ?_⟩) ?_ ?_
  rotate_left
  · intro w'
    go_simp
    with_reducible rfl
  rotate_left
  · simp only [Act.put, List.setIfInBounds_toArray, List.set_cons_zero, List.set_cons_succ, i64_w, i32_w]
    rfl
  refine done_ (by kernel_rfl) ?_
  rw [← z42_def]
  obtain ⟨q, hq⟩ : ∃ q, wd.heap.size = q := ⟨_, rfl⟩
  have HQ0 := Aside0.mk (setRow_heap (wd.alloc (.cells z42 98)) wd.heap.size z42 row 98 (0, 0) (heap_new wd _))
  have HB0 := Aside0.mk (below_setRow (below_alloc (Below.refl wd.heap.size wd) (.cells z42 98)) (Nat.le_refl _) row)
  generalize hW5 : (wd.alloc (.cells z42 98)).setRow wd.heap.size row = w5 at HQ0 HB0 ⊢
  rw [hq] at HQ0 ⊢
  have HE5 := Aside0.mk (HE3.out.below HB0.out)
  have HK5 := Aside0.mk (HK3.out.below HB0.out)
  have HQS := Aside0.mk (show ¬ S q from fun hk => by have h1 := HSB.out q hk; have h2 := HK3.out.size; omega)
  clear hW5 hq HB0 HE3 HK3 p0 p1 p2
  have HT := Aside0.mk (take_calls w5 g kind st.length c low high i (rd st i) mid 0 ⟨b, 0, none⟩ HE5.out.iv)
  go_wp2_with (go_at_call 74; obtain ⟨b3, hA3, hc3, hf3, hne3⟩ := HE5.out.cell hi; cases hA3; refine (HT.out (by rw [add_plain]; exact hc3) (by rw [add_plain]; exact hf3) hne3 hi hn hs (by decide) hm0 hm1).mono ?_; rintro e w4 ⟨rfl, w4', hb4, hw4⟩; rw [add_plain] at hw4; have HE4 := Aside0.mk (show DecRow w4 S g kind (some ⟨b, 0, none⟩) c (st.set i (after kind (rd st i) 0)) (cutL low mid 0) (cutH high mid 0) (.slice Ac code.length cc) code a value false from hw4 ▸ (((HE5.out.cut 0 mid).below (by rw [cutW_size]; exact hb4)).setst hi _)); have hsb : S b := HE5.out.s.1 b (by simp [Value.ownBlock]); have HK4 := Aside0.mk (show Mods w5 w4 S from hw4 ▸ ((((Mods.refl w5 S).then_ (cut_kept 0 mid HE5.out.g) (fun _ h => .inl h)).below (by rw [cutW_size]; exact hb4)).setCell (.inl hsb) _)); clear hb4 hw4 hc3 hf3 hne3)
  clear HT HE5
  obtain ⟨st', hst'⟩ : ∃ st' : List Int, st.set i (after kind (rd st i) 0) = st' := ⟨_, rfl⟩
  have HST := Aside0.mk hst'
  have HSL := Aside0.mk (show st'.length = st.length by rw [← hst']; exact List.length_set)
  rw [hst'] at HE4
  clear hst'
  go_loopg [] 4 (fun d wr => ∃ (l h : Int) (n : List Int), Aside0 (DecRow wr S g kind (some ⟨b, 0, none⟩) c st' l h (.slice Ac code.length cc) code (a + n.length) (shV code n.length value a) false) ∧ Aside0 (Mods w5 wr S) ∧ Aside0 (PutInv [] (cutL low mid 0) (cutH high mid 0) d l h n))
  case atStart => exact ⟨_, _, [], HE4, HK4, HI⟩
  clear HE4 HK4 HI
  case round =>
    obtain ⟨l, h, n, HE6, HK6, HP⟩ := hrel
    have hp0 := HP.out.l0
    have hp1 := HP.out.lh
    have hp2 := HP.out.h0
    have hp3 := HP.out.len
    rw [List.length_nil] at hp3
    have hs6 := same_calls wr g l h HE6.out.iv.l HE6.out.iv.h hp0 (by omega)
    by_cases cx : l / 16777216 = h / 16777216
    · rw [decide_eq_true cx] at hs6
      have HSA := Aside0.mk hs6
      clear hs6
      obtain ⟨d', hd', hP'⟩ := HP.out.step cx
      have HP' := Aside0.mk hP'
      have HD := Aside0.mk hd'
      have hv := shV_range HBY.out n.length value a hv0 hv1
      have HV := Aside0.mk hv
      have hap : a + n.length ≤ 2199023255552 := by omega
      clear hd' hP' cx hv
      go_wp2_with (first
        | (go_at_call 75; refine HSA.out.mono ?_; rintro e w6 ⟨rfl, m6, hw6⟩; have HE7 := Aside0.mk (show DecRow w6 S g kind (some ⟨b, 0, none⟩) c st' l h (.slice Ac code.length cc) code (a + n.length) (shV code n.length value a) false from hw6 ▸ HE6.out.drewN m6); have HK7 := Aside0.mk (show Mods w5 w6 S from hw6 ▸ HK6.out.drewN m6); clear hw6; have HLO := Aside0.mk (lose_calls w6 g l h HE7.out.iv.l HE7.out.iv.h HE7.out.iv.f hp0 (by omega) (by omega) hp2))
        | (go_at_call 76; refine HLO.out.mono ?_; rintro e w7 ⟨rfl, hw7⟩; have HE8 := Aside0.mk (show DecRow w7 S g kind (some ⟨b, 0, none⟩) c st' (l % 16777216 * 256) (h % 16777216 * 256 + 255) (.slice Ac code.length cc) code (a + n.length) (shV code n.length value a) false from hw7 ▸ HE7.out.lost _ _); have HK8 := Aside0.mk (show Mods w5 w7 S from hw7 ▸ ((HK7.out.setCell (.inl hSg) _).setCell (.inl hSg) _)); clear hw7)
        | (go_at_call 51; refine (shift_row _ S g kind _ c st' _ _ _ code _ _ false HE8.out HV.out.1 HV.out.2 HBY.out hlen hap).mono ?_; rintro e w8 ⟨rfl, hE9, hK9⟩; have HE9 := Aside0.mk hE9; have HK9 := Aside0.mk (HK8.out.then_ hK9 (fun _ h => .inl h)); clear hE9 hK9))
      go_roundg d'
      case measure => have := HD.out; omega
      case rel =>
        refine ⟨_, _, _, ⟨?_⟩, HK9, HP'⟩
        have h9 := HE9.out
        rw [← shV_succ] at h9
        rw [List.length_append, List.length_cons, List.length_nil, Nat.zero_add]
        exact h9
    · rw [decide_eq_false cx] at hs6
      have HSA := Aside0.mk hs6
      clear hs6
      have HCC := Aside0.mk (HP.out.done cx)
      clear cx
      obtain ⟨be, hbe⟩ : ∃ be : Nat, a + n.length - code.length = be := ⟨_, rfl⟩
      have HBE := Aside0.mk hbe
      clear hbe
      have HN := Aside0.mk (show normE 4 (cutL low mid 0) (cutH high mid 0) = (n, l, h) from by
        have h1 := HCC.out
        rw [List.nil_append] at h1
        exact Prod.ext h1.1.symm h1.2)
      by_cases hb4 : (be : Int) > 4
      · have HB4 := Aside0.mk hb4
        go_wp2_with (first
          | (go_at_call 75; refine HSA.out.mono ?_; rintro e w6 ⟨rfl, m6, hw6⟩; have HE7 := Aside0.mk (show DecRow w6 S g kind (some ⟨b, 0, none⟩) c st' l h (.slice Ac code.length cc) code (a + n.length) (shV code n.length value a) false from hw6 ▸ HE6.out.drewN m6); have HK7 := Aside0.mk (show Mods w5 w6 S from hw6 ▸ HK6.out.drewN m6); clear hw6; have k39 := HE7.out.c39; rw [HBE.out] at k39; have HQ7 := Aside0.mk (blk_mods HQ0.out HK7.out HQS.out))
          | (with_reducible refine wpList_load_row rfl _ _ rfl _ rfl _ _ _ _ HQ7.out Try.underlying98 rfl (info42 hsz) ?_)
          | (with_reducible refine wpList_store_row rfl _ _ _ rfl _ row rfl rfl _ _ HE7.out.b (info42 hsz) ((dec42_size _ _ _ _ _ _ _ _ _ _).trans hsz.symm) hone ?_; have HE8 := Aside0.mk (show DecRow (w6.setRow g row) S g kind (some ⟨b, 0, none⟩) c st' low high (.slice Ac code.length cc) code a value false from HROW.out ▸ dec_setRow (st' := st) HE7.out HSL.out.symm kind low high a value false); have HK8 := Aside0.mk (mods_setRow HK7.out hSg row); generalize w6.setRow g row = w8 at HE8 HK8 ⊢; have q1 := HE8.out.iv.s; rw [HSL.out] at q1; obtain ⟨b8, hA8, q2, q3, q4⟩ := HE8.out.cell (i := i) (by rw [HSL.out]; exact hi); cases hA8; have q5 := HE8.out.fz 40; have q6 := HE8.out.c40))
        go_ret2
        refine ⟨⟨l, h, n, HN.out, .inl ⟨by rw [HBE.out]; have := HB4.out; omega, rfl, ?_⟩⟩, (HK5.out.then_ HK8.out (fun _ h => .inl h)).setCell (.inl (HE8.out.s.1 b (by simp [Value.ownBlock]))) _ |>.setCell (.inl hSg) _⟩
        have h9 := HE8.out.setst (i := i) (by rw [HSL.out]; exact hi) (rd st i)
        rw [← HST.out, set_back _ hi] at h9
        exact h9.put 40 (.bool true) rfl
      · have HB4 := Aside0.mk hb4
        go_wp2_with (go_at_call 75; refine HSA.out.mono ?_; rintro e w6 ⟨rfl, m6, hw6⟩; have HE7 := Aside0.mk (show DecRow w6 S g kind (some ⟨b, 0, none⟩) c st' l h (.slice Ac code.length cc) code (a + n.length) (shV code n.length value a) false from hw6 ▸ HE6.out.drewN m6); have HK7 := Aside0.mk (show Mods w5 w6 S from hw6 ▸ HK6.out.drewN m6); clear hw6; have k39 := HE7.out.c39; rw [HBE.out] at k39)
        go_ret2
        refine ⟨⟨l, h, n, HN.out, .inr ⟨by rw [HBE.out]; have := HB4.out; omega, rfl, ?_⟩⟩, HK5.out.then_ HK7.out (fun _ h => .inl h)⟩
        rw [HST.out]
        exact HE7.out
set_option maxHeartbeats 4000000 in
set_option maxRecDepth 100000 in
theorem get_row1 (w : World) (S : Nat → Prop) (g : Nat) (kind : Int) (b c : Nat) (st : List Int) (low high mid : Int) (vc : Value) (code : List Int) (a : Nat) (value : Int) (i : Nat) (hE : DecRow w S g kind (some ⟨b, 0, none⟩) c st low high vc code a value false) (hSb : ∀ k, S k → k < w.heap.size) (hi : i < st.length) (hn : st.length ≤ 8192) (hs : okState kind (rd st i)) (hl0 : 0 ≤ low) (hlh : low ≤ high) (hh : high ≤ 4294967295) (hmid : midOf low high (likely kind (rd st i)) = mid) (hm0 : 0 ≤ mid) (hm1 : mid ≤ 4294967295) (hI0 : PutInv [] (cutL low mid 1) (cutH high mid 1) 4 (cutL low mid 1) (cutH high mid 1) []) (hv0 : 0 ≤ value) (hv1 : value ≤ 4294967295) (hby : Bytes code) (hlen : code.length ≤ 1099511627776) (ha : a - code.length ≤ 4) (hvb : value ≤ mid) :
    Calls Try.prog 56 #[.pointer (some ⟨g, 0, none⟩), .int .i64 i] w (GetPost w S g kind b c st low high mid vc code a value i 1) := by
  have HE := Aside0.mk hE
  have hSg : S g := hE.g
  obtain ⟨Ac, cc, hvc⟩ := Kd.R_slice hE.o
  subst hvc
  have h2 := hE.c41
  have k40 := hE.c40
  have k1 := hE.iv.s
  have HMID := Aside0.mk (hmid ▸ mid_calls w g kind (some ⟨b, 0, none⟩) st.length c low high i (rd st i) hE.iv ⟨_, rfl, by obtain ⟨b', hA, hc, _⟩ := hE.cell hi; cases hA; rw [add_plain]; exact hc⟩ hi hn hs hl0 hlh hh)
  have HI := Aside0.mk hI0
  have HBY := Aside0.mk hby
  have HSB := Aside0.mk hSb
  clear hE hmid hI0 hby hSb
  have hi1 : (0 : Int) ≤ (i : Int) := by omega
  have hi2 : (i : Int) < (st.length : Int) := by omega
  go_enter Try.func56, Try.ntmps56
  go_wp2_with (first
    | (go_at_call 62; refine (dec_none _ _ _ h2).mono ?_; rintro e w' ⟨rfl, rfl⟩)
    | (go_at_call 73; refine HMID.out.mono ?_; rintro e w3 ⟨rfl, hb3⟩; have HE3 := Aside0.mk (HE.out.below hb3); have HK3 := Aside0.mk ((Mods.refl w S).below hb3); clear hb3; have k38 := HE3.out.c38))
  clear h2 k40 k1 k38
  obtain ⟨row, hrow⟩ : ∃ row, (dec42 kind (.slice (some ⟨b, 0, none⟩) st.length c) low high (.slice Ac code.length cc) a value ((a - code.length : Nat) : Int) false true) = row := ⟨_, rfl⟩
  have hsz : row.size = 42 := by rw [← hrow]; rfl
  have hone : row.all (·.oneCell') = true := by rw [← hrow]; exact one42 _ _ _ _ _ _ _ _ _ _ _ _ _ _
  have p0 : w3.drew.heap[g]? = some (.cells row 98 (0, 0)) := by rw [← hrow]; exact HE3.out.b
  have p1 := HE3.out.drew.iv.s
  have p2 : w3.drew.cell? ⟨b, i, none⟩ = some (.int .i64 (rd st i)) := by
    obtain ⟨b3, hA3, hc3, _⟩ := HE3.out.cell hi
    cases hA3
    exact hc3
  have HROW := Aside0.mk hrow
  have HE3 := Aside0.mk HE3.out.drew
  have HK3 := Aside0.mk HK3.out.drew
  clear hrow
  refine start_ (n := 15) (S := fun w' => w'.heap[g]? = some (.cells row 98 (0, 0)) ∧ w'.cell? ⟨g, 1, none⟩ = some (.slice (some ⟨b, 0, none⟩) st.length c) ∧ w'.cell? ⟨b, i, none⟩ = some (.int .i64 (rd st i))) (ds := []) #[false, false, false, false, false, false, false, false, false, false, false, false, false, false, false] (by kernel_rfl) rfl rfl ⟨p0, p1, p2⟩ (fun hHeld => ?_)
  generalize w3.drew = wd at p0 p1 p2 HE3 HK3 hHeld ⊢
  refine pure_ (i := 0) (N := some 43) (v := ?_) (a' := ?_) #[true, false, false, false, false, false, false, false, false, false, false, false, false, false, false] rfl rfl (by kernel_rfl) (fun _ _ _ h => h) (Or.inl ⟨by rfl, ?_⟩) ?_ ?_
  rotate_left
  · intro w'
    go_simp
    with_reducible rfl
  rotate_left
  · simp only [Act.put, List.setIfInBounds_toArray, List.set_cons_zero, List.set_cons_succ, i64_w, i32_w]
    rfl
  refine pure_ (i := 1) (N := some 44) (v := ?_) (a' := ?_) #[true, true, false, false, false, false, false, false, false, false, false, false, false, false, false] rfl rfl (by kernel_rfl) (fun _ _ _ h => h) (Or.inl ⟨by rfl, ?_⟩) ?_ ?_
  rotate_left
  · intro w'
    go_simp
    with_reducible rfl
  rotate_left
  · simp only [Act.put, List.setIfInBounds_toArray, List.set_cons_zero, List.set_cons_succ, i64_w, i32_w]
    rfl
  refine pure_ (i := 3) (N := some 46) (v := ?_) (a' := ?_) #[true, true, false, true, false, false, false, false, false, false, false, false, false, false, false] rfl rfl (by kernel_rfl) (fun _ _ _ h => h) (Or.inl ⟨by rfl, ?_⟩) ?_ ?_
  rotate_left
  · intro w'
    go_simp
    with_reducible rfl
  rotate_left
  · simp only [Act.put, List.setIfInBounds_toArray, List.set_cons_zero, List.set_cons_succ, i64_w, i32_w]
    rfl
  refine pure_ (i := 4) (N := some 47) (v := ?_) (a' := ?_) #[true, true, false, true, true, false, false, false, false, false, false, false, false, false, false] rfl rfl (by kernel_rfl) (fun _ _ _ h => h) (Or.inl ⟨by rfl, ?_⟩) ?_ ?_
  rotate_left
  · intro w'
    go_simp
    with_reducible rfl
  rotate_left
  · simp only [Act.put, List.setIfInBounds_toArray, List.set_cons_zero, List.set_cons_succ, i64_w, i32_w]
    rfl
  refine pure_ (i := 5) (N := some 48) (v := ?_) (a' := ?_) #[true, true, false, true, true, true, false, false, false, false, false, false, false, false, false] rfl rfl (by kernel_rfl) (fun _ _ _ h => h) (Or.inl ⟨by rfl, ?_⟩) ?_ ?_
  rotate_left
  · intro w'
    go_simp
    with_reducible rfl
  rotate_left
  · simp only [Act.put, List.setIfInBounds_toArray, List.set_cons_zero, List.set_cons_succ, i64_w, i32_w]
    rfl
  refine pure_ (i := 6) (N := some 49) (v := ?_) (a' := ?_) #[true, true, false, true, true, true, true, false, false, false, false, false, false, false, false] rfl rfl (by kernel_rfl) (fun _ _ _ h => h) (Or.inl ⟨by rfl, ?_⟩) ?_ ?_
  rotate_left
  · intro w'
    go_simp
    with_reducible rfl
  rotate_left
  · simp only [Act.put, List.setIfInBounds_toArray, List.set_cons_zero, List.set_cons_succ, i64_w, i32_w]
    rfl
  refine pure_ (i := 7) (N := some 50) (v := ?_) (a' := ?_) #[true, true, false, true, true, true, true, true, false, false, false, false, false, false, false] rfl rfl (by kernel_rfl) (fun _ _ _ h => h) (Or.inl ⟨by rfl, ?_⟩) ?_ ?_
  rotate_left
  · intro w'
    go_simp
    with_reducible rfl
  rotate_left
  · simp only [Act.put, List.setIfInBounds_toArray, List.set_cons_zero, List.set_cons_succ, i64_w, i32_w]
    rfl
  refine pure_ (i := 9) (N := some 52) (v := ?_) (a' := ?_) #[true, true, false, true, true, true, true, true, false, true, false, false, false, false, false] rfl rfl (by kernel_rfl) (fun _ _ _ h => h) (Or.inl ⟨by rfl, ?_⟩) ?_ ?_
  rotate_left
  · intro w'
    go_simp
    with_reducible rfl
  rotate_left
  · simp only [Act.put, List.setIfInBounds_toArray, List.set_cons_zero, List.set_cons_succ, i64_w, i32_w]
    rfl
  refine take_ (i := 2) (N := some 45) (v := ?_) (a' := ?_) #[true, true, true, true, true, true, true, true, false, true, false, false, false, false, false] rfl rfl (by kernel_rfl) (fun _ _ _ h => h) (Or.inl ⟨by rfl, ?_⟩) hHeld ?_ ?_
  rotate_left
  · rintro w' ⟨s0, s1, s2⟩
    refine exec_load_row _ (.tmp 44) ?_ g ?_ 98 row (0, 0) _ s0 Try.underlying98 rfl (info42 hsz)
    · rfl
    · rfl
  rotate_left
  · simp only [Act.put, List.setIfInBounds_toArray, List.set_cons_zero, List.set_cons_succ, i64_w, i32_w]
    rfl
  refine take_ (i := 8) (N := some 51) (v := ?_) (a' := ?_) #[true, true, true, true, true, true, true, true, true, true, false, false, false, false, false] rfl rfl (by kernel_rfl) (fun _ _ _ h => h) (Or.inl ⟨by rfl, ?_⟩) hHeld ?_ ?_
  rotate_left
  · rintro w' ⟨s0, s1, s2⟩
    go_simp
    with_reducible rfl
  rotate_left
  · simp only [Act.put, List.setIfInBounds_toArray, List.set_cons_zero, List.set_cons_succ, i64_w, i32_w]
    rfl
  refine pure_ (i := 10) (N := some 53) (v := ?_) (a' := ?_) #[true, true, true, true, true, true, true, true, true, true, true, false, false, false, false] rfl rfl (by kernel_rfl) (fun _ _ _ h => h) (Or.inl ⟨by rfl, ?_⟩) ?_ ?_
  rotate_left
  · intro w'
    go_simp
    with_reducible rfl
  rotate_left
  · simp only [Act.put, List.setIfInBounds_toArray, List.set_cons_zero, List.set_cons_succ, i64_w, i32_w]
    rfl
  refine take_ (i := 11) (N := some 54) (v := ?_) (a' := ?_) #[true, true, true, true, true, true, true, true, true, true, true, true, false, false, false] rfl rfl (by kernel_rfl) (fun _ _ _ h => h) (Or.inl ⟨by rfl, ?_⟩) hHeld ?_ ?_
  rotate_left
  · rintro w' ⟨s0, s1, s2⟩
    go_simp
    with_reducible rfl
  rotate_left
  · simp only [Act.put, List.setIfInBounds_toArray, List.set_cons_zero, List.set_cons_succ, i64_w, i32_w]
    rfl
  refine one_ (i := 12) (N := some 8) #[true, true, true, true, true, true, true, true, true, true, true, true, true, false, false] rfl rfl (by kernel_rfl) (by decide) (fun K hK => ?_)
  refine value_ (w1 := ?_) (v := ?_) (by rfl) rfl ?_ ?_
  rotate_left 2
  · go_simp
    constructor
    · rfl
    · rfl
  refine hK.out _ _ ⟨blk_alloc p0 _, pw_cell_below (below_alloc (Below.refl _ _) _) p1, pw_cell_below (below_alloc (Below.refl _ _) _) p2⟩ (fun hHeld => ?_)
  clear hK K
  refine norm_ (a' := ?_) ?_ ?_
  rotate_left
  · show Act.put _ (some 8) _ = _
    simp only [Act.put, List.setIfInBounds_toArray, List.set_cons_zero, List.set_cons_succ, i64_w, i32_w]
    rfl
  refine one_ (i := 13) (N := none) #[true, true, true, true, true, true, true, true, true, true, true, true, true, true, false] rfl rfl (by kernel_rfl) (by decide) (fun K hK => ?_)
  refine skip_ (w1 := ?_) (by rfl) rfl ?_ ?_
  rotate_left
  · refine exec_store_row _ (.tmp 8) (.tmp 45) ?_ wd.heap.size row ?_ ?_ 98 _ (heap_new wd _) (info42 hsz) ?_ hone
    · rfl
    · rfl
    · rfl
    · exact hsz.symm
  refine hK.out _ _ ⟨blk_below p0 (below_setRow (below_alloc (Below.refl _ _) _) (Nat.le_refl _) _), pw_cell_below (below_setRow (below_alloc (Below.refl _ _) _) (Nat.le_refl _) _) p1, pw_cell_below (below_setRow (below_alloc (Below.refl _ _) _) (Nat.le_refl _) _) p2⟩ (fun hHeld => ?_)
  clear hK K
  refine pure_ (i := 14) (N := some 9) (v := ?_) (a' := ?_) #[true, true, true, true, true, true, true, true, true, true, true, true, true, true, true] rfl rfl (by kernel_rfl) (fun _ _ _ h => h) (Or.inl ⟨by rfl, ?_⟩) ?_ ?_
  rotate_left
  · intro w'
    go_simp
    with_reducible rfl
  rotate_left
  · simp only [Act.put, List.setIfInBounds_toArray, List.set_cons_zero, List.set_cons_succ, i64_w, i32_w]
    rfl
  refine done_ (by kernel_rfl) ?_
  rw [← z42_def]
  obtain ⟨q, hq⟩ : ∃ q, wd.heap.size = q := ⟨_, rfl⟩
  have HQ0 := Aside0.mk (setRow_heap (wd.alloc (.cells z42 98)) wd.heap.size z42 row 98 (0, 0) (heap_new wd _))
  have HB0 := Aside0.mk (below_setRow (below_alloc (Below.refl wd.heap.size wd) (.cells z42 98)) (Nat.le_refl _) row)
  generalize hW5 : (wd.alloc (.cells z42 98)).setRow wd.heap.size row = w5 at HQ0 HB0 ⊢
  rw [hq] at HQ0 ⊢
  have HE5 := Aside0.mk (HE3.out.below HB0.out)
  have HK5 := Aside0.mk (HK3.out.below HB0.out)
  have HQS := Aside0.mk (show ¬ S q from fun hk => by have h1 := HSB.out q hk; have h2 := HK3.out.size; omega)
  clear hW5 hq HB0 HE3 HK3 p0 p1 p2
  have HT := Aside0.mk (take_calls w5 g kind st.length c low high i (rd st i) mid 1 ⟨b, 0, none⟩ HE5.out.iv)
  go_wp2_with (go_at_call 74; obtain ⟨b3, hA3, hc3, hf3, hne3⟩ := HE5.out.cell hi; cases hA3; refine (HT.out (by rw [add_plain]; exact hc3) (by rw [add_plain]; exact hf3) hne3 hi hn hs (by decide) hm0 hm1).mono ?_; rintro e w4 ⟨rfl, w4', hb4, hw4⟩; rw [add_plain] at hw4; have HE4 := Aside0.mk (show DecRow w4 S g kind (some ⟨b, 0, none⟩) c (st.set i (after kind (rd st i) 1)) (cutL low mid 1) (cutH high mid 1) (.slice Ac code.length cc) code a value false from hw4 ▸ (((HE5.out.cut 1 mid).below (by rw [cutW_size]; exact hb4)).setst hi _)); have hsb : S b := HE5.out.s.1 b (by simp [Value.ownBlock]); have HK4 := Aside0.mk (show Mods w5 w4 S from hw4 ▸ ((((Mods.refl w5 S).then_ (cut_kept 1 mid HE5.out.g) (fun _ h => .inl h)).below (by rw [cutW_size]; exact hb4)).setCell (.inl hsb) _)); clear hb4 hw4 hc3 hf3 hne3)
  clear HT HE5
  obtain ⟨st', hst'⟩ : ∃ st' : List Int, st.set i (after kind (rd st i) 1) = st' := ⟨_, rfl⟩
  have HST := Aside0.mk hst'
  have HSL := Aside0.mk (show st'.length = st.length by rw [← hst']; exact List.length_set)
  rw [hst'] at HE4
  clear hst'
  go_loopg [] 4 (fun d wr => ∃ (l h : Int) (n : List Int), Aside0 (DecRow wr S g kind (some ⟨b, 0, none⟩) c st' l h (.slice Ac code.length cc) code (a + n.length) (shV code n.length value a) false) ∧ Aside0 (Mods w5 wr S) ∧ Aside0 (PutInv [] (cutL low mid 1) (cutH high mid 1) d l h n))
  case atStart => exact ⟨_, _, [], HE4, HK4, HI⟩
  clear HE4 HK4 HI
  case round =>
    obtain ⟨l, h, n, HE6, HK6, HP⟩ := hrel
    have hp0 := HP.out.l0
    have hp1 := HP.out.lh
    have hp2 := HP.out.h0
    have hp3 := HP.out.len
    rw [List.length_nil] at hp3
    have hs6 := same_calls wr g l h HE6.out.iv.l HE6.out.iv.h hp0 (by omega)
    by_cases cx : l / 16777216 = h / 16777216
    · rw [decide_eq_true cx] at hs6
      have HSA := Aside0.mk hs6
      clear hs6
      obtain ⟨d', hd', hP'⟩ := HP.out.step cx
      have HP' := Aside0.mk hP'
      have HD := Aside0.mk hd'
      have hv := shV_range HBY.out n.length value a hv0 hv1
      have HV := Aside0.mk hv
      have hap : a + n.length ≤ 2199023255552 := by omega
      clear hd' hP' cx hv
      go_wp2_with (first
        | (go_at_call 75; refine HSA.out.mono ?_; rintro e w6 ⟨rfl, m6, hw6⟩; have HE7 := Aside0.mk (show DecRow w6 S g kind (some ⟨b, 0, none⟩) c st' l h (.slice Ac code.length cc) code (a + n.length) (shV code n.length value a) false from hw6 ▸ HE6.out.drewN m6); have HK7 := Aside0.mk (show Mods w5 w6 S from hw6 ▸ HK6.out.drewN m6); clear hw6; have HLO := Aside0.mk (lose_calls w6 g l h HE7.out.iv.l HE7.out.iv.h HE7.out.iv.f hp0 (by omega) (by omega) hp2))
        | (go_at_call 76; refine HLO.out.mono ?_; rintro e w7 ⟨rfl, hw7⟩; have HE8 := Aside0.mk (show DecRow w7 S g kind (some ⟨b, 0, none⟩) c st' (l % 16777216 * 256) (h % 16777216 * 256 + 255) (.slice Ac code.length cc) code (a + n.length) (shV code n.length value a) false from hw7 ▸ HE7.out.lost _ _); have HK8 := Aside0.mk (show Mods w5 w7 S from hw7 ▸ ((HK7.out.setCell (.inl hSg) _).setCell (.inl hSg) _)); clear hw7)
        | (go_at_call 51; refine (shift_row _ S g kind _ c st' _ _ _ code _ _ false HE8.out HV.out.1 HV.out.2 HBY.out hlen hap).mono ?_; rintro e w8 ⟨rfl, hE9, hK9⟩; have HE9 := Aside0.mk hE9; have HK9 := Aside0.mk (HK8.out.then_ hK9 (fun _ h => .inl h)); clear hE9 hK9))
      go_roundg d'
      case measure => have := HD.out; omega
      case rel =>
        refine ⟨_, _, _, ⟨?_⟩, HK9, HP'⟩
        have h9 := HE9.out
        rw [← shV_succ] at h9
        rw [List.length_append, List.length_cons, List.length_nil, Nat.zero_add]
        exact h9
    · rw [decide_eq_false cx] at hs6
      have HSA := Aside0.mk hs6
      clear hs6
      have HCC := Aside0.mk (HP.out.done cx)
      clear cx
      obtain ⟨be, hbe⟩ : ∃ be : Nat, a + n.length - code.length = be := ⟨_, rfl⟩
      have HBE := Aside0.mk hbe
      clear hbe
      have HN := Aside0.mk (show normE 4 (cutL low mid 1) (cutH high mid 1) = (n, l, h) from by
        have h1 := HCC.out
        rw [List.nil_append] at h1
        exact Prod.ext h1.1.symm h1.2)
      by_cases hb4 : (be : Int) > 4
      · have HB4 := Aside0.mk hb4
        go_wp2_with (first
          | (go_at_call 75; refine HSA.out.mono ?_; rintro e w6 ⟨rfl, m6, hw6⟩; have HE7 := Aside0.mk (show DecRow w6 S g kind (some ⟨b, 0, none⟩) c st' l h (.slice Ac code.length cc) code (a + n.length) (shV code n.length value a) false from hw6 ▸ HE6.out.drewN m6); have HK7 := Aside0.mk (show Mods w5 w6 S from hw6 ▸ HK6.out.drewN m6); clear hw6; have k39 := HE7.out.c39; rw [HBE.out] at k39; have HQ7 := Aside0.mk (blk_mods HQ0.out HK7.out HQS.out))
          | (with_reducible refine wpList_load_row rfl _ _ rfl _ rfl _ _ _ _ HQ7.out Try.underlying98 rfl (info42 hsz) ?_)
          | (with_reducible refine wpList_store_row rfl _ _ _ rfl _ row rfl rfl _ _ HE7.out.b (info42 hsz) ((dec42_size _ _ _ _ _ _ _ _ _ _).trans hsz.symm) hone ?_; have HE8 := Aside0.mk (show DecRow (w6.setRow g row) S g kind (some ⟨b, 0, none⟩) c st' low high (.slice Ac code.length cc) code a value false from HROW.out ▸ dec_setRow (st' := st) HE7.out HSL.out.symm kind low high a value false); have HK8 := Aside0.mk (mods_setRow HK7.out hSg row); generalize w6.setRow g row = w8 at HE8 HK8 ⊢; have q1 := HE8.out.iv.s; rw [HSL.out] at q1; obtain ⟨b8, hA8, q2, q3, q4⟩ := HE8.out.cell (i := i) (by rw [HSL.out]; exact hi); cases hA8; have q5 := HE8.out.fz 40; have q6 := HE8.out.c40))
        go_ret2
        refine ⟨⟨l, h, n, HN.out, .inl ⟨by rw [HBE.out]; have := HB4.out; omega, rfl, ?_⟩⟩, (HK5.out.then_ HK8.out (fun _ h => .inl h)).setCell (.inl (HE8.out.s.1 b (by simp [Value.ownBlock]))) _ |>.setCell (.inl hSg) _⟩
        have h9 := HE8.out.setst (i := i) (by rw [HSL.out]; exact hi) (rd st i)
        rw [← HST.out, set_back _ hi] at h9
        exact h9.put 40 (.bool true) rfl
      · have HB4 := Aside0.mk hb4
        go_wp2_with (go_at_call 75; refine HSA.out.mono ?_; rintro e w6 ⟨rfl, m6, hw6⟩; have HE7 := Aside0.mk (show DecRow w6 S g kind (some ⟨b, 0, none⟩) c st' l h (.slice Ac code.length cc) code (a + n.length) (shV code n.length value a) false from hw6 ▸ HE6.out.drewN m6); have HK7 := Aside0.mk (show Mods w5 w6 S from hw6 ▸ HK6.out.drewN m6); clear hw6; have k39 := HE7.out.c39; rw [HBE.out] at k39)
        go_ret2
        refine ⟨⟨l, h, n, HN.out, .inr ⟨by rw [HBE.out]; have := HB4.out; omega, rfl, ?_⟩⟩, HK5.out.then_ HK7.out (fun _ h => .inl h)⟩
        rw [HST.out]
        exact HE7.out
/-- A decoder in memory. -/
def DecAt (W : World) (S : Nat → Prop) (g : Nat) (s : DS) : Prop := ∃ A c vc, DecRow W S g s.kind A c s.st s.low s.high vc s.code s.a s.value s.ended
theorem DecAt.kept {W W' : World} {S S' : Nat → Prop} {g : Nat} {s : DS} (h : DecAt W S g s) (hk : Mods W W' S') (hne : ∀ k, S k → ¬ S' k) : DecAt W' S g s := by
  obtain ⟨A, c, vo, h⟩ := h
  exact ⟨A, c, vo, h.kept hk hne⟩
theorem DecAt.below {W W' : World} {S : Nat → Prop} {g : Nat} {s : DS} (h : DecAt W S g s) (hb : Below W.heap.size W W') : DecAt W' S g s := by
  obtain ⟨A, c, vo, h⟩ := h
  exact ⟨A, c, vo, h.below hb⟩
theorem DecAt.mono {W : World} {S S' : Nat → Prop} {g : Nat} {s : DS} (h : DecAt W S g s) (hs : ∀ k, S k → S' k) : DecAt W S' g s := by
  obtain ⟨A, c, vo, h⟩ := h
  exact ⟨A, c, vo, h.mono hs⟩
theorem get_end (w : World) (g : Nat) (i : Nat) (n : Nat) (A : Option Addr) (c : Nat) (hi : i < n) (h1 : w.cell? ⟨g, 1, none⟩ = some (.slice A n c)) (h2 : w.cell? ⟨g, 41, none⟩ = some (.bool true)) (h3 : w.cell? ⟨g, 40, none⟩ = some (.bool true)) :
    Calls Try.prog 56 #[.pointer (some ⟨g, 0, none⟩), .int .i64 i] w fun e w' => e = .returned (.tuple #[.int .i64 0, .int .i64 6]) ∧ w = w' := by
  have hi1 : (0 : Int) ≤ (i : Int) := by omega
  have hi2 : (i : Int) < (n : Int) := by omega
  go_enter Try.func56, Try.ntmps56
  go_wp2_with (go_at_call 62; refine (dec_none _ _ _ h2).mono ?_; rintro e w' ⟨rfl, rfl⟩)
  go_ret2
  exact ⟨rfl, rfl⟩
theorem get_bad (w : World) (g : Nat) (i : Int) (n : Nat) (A : Option Addr) (c : Nat) (hi : ¬ (0 ≤ i ∧ i < n)) (h1 : w.cell? ⟨g, 1, none⟩ = some (.slice A n c)) (h2 : w.cell? ⟨g, 41, none⟩ = some (.bool true)) :
    Calls Try.prog 56 #[.pointer (some ⟨g, 0, none⟩), .int .i64 i] w fun e w' => e = .returned (.tuple #[.int .i64 0, .int .i64 2]) ∧ w = w' := by
  have hi' : i < 0 ∨ (i ≥ n ∧ ¬ i < 0) := by omega
  clear hi
  rcases hi' with h | ⟨h, h0⟩
  · go_enter Try.func56, Try.ntmps56
    go_wp2_with (go_at_call 62; refine (dec_none _ _ _ h2).mono ?_; rintro e w' ⟨rfl, rfl⟩)
    go_ret2
    exact ⟨rfl, rfl⟩
  · go_enter Try.func56, Try.ntmps56
    go_wp2_with (go_at_call 62; refine (dec_none _ _ _ h2).mono ?_; rintro e w' ⟨rfl, rfl⟩)
    go_ret2
    exact ⟨rfl, rfl⟩
theorem get_calls (w : World) (S : Nat → Prop) (g : Nat) (s : DS) (i : Int) (hE : DecAt w S g s) (hS : ∀ k, S k → k < w.heap.size) (hok : s.ok) :
    Calls Try.prog 56 #[.pointer (some ⟨g, 0, none⟩), .int .i64 i] w fun e w' => e = .returned (.tuple #[.int .i64 (s.getI i).2.1, .int .i64 (s.getI i).2.2]) ∧ DecAt w' S g (s.getI i).1 ∧ Mods w w' S := by
  obtain ⟨A, c, vo, hR⟩ := hE
  unfold DS.getI
  by_cases hi : 0 ≤ i ∧ i < s.st.length
  · rw [if_pos hi]
    obtain ⟨j, rfl⟩ : ∃ j : Nat, i = (j : Int) := ⟨i.toNat, by omega⟩
    rw [Int.toNat_natCast]
    have hj : j < s.st.length := by omega
    by_cases he : s.ended = true
    · rw [if_pos he]
      have h40 := hR.c40
      rw [he] at h40
      refine (get_end w g j s.st.length A c hj hR.iv.s hR.c41 h40).mono ?_
      rintro e w' ⟨rfl, rfl⟩
      exact ⟨rfl, ⟨A, c, vo, hR⟩, Mods.refl _ _⟩
    · rw [if_neg he]
      have hef : s.ended = false := by simpa using he
      obtain ⟨b, rfl, _⟩ := hR.cell hj
      have hm := DS.mid_ hok hj
      have hc := DS.cut_ hok hj
      have hl := hok.l
      have hh := hok.h
      have hI : PutInv [] (cutL s.low (s.mid j) (s.bit j)) (cutH s.high (s.mid j) (s.bit j)) 4 (cutL s.low (s.mid j) (s.bit j)) (cutH s.high (s.mid j) (s.bit j)) [] := ⟨hc.1, hc.2.1, hc.2.2, by rw [show (256 : Int) ^ 4 = 4294967296 from rfl]; omega, rfl, rfl, Nat.le_refl _⟩
      have key : Calls Try.prog 56 #[.pointer (some ⟨g, 0, none⟩), .int .i64 j] w (GetPost w S g s.kind b c s.st s.low s.high (s.mid j) vo s.code s.a s.value j (s.bit j)) := by
        rw [hef] at hR
        by_cases hv : s.value ≤ s.mid j
        · have hb : s.bit j = 1 := if_pos hv
          rw [hb] at hI ⊢
          exact get_row1 w S g s.kind b c s.st s.low s.high (s.mid j) vo s.code s.a s.value j hR hS hj hok.m.2.1 (DS.at_ hok hj) hl hok.lh hh rfl (by omega) (by omega) hI hok.v0 hok.v1 hok.by_ hok.len hok.be hv
        · have hb : s.bit j = 0 := if_neg hv
          rw [hb] at hI ⊢
          exact get_row0 w S g s.kind b c s.st s.low s.high (s.mid j) vo s.code s.a s.value j hR hS hj hok.m.2.1 (DS.at_ hok hj) hl hok.lh hh rfl (by omega) (by omega) hI hok.v0 hok.v1 hok.by_ hok.len hok.be hv
      refine key.mono ?_
      rintro e w' ⟨⟨l, h, n, hn, hq⟩, hk⟩
      have hn' : s.norm j = (n, l, h) := hn
      rw [hn']
      rcases hq with ⟨hb, rfl, hD⟩ | ⟨hb, rfl, hD⟩
      · rw [if_pos hb]
        exact ⟨rfl, ⟨_, c, vo, hD⟩, hk⟩
      · rw [if_neg hb]
        refine ⟨rfl, ⟨some ⟨b, 0, none⟩, c, vo, ?_⟩, hk⟩
        have e1 : s.next j = ⟨s.kind, s.st.set j (after s.kind (rd s.st j) (s.bit j)), l, h, s.code, s.a + n.length, shV s.code n.length s.value s.a, false⟩ := by
          unfold DS.next
          rw [hn']
        rw [e1]
        exact hD
  · rw [if_neg hi]
    refine (get_bad w g i s.st.length A c hi hR.iv.s hR.c41).mono ?_
    rintro e w' ⟨rfl, rfl⟩
    exact ⟨rfl, ⟨A, c, vo, hR⟩, Mods.refl _ _⟩
end Go.Proofs.Ytlnhahnnjbfjdaa.Get
namespace Go.Proofs.Ytlnhahnnjbfjdaa.DecNew
open Go Go.RowKit Go.Proofs.YtlnhahnnjbfjdaaW.PrintWords Go.Proofs.YtlnhahnnjbfjdaaW.PrintLast Go.Proofs.YtlnhahnnjbfjdaaW.PrintMore Go.Proofs.Ytlnhahnnjbfjdaa.Aid Go.Proofs.Ytlnhahnnjbfjdaa.HandAid Go.Proofs.Ytlnhahnnjbfjdaa.Cod1 Go.Proofs.Ytlnhahnnjbfjdaa.Cod2 Go.Proofs.Ytlnhahnnjbfjdaa.Cod3 Go.Proofs.Ytlnhahnnjbfjdaa.Mod Go.Proofs.Ytlnhahnnjbfjdaa.Enc Go.Proofs.Ytlnhahnnjbfjdaa.Mods Go.Proofs.Ytlnhahnnjbfjdaa.EncAt Go.Proofs.Ytlnhahnnjbfjdaa.Put Go.Proofs.Ytlnhahnnjbfjdaa.End Go.Proofs.Ytlnhahnnjbfjdaa.Snc Go.Proofs.Ytlnhahnnjbfjdaa.Dec Go.Proofs.Ytlnhahnnjbfjdaa.Get
/-- A fresh decoder. -/
def newDS (kind : Int) (st code : List Int) : DS := ⟨kind, st, 0, 4294967295, code, 4, shV code 4 0 0, false⟩
theorem newDS_ok {kind : Int} {st code : List Int} (h : okModel kind st) (hb : Bytes code) (hl : code.length ≤ 1099511627776) : (newDS kind st code).ok := by
  have hv := shV_range hb 4 0 0 (by omega) (by omega)
  exact ⟨h, show (0 : Int) ≤ 0 by decide, show (0 : Int) ≤ 4294967295 by decide, show (4294967295 : Int) ≤ 4294967295 by decide, show (0 : Int) / 16777216 ≠ 4294967295 / 16777216 by decide, hv.1, hv.2, hb, hl, show 4 - code.length ≤ 4 by omega⟩
theorem dec42_new (kind : Int) (v vc : Value) : dec42 kind v 0 4294967295 vc 0 0 0 false true = #[.int .i64 kind, v, .int .i64 2048, .int .i64 1792, .int .i64 1568, .int .i64 1372, .int .i64 1201, .int .i64 1051, .int .i64 920, .int .i64 805, .int .i64 705, .int .i64 617, .int .i64 540, .int .i64 473, .int .i64 414, .int .i64 363, .int .i64 318, .int .i64 279, .int .i64 245, .int .i64 215, .int .i64 189, .int .i64 166, .int .i64 146, .int .i64 128, .int .i64 112, .int .i64 98, .int .i64 86, .int .i64 76, .int .i64 67, .int .i64 59, .int .i64 52, .int .i64 46, .int .i64 41, .int .i64 36, .int .u64 0, .int .u64 4294967295, vc, .int .i64 0, .int .u64 0, .int .i64 0, .bool false, .bool true] := rfl
def NewDecPost (w : World) (kind : Int) (st code : List Int) (e : Ending) (w' : World) : Prop := ∃ g, e = .returned (.tuple #[.pointer (some ⟨g, 0, none⟩), .int .i64 0]) ∧ DecAt w' (Since w.heap.size w') g (newDS kind st code) ∧ Below w.heap.size w w'
set_option maxHeartbeats 4000000 in
set_option maxRecDepth 100000 in
theorem new_dec (A : Option Addr) (c : Nat) (kind : Int) (st : List Int) (Ac : Option Addr) (cc : Nat) (code : List Int) (w : World) (hC : Kd.C (Kd.int .i64) w A st.length st) (hc : st.length ≤ c) (hm : okModel kind st) (hCc : Kd.C (Kd.int .u8) w Ac code.length code) (hcc : code.length ≤ cc) (hby : Bytes code) (hlen : code.length ≤ 1099511627776) :
    Calls Try.prog 22 #[.agg #[.int .i64 kind, .slice A st.length c], .slice Ac code.length cc] w (NewDecPost w kind st code) := by
  have HC := Aside0.mk hC
  have HCc := Aside0.mk hCc
  have hv := valid_calls A c kind st
  rw [decide_eq_true hm] at hv
  have HV := Aside0.mk hv
  have HM := Aside0.mk hm
  have HBY := Aside0.mk hby
  have hl := hm.2.1
  clear hC hv hm hCc hby
  have hb0 := Aside0.mk (below_alloc (Below.refl w.heap.size w) (.cells #[.int .i64 kind, .slice A st.length c] 45))
  have hq0 : Aside0 ((w.alloc (.cells #[.int .i64 kind, .slice A st.length c] 45)).heap[w.heap.size]? = some (.cells #[.int .i64 kind, .slice A st.length c] 45 (0, 0))) := ⟨heap_new _ _⟩
  go_enter Try.func22, Try.ntmps22
  go_wp2_with (first
    | (go_at_call 49; refine (HV.out _ (Kd.C_below HC.out hb0.out) hc).mono ?_; rintro e w1 ⟨rfl, hB⟩; have HB := Aside0.mk (below_then hb0.out hb0.out.size hB); have hq1 : Aside0 (w1.heap[w.heap.size]? = some (.cells #[.int .i64 kind, .slice A st.length c] 45 (0, 0))) := ⟨(hB.block _ (blk_lt hq0.out)).trans hq0.out⟩; have k0 : w1.cell? ⟨w.heap.size, 0, none⟩ = some (.int .i64 kind) := (blk_cell hq1.out 0).trans rfl; have k1 : w1.cell? ⟨w.heap.size, 1, none⟩ = some (.slice A st.length c) := (blk_cell hq1.out 1).trans rfl; clear hB)
    | (go_at_call 50; refine (begin_calls A c kind st _ (Kd.C_below HC.out HB.out) hc (by omega)).mono ?_; rintro e w2 ⟨A2, c2, rfl, hR, hB⟩; have HB2 := Aside0.mk (below_then HB.out HB.out.size hB); have HR := Aside0.mk (Kd.R_alloc (Kd.R_lower hR HB.out.size) (.cells #[] 5)); have HR1 : Aside0 (Kd.R (Kd.int .u8) 5 (w2.alloc (.cells #[] 5)) w.heap.size (fun _ => True) (.slice (some ⟨w2.heap.size, 0, none⟩) 0 0) []) := ⟨Kd.R_of_own (enc := Value.int .u8) (World.ownsRow_lit w2 #[] 0 HB2.out.size (by decide) rfl) (fun _ _ => trivial)⟩; have HB2' := Aside0.mk (below_alloc HB2.out (.cells #[] 5)); have HCo := Aside0.mk (Kd.C_below HCc.out HB2'.out); clear hR hB; unfold iv36)
    | (at_builtin; refine Kd.R_append_rows (Kd.int .u8) (w0 := w) w.heap.size (by rfl) (.tmp 12) (.tmp 13) 34 5 (.int .u8 0) 1 rfl Try.underlying34 infoU8 rfl (by decide) (by omega) (.slice (some ⟨w2.heap.size, 0, none⟩) 0 0) [] code _ _ _ (fun _ => True) (fun _ => False) rfl rfl HR1.out HCo.out (fun _ _ h => h) (fun _ h => h.elim) (fun _ _ => trivial) HB2'.out HB2'.out.size (by simp only [List.length_nil]; omega) ?_; intro v3 w3 hR3 hB3 hg3 hat3; rw [List.nil_append] at hR3; obtain ⟨A3, c3, hv3⟩ := Kd.R_slice hR3; subst hv3; have HS3 := Aside0.mk (Kd.R_over HR.out HR1.out (by decide) hg3); have HR3 := Aside0.mk hR3; have HB3 := Aside0.mk hB3; clear hR3 hB3 hg3 hat3))
  clear HR1 HR HCo HB2' HV
  rw [← dec42_new]
  have HR0 := Aside0.mk (heap_new w3 (.cells (dec42 kind (.slice A2 st.length c2) 0 4294967295 (.slice A3 code.length c3) 0 0 0 false true) 98))
  have HB4 := Aside0.mk (below_alloc HB3.out (.cells (dec42 kind (.slice A2 st.length c2) 0 4294967295 (.slice A3 code.length c3) 0 0 0 false true) 98))
  have HRS := Aside0.mk (Kd.R_alloc HS3.out (.cells (dec42 kind (.slice A2 st.length c2) 0 4294967295 (.slice A3 code.length c3) 0 0 0 false true) 98))
  have HRO := Aside0.mk (Kd.R_alloc HR3.out (.cells (dec42 kind (.slice A2 st.length c2) 0 4294967295 (.slice A3 code.length c3) 0 0 0 false true) 98))
  generalize w3.alloc (.cells (dec42 kind (.slice A2 st.length c2) 0 4294967295 (.slice A3 code.length c3) 0 0 0 false true) 98) = w4 at HR0 HB4 HRS HRO ⊢
  have HQ3 := Aside0.mk HB3.out.size
  obtain ⟨q, hq⟩ : ∃ q, w3.heap.size = q := ⟨_, rfl⟩
  rw [hq] at HR0 HQ3 ⊢
  obtain ⟨S, hS⟩ : ∃ S : Nat → Prop, S = Since w.heap.size w4 := ⟨_, rfl⟩
  have HE0 : Aside0 (DecRow w4 S q kind A2 c2 st 0 4294967295 (.slice A3 code.length c3) code 0 0 false) := ⟨by
    subst hS
    refine ⟨?_, Kd.R_lower (Kd.R_mono (Kd.R_bound HRS.out) fun k hk => ⟨hk.2.1, hk.2.2.1⟩) (Nat.zero_le _), Kd.R_lower (Kd.R_mono (Kd.R_bound HRO.out) fun k hk => ⟨hk.2.1, hk.2.2.1⟩) (Nat.zero_le _), ⟨HQ3.out, blk_lt HR0.out⟩⟩
    rw [Nat.zero_sub]
    exact HR0.out⟩
  have HS := Aside0.mk hS
  clear hS HR0 HRS HRO HS3 HR3 HB3 HB2 HB hq hq0 hq1 hb0 k0 k1
  go_loopw [17] (fun i wr => ∃ (k : Nat), k ≤ 4 ∧ i = .int .i64 k ∧ Aside0 (DecRow wr S q kind A2 c2 st 0 4294967295 (.slice A3 code.length c3) code k (shV code k 0 0) false) ∧ Aside0 (Mods w4 wr S)) (fun i _ => 5 - (intOf i).toNat)
  case atStart => exact ⟨0, by omega, rfl, HE0, ⟨Mods.refl _ _⟩⟩
  clear HE0
  case round =>
    obtain ⟨k, hk, rfl, HE, HK⟩ := hrel
    by_cases h4 : (k : Int) < 4
    · have HV := Aside0.mk (shV_range HBY.out k 0 0 (by omega) (by omega))
      go_wp2_with (go_at_call 51; refine (shift_row _ S q kind _ c2 st _ _ _ code _ _ false HE.out HV.out.1 HV.out.2 HBY.out hlen (by omega)).mono ?_; rintro e w8 ⟨rfl, hE9, hK9⟩; have HE9 := Aside0.mk hE9; have HK9 := Aside0.mk (HK.out.then_ hK9 (fun _ h => .inl h)); clear hE9 hK9)
      go_roundw
      case measure => simp only [intOf]; omega
      case rel =>
        refine ⟨k + 1, by omega, rfl, ⟨?_⟩, HK9⟩
        have h9 := HE9.out
        have e9 := shV_succ code k 0 0
        rw [Nat.zero_add] at e9
        rw [e9]
        exact h9
    · have e4 : k = 4 := by omega
      subst e4
      go_wp2
      go_ret2
      have hb := below_mods HB4.out HK.out (fun k hk => by rw [HS.out] at hk; exact hk.1) HB4.out.size
      refine ⟨q, rfl, ⟨A2, c2, .slice A3 code.length c3, HE.out.mono fun k hk => ?_⟩, hb⟩
      rw [HS.out] at hk
      exact ⟨hk.1, Nat.lt_of_lt_of_le hk.2 HK.out.size⟩
theorem beyond_calls (w : World) (S : Nat → Prop) (g : Nat) (s : DS) (hE : DecAt w S g s) :
    Calls Try.prog 29 #[.pointer (some ⟨g, 0, none⟩)] w fun e w' => e = .returned (.int .i64 ((s.a - s.code.length : Nat) : Int)) ∧ w = w' := by
  obtain ⟨A, c, vo, hR⟩ := hE
  have h2 := hR.c41
  have k39 := hR.c39
  go_enter Try.func29, Try.ntmps29
  go_wp2_with (go_at_call 62; refine (dec_none _ _ _ h2).mono ?_; rintro e w' ⟨rfl, rfl⟩)
  go_ret
  exact ⟨rfl, rfl⟩
set_option maxRecDepth 100000 in
theorem dec_model_calls (w : World) (S : Nat → Prop) (g : Nat) (s : DS) (hE : DecAt w S g s) (hok : s.ok) :
    Calls Try.prog 44 #[.pointer (some ⟨g, 0, none⟩)] w (MPost w s.kind s.st) := by
  obtain ⟨A, c, vo, hR⟩ := hE
  have HE := Aside0.mk (hR.below (below_alloc (Below.refl _ _) (.cells #[.int .i64 0, .slice none 0 0] 45)))
  have HB := Aside0.mk (below_alloc (Below.refl w.heap.size w) (.cells #[.int .i64 0, .slice none 0 0] 45))
  have HZ := Aside0.mk (heap_new w (.cells #[.int .i64 0, .slice none 0 0] 45))
  have hu := Try.underlying45
  have h2 := HE.out.c41
  have k0 := HE.out.iv.k
  have k1 := HE.out.iv.s
  have hl := hok.m.2.1
  obtain ⟨hn, hc, hC⟩ := Kd.R_reads' HE.out.s
  have HC := Aside0.mk hC
  obtain ⟨b2, hb2⟩ : ∃ b2, w.heap.size = b2 := ⟨_, rfl⟩
  have HSZ := Aside0.mk hb2
  rw [hb2] at HZ
  clear hR hn hC
  go_enter Try.func44, Try.ntmps44
  go_wp2_with (first
    | (go_at_call 62; refine (dec_none _ _ _ h2).mono ?_; rintro e w' ⟨rfl, rfl⟩)
    | (go_at_call 68; refine (clone_calls A c s.kind s.st _ HC.out hc (by omega)).mono ?_; rintro e w4 ⟨A4, c4, rfl, hR4, hB4⟩; have HR4 := Aside0.mk (Kd.R_lower hR4 HB.out.size); have HB4 := Aside0.mk (below_then HB.out HB.out.size hB4); have HZ4 := Aside0.mk (blk_below HZ.out hB4); have z0 : w4.cell? ⟨b2, 0, none⟩ = some (.int .i64 0) := (blk_cell HZ4.out 0).trans rfl; have z1 : w4.cell? ⟨b2, 1, none⟩ = some (.slice none 0 0) := (blk_cell HZ4.out 1).trans rfl; have zf0 := blk_frozen HZ4.out 0; have zf1 := blk_frozen HZ4.out 1; clear hR4 hB4))
  have hz2 : (w4.setCell ⟨b2, 0, none⟩ (.int .i64 s.kind)).heap[b2]? = some (.cells #[.int .i64 s.kind, .slice none 0 0] 45 (0, 0)) := blk_put (cs := #[.int .i64 0, .slice none 0 0]) HZ4.out 0 _ rfl
  refine bodyPost_ret (results_cell_row rfl _ _ b2 45 #[.int .i64 s.kind, .slice A4 s.st.length c4] (0, 0) _ rfl (blk_put (cs := #[.int .i64 s.kind, .slice none 0 0]) hz2 1 _ rfl) Try.underlying45 rfl (by kernel_rfl)) rfl ?_
  have hwb : w.heap.size ≤ b2 := by rw [HSZ.out]; exact Nat.le_refl _
  exact ⟨A4, c4, rfl, Kd.R_set (Kd.R_set HR4.out HZ4.out (by decide) _ _) hz2 (by decide) _ _, (HB4.out.setCell hwb _).setCell hwb _⟩
end Go.Proofs.Ytlnhahnnjbfjdaa.DecNew
namespace Go.Proofs.Ytlnhahnnjbfjdaa.Bkp
open Go Go.RowKit Go.Proofs.YtlnhahnnjbfjdaaW.PrintWords Go.Proofs.YtlnhahnnjbfjdaaW.PrintLast Go.Proofs.YtlnhahnnjbfjdaaW.PrintMore Go.Proofs.Ytlnhahnnjbfjdaa.U Go.Proofs.Ytlnhahnnjbfjdaa.Aid Go.Proofs.Ytlnhahnnjbfjdaa.Pse Go.Proofs.Ytlnhahnnjbfjdaa.DecNew Go.Proofs.Ytlnhahnnjbfjdaa.HandAid Go.Proofs.Ytlnhahnnjbfjdaa.Cod1 Go.Proofs.Ytlnhahnnjbfjdaa.Cod2 Go.Proofs.Ytlnhahnnjbfjdaa.Cod3 Go.Proofs.Ytlnhahnnjbfjdaa.Mod Go.Proofs.Ytlnhahnnjbfjdaa.Enc Go.Proofs.Ytlnhahnnjbfjdaa.Mods Go.Proofs.Ytlnhahnnjbfjdaa.EncAt Go.Proofs.Ytlnhahnnjbfjdaa.Put Go.Proofs.Ytlnhahnnjbfjdaa.End Go.Proofs.Ytlnhahnnjbfjdaa.Snc Go.Proofs.Ytlnhahnnjbfjdaa.Dec Go.Proofs.Ytlnhahnnjbfjdaa.Get Go.Proofs.Ytlnhahnnjbfjdaa.U
theorem byteOf_getD (l : List Int) (i : Nat) : Dec.byteOf l i = l.getD i 0 := by
  unfold Dec.byteOf
  split
  · simp [rd]
  · rename_i h
    rw [List.getD_eq_getElem?_getD, List.getElem?_eq_none (by omega)]
    rfl
/-- Four bytes of a code, as a number. -/
def win (code : List Int) (n : Nat) : Int := Dec.byteOf code n * 16777216 + Dec.byteOf code (n + 1) * 65536 + Dec.byteOf code (n + 2) * 256 + Dec.byteOf code (n + 3)
theorem win_succ {code : List Int} (h : Bytes code) (n : Nat) : win code (n + 1) = win code n % 16777216 * 256 + Dec.byteOf code (n + 4) := by
  have h0 := byteOf_range h n
  have h1 := byteOf_range h (n + 1)
  have h2 := byteOf_range h (n + 2)
  have h3 := byteOf_range h (n + 3)
  have h4 := byteOf_range h (n + 4)
  unfold win
  rw [show n + 1 + 1 = n + 2 by omega, show n + 1 + 2 = n + 3 by omega, show n + 1 + 3 = n + 4 by omega]
  omega
theorem win_top {code : List Int} (h : Bytes code) (n : Nat) : win code n / 16777216 = Dec.byteOf code n ∧ 0 ≤ win code n := by
  have h0 := byteOf_range h n
  have h1 := byteOf_range h (n + 1)
  have h2 := byteOf_range h (n + 2)
  have h3 := byteOf_range h (n + 3)
  unfold win
  omega
theorem shV_win {code : List Int} (h : Bytes code) : ∀ (k n : Nat), shV code k (win code n) (n + 4) = win code (n + k)
  | 0, n => rfl
  | k + 1, n => by
    show shV code k (win code n % 16777216 * 256 + Dec.byteOf code (n + 4)) (n + 4 + 1) = _
    rw [← win_succ h, show n + 4 + 1 = n + 1 + 4 by omega, shV_win h k (n + 1), show n + 1 + k = n + (k + 1) by omega]
theorem win_zero {code : List Int} (h : Bytes code) : shV code 4 0 0 = win code 0 := by
  have h0 := byteOf_range h 0
  have h1 := byteOf_range h 1
  have h2 := byteOf_range h 2
  have h3 := byteOf_range h 3
  unfold win
  simp only [shV, Nat.zero_add, Nat.reduceAdd]
  omega
/-- The bytes m stand in the code from n on. -/
def AtL (code : List Int) : Nat → List Int → Prop
  | _, [] => True
  | n, x :: m => Dec.byteOf code n = x ∧ AtL code (n + 1) m
theorem atL_of (m t : List Int) : ∀ (P : List Int), AtL (P ++ m ++ t) P.length m := by
  induction m with
  | nil => intro P; trivial
  | cons x m ih =>
    intro P
    refine ⟨?_, ?_⟩
    · rw [byteOf_getD]
      simp
    · have h := ih (P ++ [x])
      simpa using h
/-- What stands in the interval behind the lost bytes stands in the interval ahead of them. -/
theorem norm_win {code : List Int} (hb : Bytes code) : ∀ (d : Nat) (l h : Int) (n : Nat), 0 ≤ l → l ≤ h → h ≤ 4294967295 → AtL code n (normE d l h).1 → (normE d l h).2.1 ≤ win code (n + (normE d l h).1.length) ∧ win code (n + (normE d l h).1.length) ≤ (normE d l h).2.2 → l ≤ win code n ∧ win code n ≤ h
  | 0, l, h, n, _, _, _, _, hw => hw
  | d + 1, l, h, n, h0, h1, h2, ha, hw => by
    unfold normE at ha hw
    by_cases c : l / 16777216 = h / 16777216
    · rw [if_pos c] at ha hw
      have h3 := norm_win hb d (l % 16777216 * 256) (h % 16777216 * 256 + 255) (n + 1) (by omega) (by omega) (by omega) ha.2 (by
        rw [show n + 1 + (normE d (l % 16777216 * 256) (h % 16777216 * 256 + 255)).1.length = n + ((normE d (l % 16777216 * 256) (h % 16777216 * 256 + 255)).1.length + 1) by omega]
        exact hw)
      have h4 := win_succ hb n
      have h5 := win_top hb n
      have h6 := byteOf_range hb (n + 4)
      have h7 : Dec.byteOf code n = l / 16777216 := ha.1
      omega
    · rw [if_neg c] at ha hw
      exact hw
/-- The end tells a number of the interval, with zeros behind it. -/
theorem end_win (P : List Int) (low high : Int) (z : Nat) (h0 : 0 ≤ low) (h1 : low ≤ high) (h2 : high ≤ 4294967295) : low ≤ win (P ++ endOf low high ++ List.replicate z 0) P.length ∧ win (P ++ endOf low high ++ List.replicate z 0) P.length ≤ high := by
  have key : ∀ i, i < 4 → Dec.byteOf (P ++ endOf low high ++ List.replicate z 0) (P.length + i) = (endOf low high).getD i 0 := by
    intro i _
    rw [byteOf_getD, List.append_assoc, List.getD_eq_getElem?_getD, List.getElem?_append_right (by omega), Nat.add_sub_cancel_left, List.getD_eq_getElem?_getD]
    by_cases c : i < (endOf low high).length
    · rw [List.getElem?_append_left c]
    · rw [List.getElem?_append_right (by omega), List.getElem?_eq_none (l := endOf low high) (by omega), List.getElem?_replicate]
      split <;> rfl
  have k0 := key 0 (by omega)
  have k1 := key 1 (by omega)
  have k2 := key 2 (by omega)
  have k3 := key 3 (by omega)
  rw [Nat.add_zero] at k0
  unfold win
  rw [k0, k1, k2, k3]
  unfold endOf endN hiBytes
  (repeat' split) <;> simp only [List.take, List.getD_cons_zero, List.getD_cons_succ, List.getD_nil] <;> omega
/-- Encoder and decoder stand at the same place. -/
structure Sync (code : List Int) (s : ES) (d : DS) : Prop where
  k : d.kind = s.kind
  st : d.st = s.st
  l : d.low = s.low
  h : d.high = s.high
  c : d.code = code
  a : d.a = s.out.length + 4
  v : d.value = win code s.out.length
  e : d.ended = false
theorem putI_good {s : ES} {i bit : Int} (h : s.err i bit = 0) : s.good i bit = true ∧ s.putI i bit = s.put i.toNat bit ∧ 0 ≤ i ∧ i < s.st.length ∧ (bit = 0 ∨ bit = 1) := by
  unfold ES.err at h
  by_cases c : s.good i bit = true
  · have c2 := c
    simp only [ES.good, Bool.and_eq_true, Bool.or_eq_true, decide_eq_true_eq] at c2
    exact ⟨c, if_pos c, c2.1.1, c2.1.2, c2.2⟩
  · rw [if_neg c] at h
    exact absurd h (by decide)
theorem putsE_pre : ∀ (l : List S87) (s : ES), ∃ m, (putsE s l).1.out = s.out ++ m
  | [], s => ⟨[], by simp [putsE]⟩
  | x :: l, s => by
    unfold putsE
    split
    · obtain ⟨m, hm⟩ := putsE_pre l (s.putI x.f0 x.f1)
      rename_i h
      have hg := putI_good h
      rw [hg.2.1] at hm ⊢
      exact ⟨(s.norm x.f0.toNat x.f1).1 ++ m, by rw [hm, ← List.append_assoc]; rfl⟩
    · exact ⟨[], by simp⟩
/-- The code's number stands in the interval of every state on the way. -/
theorem win_in {code : List Int} (hb : Bytes code) : ∀ (l : List S87) (s : ES), s.ok → (putsE s l).2 = 0 → (∃ t, code = (putsE s l).1.out ++ t) → ((putsE s l).1.low ≤ win code (putsE s l).1.out.length ∧ win code (putsE s l).1.out.length ≤ (putsE s l).1.high) → s.low ≤ win code s.out.length ∧ win code s.out.length ≤ s.high
  | [], s, _, _, _, hw => hw
  | x :: l, s, hok, he, hp, hw => by
    unfold putsE at he hp hw
    by_cases c : s.err x.f0 x.f1 = 0
    · rw [if_pos c] at he hp hw
      have hg := putI_good c
      have h1 := win_in hb l (s.putI x.f0 x.f1) (ES.putI_ok hok _ _) he hp hw
      obtain ⟨t, ht⟩ := hp
      obtain ⟨m, hm⟩ := putsE_pre l (s.putI x.f0 x.f1)
      rw [hg.2.1] at h1 hm ht
      have hi : x.f0.toNat < s.st.length := by omega
      have hc := ES.cut_ hok hi (bit := x.f1)
      have hmid := ES.mid_ hok hi
      have hat : AtL code s.out.length (s.norm x.f0.toNat x.f1).1 := by
        rw [ht, hm]
        have h2 := atL_of (s.norm x.f0.toNat x.f1).1 (m ++ t) s.out
        rw [← List.append_assoc] at h2
        exact h2
      have h3 := norm_win hb 4 _ _ s.out.length hc.1 hc.2.1 hc.2.2 hat (by
        have h4 : (s.put x.f0.toNat x.f1).out.length = s.out.length + (s.norm x.f0.toNat x.f1).1.length := List.length_append
        rw [h4] at h1
        exact h1)
      have hl := hok.l
      unfold cutL cutH at h3
      split at h3 <;> omega
    · rw [if_neg c] at he
      exact absurd he c
theorem back_step {code : List Int} (hb : Bytes code) {s : ES} {d : DS} (hs : Sync code s d) (hok : s.ok) {x : S87} (he : s.err x.f0 x.f1 = 0) (hp : ∃ t, code = (s.putI x.f0 x.f1).out ++ t) (hw : (s.putI x.f0 x.f1).low ≤ win code (s.putI x.f0 x.f1).out.length ∧ win code (s.putI x.f0 x.f1).out.length ≤ (s.putI x.f0 x.f1).high) : ∃ d', d.getI x.f0 = (d', x.f1, 0) ∧ Sync code (s.putI x.f0 x.f1) d' := by
  have hg := putI_good he
  rw [hg.2.1] at hw hp ⊢
  obtain ⟨j, hj⟩ : ∃ j : Nat, x.f0 = (j : Int) := ⟨x.f0.toNat, by omega⟩
  rw [hj, Int.toNat_natCast] at hw hp ⊢
  have hi : j < s.st.length := by omega
  have hc := ES.cut_ hok hi (bit := x.f1)
  have hmid := ES.mid_ hok hi
  obtain ⟨t, ht⟩ := hp
  have h4 : (s.put j x.f1).out.length = s.out.length + (s.norm j x.f1).1.length := List.length_append
  have hat : AtL code s.out.length (s.norm j x.f1).1 := by
    rw [ht]
    exact atL_of (s.norm j x.f1).1 t s.out
  have h3 := norm_win hb 4 _ _ s.out.length hc.1 hc.2.1 hc.2.2 hat (by
    rw [h4] at hw
    exact hw)
  have hm : d.mid j = s.mid j := by
    unfold DS.mid ES.mid
    rw [hs.l, hs.h, hs.k, hs.st]
  have hbit : d.bit j = x.f1 := by
    unfold DS.bit
    rw [hs.v, hm]
    unfold cutL cutH at h3
    rcases hg.2.2.2.2 with hx | hx
    · rw [hx] at h3 ⊢
      rw [if_neg (by decide), if_neg (by decide)] at h3
      rw [if_neg (by omega)]
    · rw [hx] at h3 ⊢
      rw [if_pos rfl, if_pos rfl] at h3
      rw [if_pos (by omega)]
  have hn : d.norm j = s.norm j x.f1 := by
    unfold DS.norm ES.norm
    rw [hs.l, hs.h, hm, hbit]
  have hlen : s.out.length + (s.norm j x.f1).1.length ≤ code.length := by
    rw [ht, List.length_append, h4]
    omega
  refine ⟨d.next j, ?_, ?_⟩
  · unfold DS.getI
    rw [if_pos (by rw [hs.st]; omega), hs.e, if_neg (by decide), Int.toNat_natCast, hn, if_neg (by rw [hs.a, hs.c]; omega), hbit]
  · have e1 : d.next j = ⟨d.kind, d.st.set j (after d.kind (rd d.st j) (d.bit j)), (d.norm j).2.1, (d.norm j).2.2, d.code, d.a + (d.norm j).1.length, shV d.code (d.norm j).1.length d.value d.a, false⟩ := rfl
    rw [e1, hn, hbit, hs.k, hs.st, hs.c, hs.a, hs.v, shV_win hb]
    exact ⟨rfl, rfl, rfl, rfl, rfl, by rw [h4]; show s.out.length + 4 + _ = _; omega, by rw [h4], rfl⟩
/-- A decoder tells these events, one behind the other. -/
def Fol : DS → List S87 → DS → Prop
  | d, [], d' => d = d'
  | d, x :: l, d' => ∃ e, d.getI x.f0 = (e, x.f1, 0) ∧ Fol e l d'
theorem Fol.app : ∀ {l m : List S87} {d e : DS}, Fol d (l ++ m) e ↔ ∃ c, Fol d l c ∧ Fol c m e
  | [], m, d, e => ⟨fun h => ⟨d, rfl, h⟩, fun ⟨c, h, h2⟩ => by cases h; exact h2⟩
  | x :: l, m, d, e => by
    constructor
    · rintro ⟨d1, h1, h2⟩
      obtain ⟨c, h3, h4⟩ := Fol.app.1 h2
      exact ⟨c, ⟨d1, h1, h3⟩, h4⟩
    · rintro ⟨c, ⟨d1, h1, h3⟩, h4⟩
      exact ⟨d1, h1, Fol.app.2 ⟨c, h3, h4⟩⟩
theorem fol_of {code : List Int} (hb : Bytes code) : ∀ (l : List S87) (s : ES) (d : DS), s.ok → Sync code s d → (putsE s l).2 = 0 → (∃ t, code = (putsE s l).1.out ++ t) → ((putsE s l).1.low ≤ win code (putsE s l).1.out.length ∧ win code (putsE s l).1.out.length ≤ (putsE s l).1.high) → ∃ d', Fol d l d' ∧ Sync code (putsE s l).1 d'
  | [], s, d, _, hs, _, _, _ => ⟨d, rfl, hs⟩
  | x :: l, s, d, hok, hs, he, hp, hw => by
    unfold putsE at he hp hw ⊢
    by_cases c : s.err x.f0 x.f1 = 0
    · rw [if_pos c] at he hp hw ⊢
      have hok2 := ES.putI_ok hok x.f0 x.f1
      have h1 := win_in hb l (s.putI x.f0 x.f1) hok2 he hp hw
      have hp2 : ∃ t, code = (s.putI x.f0 x.f1).out ++ t := by
        obtain ⟨t, ht⟩ := hp
        obtain ⟨m, hm⟩ := putsE_pre l (s.putI x.f0 x.f1)
        exact ⟨m ++ t, by rw [ht, hm, List.append_assoc]⟩
      obtain ⟨d1, hg, hs1⟩ := back_step hb hs hok c hp2 h1
      obtain ⟨d2, hr, hs2⟩ := fol_of hb l (s.putI x.f0 x.f1) d1 hok2 hs1 he hp hw
      exact ⟨d2, ⟨d1, hg, hr⟩, hs2⟩
    · rw [if_neg c] at he
      exact absurd he c
/-- What is encoded is told again. -/
theorem back_fol {kind : Int} {st : List Int} {l : List S87} (hm : okModel kind st) (he : (putsE (newES kind st) l).2 = 0) {code : List Int} (hb : Bytes code) (hc : code = (putsE (newES kind st) l).1.end_) : ∃ d', Fol (newDS kind st code) l d' ∧ Sync code (putsE (newES kind st) l).1 d' := by
  have hokN := putsE_ok l _ (newES_ok hm)
  have hw := end_win (putsE (newES kind st) l).1.out (putsE (newES kind st) l).1.low (putsE (newES kind st) l).1.high 0 hokN.l hokN.lh hokN.h
  rw [List.replicate_zero, List.append_nil] at hw
  have hc2 : code = (putsE (newES kind st) l).1.out ++ endOf (putsE (newES kind st) l).1.low (putsE (newES kind st) l).1.high := hc
  rw [← hc2] at hw
  exact fol_of hb l (newES kind st) (newDS kind st code) (newES_ok hm) ⟨rfl, rfl, rfl, rfl, rfl, rfl, win_zero hb, rfl⟩ he ⟨_, hc2⟩ hw
end Go.Proofs.Ytlnhahnnjbfjdaa.Bkp
namespace Go.Proofs.Ytlnhahnnjbfjdaa.RDec
open Go Go.RowKit Go.Proofs.YtlnhahnnjbfjdaaW.PrintWords Go.Proofs.YtlnhahnnjbfjdaaW.PrintLast Go.Proofs.YtlnhahnnjbfjdaaW.PrintMore Go.Proofs.Ytlnhahnnjbfjdaa.Aid Go.Proofs.Ytlnhahnnjbfjdaa.HandAid Go.Proofs.Ytlnhahnnjbfjdaa.Cod1 Go.Proofs.Ytlnhahnnjbfjdaa.Cod2 Go.Proofs.Ytlnhahnnjbfjdaa.Cod3 Go.Proofs.Ytlnhahnnjbfjdaa.Mod Go.Proofs.Ytlnhahnnjbfjdaa.Enc Go.Proofs.Ytlnhahnnjbfjdaa.Mods Go.Proofs.Ytlnhahnnjbfjdaa.EncAt Go.Proofs.Ytlnhahnnjbfjdaa.Put Go.Proofs.Ytlnhahnnjbfjdaa.End Go.Proofs.Ytlnhahnnjbfjdaa.Snc Go.Proofs.Ytlnhahnnjbfjdaa.RefAt Go.Proofs.Ytlnhahnnjbfjdaa.Dec Go.Proofs.Ytlnhahnnjbfjdaa.Get Go.Proofs.Ytlnhahnnjbfjdaa.U
attribute [local go_sem low] max2_int
attribute [local go_sem] min2_int max_two min_two
theorem max_sub (k n : Nat) : Builtin.max2 (.int .i64 0) (.int .i64 ((k : Int) - (n : Int))) = pure (.int .i64 ((k - n : Nat) : Int)) := by
  rw [max2_int]
  congr 2
  split <;> omega
attribute [local go_sem high] max_sub
/-- The reference's decoder: its cells. -/
def dec9 (kind : Int) (v : Value) (low high : Int) (vc : Value) (a value be : Int) (ended : Bool) : Array Value := #[.int .i64 kind, v, .int .u64 low, .int .u64 high, vc, .int .i64 a, .int .u64 value, .int .i64 be, .bool ended]
structure RDecRow (W : World) (S : Nat → Prop) (g : Nat) (kind : Int) (A : Option Addr) (c : Nat) (st : List Int) (low high : Int) (vc : Value) (code : List Int) (a value be : Int) (ended : Bool) : Prop where
  b : W.heap[g]? = some (.cells (dec9 kind (.slice A st.length c) low high vc a value be ended) 104 (0, 0))
  s : Kd.R (Kd.int .i64) 3 W 0 S (.slice A st.length c) st
  o : Kd.R (Kd.int .u8) 5 W 0 S vc code
  g : S g
section
variable {W W' : World} {S S' : Nat → Prop} {g : Nat} {kind : Int} {A : Option Addr} {c : Nat} {st : List Int} {low high : Int} {vc : Value} {code : List Int} {a value be : Int} {ended : Bool}
theorem RDecRow.kept (h : RDecRow W S g kind A c st low high vc code a value be ended) (hk : Mods W W' S') (hne : ∀ k, S k → ¬ S' k) : RDecRow W' S g kind A c st low high vc code a value be ended :=
  ⟨blk_kept h.b hk.kept (hne g h.g), Kd.R_kept h.s hk.kept hne, Kd.R_kept h.o hk.kept hne, h.g⟩
theorem RDecRow.below (h : RDecRow W S g kind A c st low high vc code a value be ended) (hb : Below W.heap.size W W') : RDecRow W' S g kind A c st low high vc code a value be ended :=
  ⟨blk_below h.b hb, Kd.R_below h.s hb, Kd.R_below h.o hb, h.g⟩
theorem RDecRow.drewN (h : RDecRow W S g kind A c st low high vc code a value be ended) (m : Nat) : RDecRow (W.drewN m) S g kind A c st low high vc code a value be ended := h.below (pw_below_drewN (Below.refl _ _) m)
theorem RDecRow.drew (h : RDecRow W S g kind A c st low high vc code a value be ended) : RDecRow W.drew S g kind A c st low high vc code a value be ended := h.below (below_drew (Below.refl _ _))
theorem RDecRow.mono (h : RDecRow W S g kind A c st low high vc code a value be ended) (hs : ∀ k, S k → S' k) : RDecRow W S' g kind A c st low high vc code a value be ended :=
  ⟨h.b, Kd.R_mono h.s hs, Kd.R_mono h.o hs, hs g h.g⟩
theorem RDecRow.c0 (h : RDecRow W S g kind A c st low high vc code a value be ended) : W.cell? ⟨g, 0, none⟩ = some (.int .i64 kind) := (blk_cell h.b 0).trans rfl
theorem RDecRow.c1 (h : RDecRow W S g kind A c st low high vc code a value be ended) : W.cell? ⟨g, 1, none⟩ = some (.slice A st.length c) := (blk_cell h.b 1).trans rfl
theorem RDecRow.c2 (h : RDecRow W S g kind A c st low high vc code a value be ended) : W.cell? ⟨g, 2, none⟩ = some (.int .u64 low) := (blk_cell h.b 2).trans rfl
theorem RDecRow.c3 (h : RDecRow W S g kind A c st low high vc code a value be ended) : W.cell? ⟨g, 3, none⟩ = some (.int .u64 high) := (blk_cell h.b 3).trans rfl
theorem RDecRow.c4 (h : RDecRow W S g kind A c st low high vc code a value be ended) : W.cell? ⟨g, 4, none⟩ = some vc := (blk_cell h.b 4).trans rfl
theorem RDecRow.c5 (h : RDecRow W S g kind A c st low high vc code a value be ended) : W.cell? ⟨g, 5, none⟩ = some (.int .i64 a) := (blk_cell h.b 5).trans rfl
theorem RDecRow.c6 (h : RDecRow W S g kind A c st low high vc code a value be ended) : W.cell? ⟨g, 6, none⟩ = some (.int .u64 value) := (blk_cell h.b 6).trans rfl
theorem RDecRow.c7 (h : RDecRow W S g kind A c st low high vc code a value be ended) : W.cell? ⟨g, 7, none⟩ = some (.int .i64 be) := (blk_cell h.b 7).trans rfl
theorem RDecRow.c8 (h : RDecRow W S g kind A c st low high vc code a value be ended) : W.cell? ⟨g, 8, none⟩ = some (.bool ended) := (blk_cell h.b 8).trans rfl
theorem RDecRow.fz (h : RDecRow W S g kind A c st low high vc code a value be ended) (i : Nat) : W.frozen? ⟨g, i, none⟩ = false := blk_frozen h.b i
theorem RDecRow.cell (h : RDecRow W S g kind A c st low high vc code a value be ended) {i : Nat} (hi : i < st.length) : ∃ b, A = some ⟨b, 0, none⟩ ∧ W.cell? ⟨b, i, none⟩ = some (.int .i64 (rd st i)) ∧ W.frozen? ⟨b, i, none⟩ = false ∧ b ≠ g := by
  obtain ⟨b, cap, hv, _, _, cells, hc⟩ := Kd.R_form h.s (by omega)
  injection hv with hA _ hcap
  subst hA hcap
  have h1 := Kd.R_cell (0 : Int) h.s (i : Int) (by omega) (by omega)
  have hne : b ≠ g := blk_ne hc h.b (by decide)
  exact ⟨b, rfl, h1.1, h1.2, hne⟩
theorem RDecRow.put (h : RDecRow W S g kind A c st low high vc code a value be ended) (j : Nat) (u : Value) {kind' low' high' a' value' be' : Int} {ended' : Bool} (e : (dec9 kind (.slice A st.length c) low high vc a value be ended).setIfInBounds j u = dec9 kind' (.slice A st.length c) low' high' vc a' value' be' ended') : RDecRow (W.setCell ⟨g, j, none⟩ u) S g kind' A c st low' high' vc code a' value' be' ended' :=
  ⟨blk_put h.b j u e, Kd.R_set h.s h.b (by decide) _ _, Kd.R_set h.o h.b (by decide) _ _, h.g⟩
theorem RDecRow.setst {b : Nat} (h : RDecRow W S g kind (some ⟨b, 0, none⟩) c st low high vc code a value be ended) {i : Nat} (hi : i < st.length) (x : Int) : RDecRow (W.setCell ⟨b, i, none⟩ (.int .i64 x)) S g kind (some ⟨b, 0, none⟩) c (st.set i x) low high vc code a value be ended := by
  obtain ⟨b', hA, _, _, hne⟩ := h.cell hi
  injection hA with hA
  injection hA with hA _ _
  subst hA
  obtain ⟨cells, hty⟩ := Kd.R_typed h.s b (by simp [Value.ownBlock])
  have hp := (Kd.R_put (enc := Value.int .i64) h.s (i : Int) x).1
  rw [Int.toNat_natCast] at hp
  have hl : (st.set i x).length = st.length := List.length_set
  refine ⟨?_, ?_, Kd.R_set h.o hty (by decide) _ _, h.g⟩
  · rw [hl]
    exact blk_far h.b (Ne.symm hne) _
  · rw [hl]
    exact hp
/-- A write in another block. -/
theorem RDecRow.far (h : RDecRow W S g kind A c st low high vc code a value be ended) {p : Addr} (hp : ¬ S p.block) (u : Value) : RDecRow (W.setCell p u) S g kind A c st low high vc code a value be ended :=
  h.kept ((Mods.refl W (fun k => k = p.block)).setCell (.inl rfl) u) (fun k hk he => hp (he ▸ hk))
end
end Go.Proofs.Ytlnhahnnjbfjdaa.RDec
namespace Go.Proofs.Ytlnhahnnjbfjdaa.RDecNew
open Go Go.RowKit Go.Proofs.YtlnhahnnjbfjdaaW.PrintWords Go.Proofs.YtlnhahnnjbfjdaaW.PrintLast Go.Proofs.YtlnhahnnjbfjdaaW.PrintMore Go.Proofs.Ytlnhahnnjbfjdaa.Aid Go.Proofs.Ytlnhahnnjbfjdaa.HandAid Go.Proofs.Ytlnhahnnjbfjdaa.Cod1 Go.Proofs.Ytlnhahnnjbfjdaa.Cod2 Go.Proofs.Ytlnhahnnjbfjdaa.Cod3 Go.Proofs.Ytlnhahnnjbfjdaa.Mod Go.Proofs.Ytlnhahnnjbfjdaa.Enc Go.Proofs.Ytlnhahnnjbfjdaa.Mods Go.Proofs.Ytlnhahnnjbfjdaa.EncAt Go.Proofs.Ytlnhahnnjbfjdaa.Put Go.Proofs.Ytlnhahnnjbfjdaa.End Go.Proofs.Ytlnhahnnjbfjdaa.Snc Go.Proofs.Ytlnhahnnjbfjdaa.RefAt Go.Proofs.Ytlnhahnnjbfjdaa.Dec Go.Proofs.Ytlnhahnnjbfjdaa.Get Go.Proofs.Ytlnhahnnjbfjdaa.DecNew Go.Proofs.Ytlnhahnnjbfjdaa.RDec Go.Proofs.Ytlnhahnnjbfjdaa.U
attribute [local go_sem low] max2_int
attribute [local go_sem] min2_int max_two min_two
theorem max_sub4 (n : Nat) : Builtin.max2 (.int .i64 0) (.int .i64 (4 - (n : Int))) = pure (.int .i64 ((4 - n : Nat) : Int)) := by
  rw [max2_int]
  congr 2
  split <;> omega
attribute [local go_sem high] max_sub4
/-- The reference's decoder in memory. -/
def RDecAt (W : World) (S : Nat → Prop) (g : Nat) (s : DS) : Prop := ∃ A c vc, RDecRow W S g s.kind A c s.st s.low s.high vc s.code s.a s.value ((s.a - s.code.length : Nat) : Int) s.ended
theorem RDecAt.kept {W W' : World} {S S' : Nat → Prop} {g : Nat} {s : DS} (h : RDecAt W S g s) (hk : Mods W W' S') (hne : ∀ k, S k → ¬ S' k) : RDecAt W' S g s := by
  obtain ⟨A, c, vo, h⟩ := h
  exact ⟨A, c, vo, h.kept hk hne⟩
theorem RDecAt.below {W W' : World} {S : Nat → Prop} {g : Nat} {s : DS} (h : RDecAt W S g s) (hb : Below W.heap.size W W') : RDecAt W' S g s := by
  obtain ⟨A, c, vo, h⟩ := h
  exact ⟨A, c, vo, h.below hb⟩
theorem RDecAt.mono {W : World} {S S' : Nat → Prop} {g : Nat} {s : DS} (h : RDecAt W S g s) (hs : ∀ k, S k → S' k) : RDecAt W S' g s := by
  obtain ⟨A, c, vo, h⟩ := h
  exact ⟨A, c, vo, h.mono hs⟩
set_option maxRecDepth 100000 in
theorem rdec_model_calls (w : World) (S : Nat → Prop) (g : Nat) (s : DS) (hE : RDecAt w S g s) (hok : s.ok) :
    Calls Try.prog 60 #[.pointer (some ⟨g, 0, none⟩)] w (MPost w s.kind s.st) := by
  obtain ⟨A, c, vo, hR⟩ := hE
  have HE := Aside0.mk (hR.below (below_alloc (Below.refl _ _) (.cells #[.int .i64 0, .slice none 0 0] 45)))
  have HB := Aside0.mk (below_alloc (Below.refl w.heap.size w) (.cells #[.int .i64 0, .slice none 0 0] 45))
  have HZ := Aside0.mk (heap_new w (.cells #[.int .i64 0, .slice none 0 0] 45))
  have hu := Try.underlying45
  have k0 := HE.out.c0
  have k1 := HE.out.c1
  have hl := hok.m.2.1
  obtain ⟨hn, hc, hC⟩ := Kd.R_reads' HE.out.s
  have HC := Aside0.mk hC
  obtain ⟨b2, hb2⟩ : ∃ b2, w.heap.size = b2 := ⟨_, rfl⟩
  have HSZ := Aside0.mk hb2
  rw [hb2] at HZ
  clear hR hn hC
  go_enter Try.func60, Try.ntmps60
  go_wp2_with (go_at_call 53; refine (copy_calls A c s.kind s.st _ HC.out hc (by omega)).mono ?_; rintro e w4 ⟨A4, c4, rfl, hR4, hB4⟩; have HR4 := Aside0.mk (Kd.R_lower hR4 HB.out.size); have HB4 := Aside0.mk (below_then HB.out HB.out.size hB4); have HZ4 := Aside0.mk (blk_below HZ.out hB4); have z0 : w4.cell? ⟨b2, 0, none⟩ = some (.int .i64 0) := (blk_cell HZ4.out 0).trans rfl; have z1 : w4.cell? ⟨b2, 1, none⟩ = some (.slice none 0 0) := (blk_cell HZ4.out 1).trans rfl; have zf0 := blk_frozen HZ4.out 0; have zf1 := blk_frozen HZ4.out 1; clear hR4 hB4)
  have hz2 : (w4.setCell ⟨b2, 0, none⟩ (.int .i64 s.kind)).heap[b2]? = some (.cells #[.int .i64 s.kind, .slice none 0 0] 45 (0, 0)) := blk_put (cs := #[.int .i64 0, .slice none 0 0]) HZ4.out 0 _ rfl
  refine bodyPost_ret (results_cell_row rfl _ _ b2 45 #[.int .i64 s.kind, .slice A4 s.st.length c4] (0, 0) _ rfl (blk_put (cs := #[.int .i64 s.kind, .slice none 0 0]) hz2 1 _ rfl) Try.underlying45 rfl (by kernel_rfl)) rfl ?_
  have hwb : w.heap.size ≤ b2 := by rw [HSZ.out]; exact Nat.le_refl _
  exact ⟨A4, c4, rfl, Kd.R_set (Kd.R_set HR4.out HZ4.out (by decide) _ _) hz2 (by decide) _ _, (HB4.out.setCell hwb _).setCell hwb _⟩
end Go.Proofs.Ytlnhahnnjbfjdaa.RDecNew
namespace Go.Proofs.Ytlnhahnnjbfjdaa.TwoD
open Go Go.RowKit Go.Proofs.YtlnhahnnjbfjdaaW.PrintWords Go.Proofs.YtlnhahnnjbfjdaaW.PrintLast Go.Proofs.YtlnhahnnjbfjdaaW.PrintMore Go.Proofs.Ytlnhahnnjbfjdaa.Aid Go.Proofs.Ytlnhahnnjbfjdaa.HandAid Go.Proofs.Ytlnhahnnjbfjdaa.Cod1 Go.Proofs.Ytlnhahnnjbfjdaa.Cod2 Go.Proofs.Ytlnhahnnjbfjdaa.Cod3 Go.Proofs.Ytlnhahnnjbfjdaa.Mod Go.Proofs.Ytlnhahnnjbfjdaa.Enc Go.Proofs.Ytlnhahnnjbfjdaa.Mods Go.Proofs.Ytlnhahnnjbfjdaa.EncAt Go.Proofs.Ytlnhahnnjbfjdaa.Put Go.Proofs.Ytlnhahnnjbfjdaa.End Go.Proofs.Ytlnhahnnjbfjdaa.Snc Go.Proofs.Ytlnhahnnjbfjdaa.RefAt Go.Proofs.Ytlnhahnnjbfjdaa.Dec Go.Proofs.Ytlnhahnnjbfjdaa.Get Go.Proofs.Ytlnhahnnjbfjdaa.DecNew Go.Proofs.Ytlnhahnnjbfjdaa.RDec Go.Proofs.Ytlnhahnnjbfjdaa.RDecNew
/-- The program's decoder (at g, in the state s) and the reference's (at h, in the state t) side by side. -/
structure TwoD (w : World) (g h : Nat) (s t : DS) (W : World) : Prop where
  ex : ∃ S1 S2 : Nat → Prop, DecAt W S1 g s ∧ RDecAt W S2 h t ∧ (∀ k, S1 k → w.heap.size ≤ k ∧ k < W.heap.size) ∧ (∀ k, S2 k → w.heap.size ≤ k ∧ k < W.heap.size) ∧ (∀ k, S1 k → ¬ S2 k)
  b : Below w.heap.size w W
  sok : s.ok
  tok : t.ok
section
variable {w W W' : World} {g h : Nat} {s t : DS}
theorem TwoD.below (H : TwoD w g h s t W) (hb : Below W.heap.size W W') : TwoD w g h s t W' := by
  obtain ⟨⟨S1, S2, h1, h2, h3, h4, h5⟩, b, sok, tok⟩ := H
  exact ⟨⟨S1, S2, h1.below hb, h2.below hb, fun k hk => ⟨(h3 k hk).1, Nat.lt_of_lt_of_le (h3 k hk).2 hb.size⟩, fun k hk => ⟨(h4 k hk).1, Nat.lt_of_lt_of_le (h4 k hk).2 hb.size⟩, h5⟩, below_then b b.size hb, sok, tok⟩
theorem TwoD.get (H : TwoD w g h s t W) (i : Int) :
    Calls Try.prog 56 #[.pointer (some ⟨g, 0, none⟩), .int .i64 i] W fun e W' => e = .returned (.tuple #[.int .i64 (s.getI i).2.1, .int .i64 (s.getI i).2.2]) ∧ TwoD w g h (s.getI i).1 t W' := by
  obtain ⟨⟨S1, S2, h1, h2, h3, h4, h5⟩, b, sok, tok⟩ := H
  refine (get_calls W S1 g s i h1 (fun k hk => (h3 k hk).2) sok).mono ?_
  rintro e W' ⟨he, hE, hM⟩
  exact ⟨he, ⟨⟨S1, S2, hE, h2.kept hM (fun k hk hk1 => h5 k hk1 hk), fun k hk => ⟨(h3 k hk).1, Nat.lt_of_lt_of_le (h3 k hk).2 hM.size⟩, fun k hk => ⟨(h4 k hk).1, Nat.lt_of_lt_of_le (h4 k hk).2 hM.size⟩, h5⟩, below_mods b hM (fun k hk => (h3 k hk).1) b.size, DS.getI_ok sok _, tok⟩⟩
theorem TwoD.beyond (H : TwoD w g h s t W) : Calls Try.prog 29 #[.pointer (some ⟨g, 0, none⟩)] W fun e w' => e = .returned (.int .i64 ((s.a - s.code.length : Nat) : Int)) ∧ W = w' := by
  obtain ⟨⟨S1, S2, h1, h2, h3, h4, h5⟩, b, sok, tok⟩ := H
  exact beyond_calls W S1 g s h1
theorem TwoD.model (H : TwoD w g h s t W) : Calls Try.prog 44 #[.pointer (some ⟨g, 0, none⟩)] W (MPost W s.kind s.st) := by
  obtain ⟨⟨S1, S2, h1, h2, h3, h4, h5⟩, b, sok, tok⟩ := H
  exact dec_model_calls W S1 g s h1 sok
theorem TwoD.rmodel (H : TwoD w g h s t W) : Calls Try.prog 60 #[.pointer (some ⟨h, 0, none⟩)] W (MPost W t.kind t.st) := by
  obtain ⟨⟨S1, S2, h1, h2, h3, h4, h5⟩, b, sok, tok⟩ := H
  exact rdec_model_calls W S2 h t h2 tok
theorem TwoD.new {W1 W2 : World} (hb : Below w.heap.size w W) (h1 : DecAt W1 (Since W.heap.size W1) g s) (hb1 : Below W.heap.size W W1) (h2 : RDecAt W2 (Since W1.heap.size W2) h t) (hb2 : Below W1.heap.size W1 W2) (sok : s.ok) (tok : t.ok) : TwoD w g h s t W2 :=
  ⟨⟨_, _, h1.below hb2, h2, fun k hk => ⟨Nat.le_trans hb.size hk.1, Nat.lt_of_lt_of_le hk.2 hb2.size⟩, fun k hk => ⟨Nat.le_trans (Nat.le_trans hb.size hb1.size) hk.1, hk.2⟩, fun k hk hk2 => by have := hk.2; have := hk2.1; omega⟩, below_then (below_then hb hb.size hb1) (Nat.le_trans hb.size hb1.size) hb2, sok, tok⟩
end
end Go.Proofs.Ytlnhahnnjbfjdaa.TwoD
namespace Go.Proofs.Ytlnhahnnjbfjdaa.Ngt
open Go Go.RowKit Go.Proofs.YtlnhahnnjbfjdaaW.PrintWords Go.Proofs.YtlnhahnnjbfjdaaW.PrintLast Go.Proofs.YtlnhahnnjbfjdaaW.PrintMore Go.Proofs.Ytlnhahnnjbfjdaa.Aid Go.Proofs.Ytlnhahnnjbfjdaa.HandAid Go.Proofs.Ytlnhahnnjbfjdaa.Cod1 Go.Proofs.Ytlnhahnnjbfjdaa.Cod2 Go.Proofs.Ytlnhahnnjbfjdaa.Cod3 Go.Proofs.Ytlnhahnnjbfjdaa.Mod Go.Proofs.Ytlnhahnnjbfjdaa.Enc Go.Proofs.Ytlnhahnnjbfjdaa.Mods Go.Proofs.Ytlnhahnnjbfjdaa.EncAt Go.Proofs.Ytlnhahnnjbfjdaa.Put Go.Proofs.Ytlnhahnnjbfjdaa.End Go.Proofs.Ytlnhahnnjbfjdaa.Snc Go.Proofs.Ytlnhahnnjbfjdaa.Dec Go.Proofs.Ytlnhahnnjbfjdaa.Get
/-- What a number is told with: the decoder behind it, the number, the error. -/
abbrev NR := DS × (Bool × Int) × Int
/-- The context of digit i of c, of a tree at a base. -/
def ctxOf (c i : Nat) : Int := if i = 0 then 23 + (c : Int) else min (43 + (i : Int)) 47
def signD (base : Int) (s : DS) (v : Int) : NR :=
  if v > 1048577 then (s, (false, 0), 3) else if v = 1 then (s, (false, 0), 0)
  else if (s.getI (base + 22)).2.2 = 0 then ((s.getI (base + 22)).1, (false, (v - 1) * (1 - 2 * (s.getI (base + 22)).2.1)), 0) else ((s.getI (base + 22)).1, (false, 0), (s.getI (base + 22)).2.2)
def digD (base : Int) (c : Nat) : Nat → Nat → DS → Int → NR
  | 0, _, s, v => signD base s v
  | r + 1, i, s, v => if (s.getI (base + ctxOf c i)).2.2 = 0 then digD base c r (i + 1) (s.getI (base + ctxOf c i)).1 (2 * v + (s.getI (base + ctxOf c i)).2.1) else ((s.getI (base + ctxOf c i)).1, (false, 0), (s.getI (base + ctxOf c i)).2.2)
def lenD (base : Int) : Nat → Nat → DS → NR
  | 0, c, s => digD base c c 0 s 1
  | f + 1, c, s => if (s.getI (base + 1 + c)).2.2 = 0 then (if (s.getI (base + 1 + c)).2.1 = 0 then digD base c c 0 (s.getI (base + 1 + c)).1 1 else lenD base f (c + 1) (s.getI (base + 1 + c)).1) else ((s.getI (base + 1 + c)).1, (false, 0), (s.getI (base + 1 + c)).2.2)
/-- The number that a decoder tells next, of the tree at a base. -/
def numD (base : Int) (s : DS) : NR :=
  if (s.getI base).2.2 = 0 then (if (s.getI base).2.1 = 1 then ((s.getI base).1, (true, 0), 0) else lenD base 20 0 (s.getI base).1) else ((s.getI base).1, (false, 0), (s.getI base).2.2)
theorem getI_len (s : DS) (i : Int) : (s.getI i).1.st.length = s.st.length := by
  unfold DS.getI
  split
  · split
    · rfl
    · split
      · rfl
      · show (s.st.set _ _).length = _
        exact List.length_set
  · rfl
end Go.Proofs.Ytlnhahnnjbfjdaa.Ngt
namespace Go.Proofs.Ytlnhahnnjbfjdaa.Nwk
open Go Go.RowKit Go.Proofs.YtlnhahnnjbfjdaaW.PrintWords Go.Proofs.YtlnhahnnjbfjdaaW.PrintLast Go.Proofs.YtlnhahnnjbfjdaaW.PrintMore Go.Proofs.Ytlnhahnnjbfjdaa.Aid Go.Proofs.Ytlnhahnnjbfjdaa.HandAid Go.Proofs.Ytlnhahnnjbfjdaa.Cod1 Go.Proofs.Ytlnhahnnjbfjdaa.Cod2 Go.Proofs.Ytlnhahnnjbfjdaa.Cod3 Go.Proofs.Ytlnhahnnjbfjdaa.Mod Go.Proofs.Ytlnhahnnjbfjdaa.Enc Go.Proofs.Ytlnhahnnjbfjdaa.Mods Go.Proofs.Ytlnhahnnjbfjdaa.EncAt Go.Proofs.Ytlnhahnnjbfjdaa.Put Go.Proofs.Ytlnhahnnjbfjdaa.End Go.Proofs.Ytlnhahnnjbfjdaa.Snc Go.Proofs.Ytlnhahnnjbfjdaa.Dec Go.Proofs.Ytlnhahnnjbfjdaa.Get Go.Proofs.Ytlnhahnnjbfjdaa.Ngt
attribute [local go_sem] max2_int min2_int max_two min_two
theorem bit_range (s : DS) (i : Int) : 0 ≤ (s.getI i).2.1 ∧ (s.getI i).2.1 ≤ 1 := by
  unfold DS.getI
  split
  · split
    · exact ⟨Int.le_refl _, by show (0 : Int) ≤ 1; decide⟩
    · split
      · exact ⟨Int.le_refl _, by show (0 : Int) ≤ 1; decide⟩
      · have := DS.bit_ s i.toNat
        show 0 ≤ s.bit i.toNat ∧ s.bit i.toNat ≤ 1
        omega
  · exact ⟨Int.le_refl _, by show (0 : Int) ≤ 1; decide⟩
/-- What a decoder's row in memory is kept by. -/
class AtL (At : World → (Nat → Prop) → Nat → DS → Prop) : Prop where
  kept : ∀ {W W' : World} {S S' : Nat → Prop} {g : Nat} {s : DS}, At W S g s → Mods W W' S' → (∀ k, S k → ¬ S' k) → At W' S g s
  below : ∀ {W W' : World} {S : Nat → Prop} {g : Nat} {s : DS}, At W S g s → Below W.heap.size W W' → At W' S g s
  mono : ∀ {W : World} {S S' : Nat → Prop} {g : Nat} {s : DS}, At W S g s → (∀ k, S k → S' k) → At W S' g s
instance : AtL DecAt := ⟨fun h hk hne => DecAt.kept h hk hne, fun h hb => DecAt.below h hb, fun h hs => DecAt.mono h hs⟩
/-- A decoder at g, and what number.get has made: its result's cell. -/
structure GS (At : World → (Nat → Prop) → Nat → DS → Prop) (w : World) (S : Nat → Prop) (g gz : Nat) (s : DS) (W : World) : Prop where
  d : At W S g s
  m : Mods w W S
  z : W.heap[gz]? = some (.cells #[.bool false, .int .i64 0] 23 (0, 0))
  ok : s.ok
theorem GS.get {w W : World} {S : Nat → Prop} {g gz : Nat} {s : DS} (H : GS DecAt w S g gz s W) (hS : ∀ k, S k → k < w.heap.size) (hz : w.heap.size ≤ gz) (i : Int) :
    Calls Try.prog 56 #[.pointer (some ⟨g, 0, none⟩), .int .i64 i] W fun e W' => e = .returned (.tuple #[.int .i64 (s.getI i).2.1, .int .i64 (s.getI i).2.2]) ∧ GS DecAt w S g gz (s.getI i).1 W' ∧ Mods W W' S := by
  refine (get_calls W S g s i H.d (fun k hk => Nat.lt_of_lt_of_le (hS k hk) H.m.size) H.ok).mono ?_
  rintro e W' ⟨he, hE, hM⟩
  exact ⟨he, ⟨hE, H.m.then_ hM (fun k hk => .inl hk), blk_mods H.z hM (fun hk => by have := hS gz hk; omega), DS.getI_ok H.ok _⟩, hM⟩
/-- Another new block's cell is written. -/
theorem GS.tail {At : World → (Nat → Prop) → Nat → DS → Prop} [AtL At] {w W : World} {S : Nat → Prop} {g gz : Nat} {s : DS} (H : GS At w S g gz s W) (hS : ∀ k, S k → k < w.heap.size) {gt : Nat} (ht : w.heap.size ≤ gt) (hne : gt ≠ gz) (v : Value) : GS At w S g gz s (W.setCell ⟨gt, 0, none⟩ v) := by
  have h2 : Mods W (W.setCell ⟨gt, 0, none⟩ v) (fun k => k = gt) := (Mods.refl W (fun k => k = gt)).setCell (p := ⟨gt, 0, none⟩) (.inl rfl) v
  exact ⟨AtL.kept H.d h2 (fun k hk hk2 => by have := hS k hk; omega), H.m.then_ h2 (fun k hk => .inr (by omega)), blk_mods H.z h2 (fun hk => hne hk.symm), H.ok⟩
theorem GS.below {At : World → (Nat → Prop) → Nat → DS → Prop} [AtL At] {w W W' : World} {S : Nat → Prop} {g gz : Nat} {s : DS} (H : GS At w S g gz s W) (hb : Below W.heap.size W W') : GS At w S g gz s W' :=
  ⟨AtL.below H.d hb, H.m.below hb, blk_below H.z hb, H.ok⟩
theorem zset {W : World} {gz : Nat} {u v : Value} (h : W.heap[gz]? = some (.cells #[u, v] 23 (0, 0))) (p q : Value) :
    ((W.setCell ⟨gz, 0, none⟩ p).setCell ⟨gz, 1, none⟩ q).heap[gz]? = some (.cells #[p, q] 23 (0, 0)) := by simpa using blk_set (blk_set h 0 p) 1 q
/-- The end: the result's cell is written. -/
theorem GS.fin {At : World → (Nat → Prop) → Nat → DS → Prop} [AtL At] {w W : World} {S : Nat → Prop} {g gz : Nat} {s : DS} (H : GS At w S g gz s W) (hS : ∀ k, S k → k < w.heap.size) (hz : w.heap.size ≤ gz) (p q : Value) :
    At ((W.setCell ⟨gz, 0, none⟩ p).setCell ⟨gz, 1, none⟩ q) S g s ∧ Mods w ((W.setCell ⟨gz, 0, none⟩ p).setCell ⟨gz, 1, none⟩ q) S := by
  have h2 : Mods W ((W.setCell ⟨gz, 0, none⟩ p).setCell ⟨gz, 1, none⟩ q) (fun k => k = gz) := ((Mods.refl W (fun k => k = gz)).setCell (p := ⟨gz, 0, none⟩) (.inl rfl) p).setCell (p := ⟨gz, 1, none⟩) (.inl rfl) q
  exact ⟨AtL.kept H.d h2 (fun k hk hk2 => by have := hS k hk; omega), H.m.then_ h2 (fun k hk => .inr (by omega))⟩
theorem nret {W : World} {gz : Nat} {nn : Bool} {N err : Int} {tmps : Array Value} (hz : W.heap[gz]? = some (.cells #[.bool nn, .int .i64 N] 23 (0, 0))) (h2 : tmps.getD 4 undef = .pointer (some ⟨gz, 0, none⟩)) (h3 : tmps.getD 5 undef = .int .i64 err) :
    (results Try.f48 tmps).run Try.prog W = .ok (.tuple #[.agg #[.bool nn, .int .i64 N], .int .i64 err]) W := by
  have y0 : W.cell? ⟨gz, 0, none⟩ = some (.bool nn) := (blk_cell hz 0).trans rfl
  have y1 : W.cell? ⟨gz, 1, none⟩ = some (.int .i64 N) := (blk_cell hz 1).trans rfl
  have hu := Try.underlying23
  rw [results_cell_tmp rfl, h2, h3]
  go_simp
theorem take_calls (W : World) (gt : Nat) (n : Int) (h : W.heap[gt]? = some (.cells #[.int .i64 n] 117 (0, 0))) (h0 : 0 ≤ n) (h1 : n ≤ 47) :
    Calls Try.prog 69 #[.pointer (some ⟨gt, 0, none⟩)] W fun e W' => e = .returned (.int .i64 n) ∧ W' = W.setCell ⟨gt, 0, none⟩ (.int .i64 (min (n + 1) 47)) := by
  have k0 : W.cell? ⟨gt, 0, none⟩ = some (.int .i64 n) := (blk_cell h 0).trans rfl
  have fz := blk_frozen h 0
  go_enter Try.func69, Try.ntmps69
  go_wp2
  all_goals (go_ret; exact ⟨rfl, by rw [Int.min_def]; split <;> first | rfl | (exfalso; omega) | (congr 2; omega)⟩)
/-- What number.get answers. -/
def NPost (At : World → (Nat → Prop) → Nat → DS → Prop) (w : World) (S : Nat → Prop) (g : Nat) (R : NR) (e : Ending) (W : World) : Prop :=
  e = .returned (.tuple #[.agg #[.bool R.2.1.1, .int .i64 R.2.1.2], .int .i64 R.2.2]) ∧ At W S g R.1 ∧ Mods w W S ∧ R.1.ok
set_option maxHeartbeats 8000000 in
set_option maxRecDepth 100000 in
theorem number_get (w : World) (S : Nat → Prop) (g : Nat) (s : DS) (base : Int) (h : DecAt w S g s) (hS : ∀ k, S k → k < w.heap.size) (hok : s.ok) (hb0 : 0 ≤ base) (hb1 : base ≤ 1099511627776) (R : NR) (hR : numD base s = R) :
    Calls Try.prog 48 #[.pointer (some ⟨g, 0, none⟩), .int .i64 base] w (NPost DecAt w S g R) := by
  have hu1 := Try.underlying23
  have hu2 := Try.underlying117
  obtain ⟨gz, hgz⟩ : ∃ x, w.heap.size = x := ⟨_, rfl⟩
  have hz : w.heap.size ≤ gz := Nat.le_of_eq hgz
  have HA := Aside0.mk h
  have HO := Aside0.mk hok
  have HS := Aside0.mk hS
  have HR := Aside0.mk hR
  clear h hok hS hR
  obtain ⟨W1, hW1⟩ : ∃ x, w.alloc (.cells #[.bool false, .int .i64 0] 23) = x := ⟨_, rfl⟩
  have HG := Aside0.mk (show GS DecAt w S g gz s W1 from hW1 ▸ ⟨HA.out.below (below_alloc (Below.refl _ _) _), (Mods.refl w S).below (below_alloc (Below.refl _ _) _), hgz ▸ heap_new w _, HO.out⟩)
  clear HA HO
  have hR := HR.out
  clear HR
  unfold numD at hR
  go_enter Try.func48, Try.ntmps48
  go_wp2_with (fail)
  refine (GS.get HG.out HS.out hz base).mono ?_
  rintro e W2 ⟨rfl, hg, hm⟩
  obtain ⟨⟨s1, bt, er⟩, hg1⟩ : ∃ x, s.getI base = x := ⟨_, rfl⟩
  have hbtbt : 0 ≤ bt ∧ bt ≤ 1 := by have := bit_range s base; rw [hg1] at this; exact this
  rw [hg1] at hR hg ⊢
  simp only at hR hg ⊢
  have HG2 := Aside0.mk hg
  clear hg hm hg1
  have z0W2 : W2.cell? ⟨gz, 0, none⟩ = some (.bool false) := (blk_cell HG2.out.z 0).trans rfl
  have z1W2 : W2.cell? ⟨gz, 1, none⟩ = some (.int .i64 0) := (blk_cell HG2.out.z 1).trans rfl
  have y0W2 := blk_frozen HG2.out.z 0
  have y1W2 := blk_frozen HG2.out.z 1
  by_cases her : er = 0
  · subst her
    rw [if_pos rfl] at hR
    by_cases hb : bt = 1
    · subst hb
      rw [if_pos rfl] at hR
      subst hR
      go_wp2_with (fail)
      exact bodyPost_ret (nret (zset HG2.out.z (.bool true) (.int .i64 0)) rfl rfl) rfl ⟨rfl, (HG2.out.fin HS.out hz (.bool true) (.int .i64 0)).1, (HG2.out.fin HS.out hz (.bool true) (.int .i64 0)).2, HG2.out.ok⟩
    · rw [if_neg hb] at hR
      have eb : (bt == 1) = false := beq_eq_false_iff_ne.mpr hb
      clear HG
      go_wp2_with (fail)
      go_loopw [8] (fun x wr => ∃ c : Nat, ∃ s1 : DS, c ≤ 20 ∧ x = .int .i64 c ∧ lenD base (20 - c) c s1 = R ∧ Aside0 (GS DecAt w S g gz s1 wr)) (fun x _ => (20 - intOf x).toNat)
      case atStart => exact ⟨0, s1, by omega, rfl, hR, HG2⟩
      case round =>
        obtain ⟨c, s2, hc, rfl, hR, HG3⟩ := hrel
        clear z0W2 z1W2 y0W2 y1W2 HG2
        by_cases hlt : c < 20
        · have hcl : (c : Int) < 20 := by omega
          rw [show 20 - c = (20 - (c + 1)) + 1 by omega] at hR
          unfold lenD at hR
          go_wp2_with (fail)
          refine (GS.get HG3.out HS.out hz (base + 1 + c)).mono ?_
          rintro e W3 ⟨rfl, hg, hm⟩
          obtain ⟨⟨s3, btc, erc⟩, hg1⟩ : ∃ x, s2.getI (base + 1 + c) = x := ⟨_, rfl⟩
          have hbtbtc : 0 ≤ btc ∧ btc ≤ 1 := by have := bit_range s2 (base + 1 + c); rw [hg1] at this; exact this
          rw [hg1] at hR hg ⊢
          simp only at hR hg ⊢
          have HG4 := Aside0.mk hg
          clear hg hm hg1
          have z0W3 : W3.cell? ⟨gz, 0, none⟩ = some (.bool false) := (blk_cell HG4.out.z 0).trans rfl
          have z1W3 : W3.cell? ⟨gz, 1, none⟩ = some (.int .i64 0) := (blk_cell HG4.out.z 1).trans rfl
          have y0W3 := blk_frozen HG4.out.z 0
          have y1W3 := blk_frozen HG4.out.z 1
          by_cases herc : erc = 0
          · subst herc
            rw [if_pos rfl] at hR
            by_cases hbc : btc = 0
            · subst hbc
              rw [if_pos rfl] at hR
              clear HG3
              go_wp2_with (fail)
              obtain ⟨gt, hgt⟩ : ∃ x, W3.heap.size = x := ⟨_, rfl⟩
              have hgt1 : w.heap.size ≤ gt := hgt ▸ HG4.out.m.size
              have hgz2 : gz < W3.heap.size := blk_lt HG4.out.z
              have hgt2 : gt ≠ gz := by omega
              obtain ⟨W5, hW5⟩ : ∃ x, W3.alloc (.cells #[.int .i64 44] 117) = x := ⟨_, rfl⟩
              have HT := Aside0.mk (show W5.heap[gt]? = some (.cells #[.int .i64 (if 0 = 0 then 44 else min (43 + (0 : Int)) 47)] 117 (0, 0)) from hW5 ▸ hgt ▸ heap_new _ _)
              have HG5 := Aside0.mk (show GS DecAt w S g gz s3 W5 from hW5 ▸ HG4.out.below (below_alloc (Below.refl _ _) _))
              rw [hW5, hgt]
              clear hW5 hgt hgz2 HG4
              go_loopw [9, 50] (fun uv ui wq => ∃ i : Nat, ∃ v : Int, ∃ s : DS, i ≤ c ∧ uv = .int .i64 v ∧ ui = .int .i64 i ∧ digD base c (c - i) i s v = R ∧ 0 ≤ v ∧ v < 2 ^ (i + 1) ∧ Aside0 (GS DecAt w S g gz s wq) ∧ Aside0 (wq.heap[gt]? = some (.cells #[.int .i64 (if i = 0 then 44 else min (43 + (i : Int)) 47)] 117 (0, 0)))) (fun _ ui _ => (c - intOf ui).toNat)
              case atStart => exact ⟨0, 1, s3, by omega, rfl, rfl, hR, by omega, by decide, HG5, HT⟩
              case round =>
                obtain ⟨i, v, s4, hi, rfl, rfl, hR, hv0, hv1, HG7, HT6⟩ := hrel
                clear HG5 HT
                have hp : (2 : Int) ^ (i + 1) ≤ 2097152 := by
                  have h3 : (2 : Nat) ^ (i + 1) ≤ 2 ^ 21 := Nat.pow_le_pow_right (by omega) (by omega)
                  have h4 : ((2 ^ (i + 1) : Nat) : Int) ≤ ((2 ^ 21 : Nat) : Int) := Int.ofNat_le.mpr h3
                  rw [Int.natCast_pow] at h4
                  exact h4
                by_cases hic : i < c
                · have hicl : (i : Int) < c := by omega
                  rw [show c - i = (c - (i + 1)) + 1 by omega] at hR
                  unfold digD at hR
                  by_cases hi0 : i = 0
                  · have hi0l : ¬ (0 : Int) < (i : Int) := by omega
                    rw [show ctxOf c i = 23 + (c : Int) from if_pos hi0] at hR
                    have HT6 := Aside0.mk (show wr.heap[gt]? = some (.cells #[.int .i64 (if i + 1 = 0 then 44 else min (43 + ((i + 1 : Nat) : Int)) 47)] 117 (0, 0)) from by have h := HT6.out; rw [if_pos hi0] at h; rw [if_neg (Nat.succ_ne_zero i), show min (43 + ((i + 1 : Nat) : Int)) 47 = 44 by omega]; exact h)
                    have hi0 := Aside0.mk hi0
                    go_wp2_with (fail)
                    refine (GS.get HG7.out HS.out hz (base + (23 + c))).mono ?_
                    rintro e W6 ⟨rfl, hg, hm⟩
                    obtain ⟨⟨s5, btd, erd⟩, hg1⟩ : ∃ x, s4.getI (base + (23 + c)) = x := ⟨_, rfl⟩
                    have hbtbtd : 0 ≤ btd ∧ btd ≤ 1 := by have := bit_range s4 (base + (23 + c)); rw [hg1] at this; exact this
                    rw [hg1] at hR hg ⊢
                    simp only at hR hg ⊢
                    have HG6 := Aside0.mk hg
                    have HT6 := Aside0.mk (blk_mods HT6.out hm (fun hk => by have := HS.out _ hk; omega))
                    clear hg hm hg1
                    have z0W6 : W6.cell? ⟨gz, 0, none⟩ = some (.bool false) := (blk_cell HG6.out.z 0).trans rfl
                    have z1W6 : W6.cell? ⟨gz, 1, none⟩ = some (.int .i64 0) := (blk_cell HG6.out.z 1).trans rfl
                    have y0W6 := blk_frozen HG6.out.z 0
                    have y1W6 := blk_frozen HG6.out.z 1
                    by_cases herd : erd = 0
                    · subst herd
                      rw [if_pos rfl] at hR
                      go_wp2_with (fail)
                      exact ⟨⟨i + 1, 2 * v + btd, s5, by omega, rfl, by rw [hi0.out]; rfl, hR, by omega, by rw [Int.pow_succ]; omega, HG6, HT6⟩, by simp [intOf]; omega⟩
                    · rw [if_neg herd] at hR
                      subst hR
                      have e0erd : (erd == 0) = false := beq_eq_false_iff_ne.mpr herd
                      have e1erd : (erd != 0) = true := bne_iff_ne.mpr herd
                      go_wp2_with (fail)
                      exact bodyPost_ret (nret (zset HG6.out.z (.bool false) (.int .i64 0)) rfl rfl) rfl ⟨rfl, (HG6.out.fin HS.out hz (.bool false) (.int .i64 0)).1, (HG6.out.fin HS.out hz (.bool false) (.int .i64 0)).2, HG6.out.ok⟩
                  · have hi0l : (0 : Int) < (i : Int) := by omega
                    obtain ⟨n, hn⟩ : ∃ n : Int, min (43 + (i : Int)) 47 = n := ⟨_, rfl⟩
                    have hn0 : 44 ≤ n ∧ n ≤ 47 := by omega
                    have hn1 : min (n + 1) 47 = min (43 + ((i + 1 : Nat) : Int)) 47 := by omega
                    rw [show ctxOf c i = n from (if_neg hi0).trans hn] at hR
                    rw [if_neg hi0, hn] at HT6
                    go_wp2_with (fail)
                    refine (take_calls _ gt n HT6.out (by omega) (by omega)).mono ?_
                    rintro e W7 ⟨rfl, hw7⟩
                    have HG8 := Aside0.mk (show GS DecAt w S g gz s4 W7 from hw7 ▸ HG7.out.tail HS.out hgt1 hgt2 _)
                    have HT6 := Aside0.mk (show W7.heap[gt]? = some (.cells #[.int .i64 (if i + 1 = 0 then 44 else min (43 + ((i + 1 : Nat) : Int)) 47)] 117 (0, 0)) from by rw [hw7, if_neg (Nat.succ_ne_zero i), ← hn1]; simpa using blk_set HT6.out 0 _)
                    clear hw7
                    go_wp2_with (fail)
                    refine (GS.get HG8.out HS.out hz (base + n)).mono ?_
                    rintro e W6 ⟨rfl, hg, hm⟩
                    obtain ⟨⟨s5, btd, erd⟩, hg1⟩ : ∃ x, s4.getI (base + n) = x := ⟨_, rfl⟩
                    have hbtbtd : 0 ≤ btd ∧ btd ≤ 1 := by have := bit_range s4 (base + n); rw [hg1] at this; exact this
                    rw [hg1] at hR hg ⊢
                    simp only at hR hg ⊢
                    have HG6 := Aside0.mk hg
                    have HT6 := Aside0.mk (blk_mods HT6.out hm (fun hk => by have := HS.out _ hk; omega))
                    clear hg hm hg1
                    have z0W6 : W6.cell? ⟨gz, 0, none⟩ = some (.bool false) := (blk_cell HG6.out.z 0).trans rfl
                    have z1W6 : W6.cell? ⟨gz, 1, none⟩ = some (.int .i64 0) := (blk_cell HG6.out.z 1).trans rfl
                    have y0W6 := blk_frozen HG6.out.z 0
                    have y1W6 := blk_frozen HG6.out.z 1
                    by_cases herd : erd = 0
                    · subst herd
                      rw [if_pos rfl] at hR
                      go_wp2_with (fail)
                      exact ⟨⟨i + 1, 2 * v + btd, s5, by omega, rfl, rfl, hR, by omega, by rw [Int.pow_succ]; omega, HG6, HT6⟩, by simp [intOf]; omega⟩
                    · rw [if_neg herd] at hR
                      subst hR
                      have e0erd : (erd == 0) = false := beq_eq_false_iff_ne.mpr herd
                      have e1erd : (erd != 0) = true := bne_iff_ne.mpr herd
                      go_wp2_with (fail)
                      exact bodyPost_ret (nret (zset HG6.out.z (.bool false) (.int .i64 0)) rfl rfl) rfl ⟨rfl, (HG6.out.fin HS.out hz (.bool false) (.int .i64 0)).1, (HG6.out.fin HS.out hz (.bool false) (.int .i64 0)).2, HG6.out.ok⟩
                · have hicl : ¬ (i : Int) < c := by omega
                  rw [show c - i = 0 by omega] at hR
                  unfold digD signD at hR
                  clear HT6
                  have z0wq : wr.cell? ⟨gz, 0, none⟩ = some (.bool false) := (blk_cell HG7.out.z 0).trans rfl
                  have z1wq : wr.cell? ⟨gz, 1, none⟩ = some (.int .i64 0) := (blk_cell HG7.out.z 1).trans rfl
                  have y0wq := blk_frozen HG7.out.z 0
                  have y1wq := blk_frozen HG7.out.z 1
                  by_cases hv2 : v > 1048577
                  · rw [if_pos hv2] at hR
                    subst hR
                    have hv3 : 1048577 < v := hv2
                    go_wp2_with (fail)
                    exact bodyPost_ret (nret (zset HG7.out.z (.bool false) (.int .i64 0)) rfl rfl) rfl ⟨rfl, (HG7.out.fin HS.out hz (.bool false) (.int .i64 0)).1, (HG7.out.fin HS.out hz (.bool false) (.int .i64 0)).2, HG7.out.ok⟩
                  · rw [if_neg hv2] at hR
                    have hv3 : ¬ 1048577 < v := hv2
                    by_cases hv4 : v = 1
                    · rw [if_pos hv4] at hR
                      subst hR
                      have hv5 : (v == 1) = true := beq_iff_eq.mpr hv4
                      go_wp2_with (fail)
                      exact bodyPost_ret (nret (zset HG7.out.z (.bool false) (.int .i64 0)) rfl rfl) rfl ⟨rfl, (HG7.out.fin HS.out hz (.bool false) (.int .i64 0)).1, (HG7.out.fin HS.out hz (.bool false) (.int .i64 0)).2, HG7.out.ok⟩
                    · rw [if_neg hv4] at hR
                      have hv5 : (v == 1) = false := beq_eq_false_iff_ne.mpr hv4
                      clear z0wq z1wq y0wq y1wq
                      go_wp2_with (fail)
                      refine (GS.get HG7.out HS.out hz (base + 22)).mono ?_
                      rintro e W6 ⟨rfl, hg, hm⟩
                      obtain ⟨⟨s5, btd, erd⟩, hg1⟩ : ∃ x, s4.getI (base + 22) = x := ⟨_, rfl⟩
                      have hbtbtd : 0 ≤ btd ∧ btd ≤ 1 := by have := bit_range s4 (base + 22); rw [hg1] at this; exact this
                      rw [hg1] at hR hg ⊢
                      simp only at hR hg ⊢
                      have HG6 := Aside0.mk hg
                      clear hg hm hg1
                      have z0W6 : W6.cell? ⟨gz, 0, none⟩ = some (.bool false) := (blk_cell HG6.out.z 0).trans rfl
                      have z1W6 : W6.cell? ⟨gz, 1, none⟩ = some (.int .i64 0) := (blk_cell HG6.out.z 1).trans rfl
                      have y0W6 := blk_frozen HG6.out.z 0
                      have y1W6 := blk_frozen HG6.out.z 1
                      by_cases herd : erd = 0
                      · subst herd
                        rw [if_pos rfl] at hR
                        rcases (show btd = 0 ∨ btd = 1 by omega) with rfl | rfl
                        · rw [show (v - 1) * (1 - 2 * 0) = v - 1 by omega] at hR
                          subst hR
                          go_wp2_with (fail)
                          exact bodyPost_ret (nret (zset HG6.out.z (.bool false) (.int .i64 (v - 1))) rfl rfl) rfl ⟨rfl, (HG6.out.fin HS.out hz (.bool false) (.int .i64 (v - 1))).1, (HG6.out.fin HS.out hz (.bool false) (.int .i64 (v - 1))).2, HG6.out.ok⟩
                        · rw [show (v - 1) * (1 - 2 * 1) = -(v - 1) by omega] at hR
                          subst hR
                          go_wp2_with (fail)
                          exact bodyPost_ret (nret (zset HG6.out.z (.bool false) (.int .i64 (-(v - 1)))) rfl rfl) rfl ⟨rfl, (HG6.out.fin HS.out hz (.bool false) (.int .i64 (-(v - 1)))).1, (HG6.out.fin HS.out hz (.bool false) (.int .i64 (-(v - 1)))).2, HG6.out.ok⟩
                      · rw [if_neg herd] at hR
                        subst hR
                        have e0erd : (erd == 0) = false := beq_eq_false_iff_ne.mpr herd
                        have e1erd : (erd != 0) = true := bne_iff_ne.mpr herd
                        go_wp2_with (fail)
                        exact bodyPost_ret (nret (zset HG6.out.z (.bool false) (.int .i64 0)) rfl rfl) rfl ⟨rfl, (HG6.out.fin HS.out hz (.bool false) (.int .i64 0)).1, (HG6.out.fin HS.out hz (.bool false) (.int .i64 0)).2, HG6.out.ok⟩
            · rw [if_neg hbc] at hR
              have ebc : (btc == 0) = false := beq_eq_false_iff_ne.mpr hbc
              go_wp2_with (fail)
              exact ⟨⟨c + 1, s3, by omega, rfl, by exact hR, HG4⟩, by simp [intOf]; omega⟩
          · rw [if_neg herc] at hR
            subst hR
            have e0erc : (erc == 0) = false := beq_eq_false_iff_ne.mpr herc
            have e1erc : (erc != 0) = true := bne_iff_ne.mpr herc
            go_wp2_with (fail)
            exact bodyPost_ret (nret (zset HG4.out.z (.bool false) (.int .i64 0)) rfl rfl) rfl ⟨rfl, (HG4.out.fin HS.out hz (.bool false) (.int .i64 0)).1, (HG4.out.fin HS.out hz (.bool false) (.int .i64 0)).2, HG4.out.ok⟩
        · have hcl : ¬ (c : Int) < 20 := by omega
          rw [show 20 - c = 0 by omega] at hR
          unfold lenD at hR
          go_wp2_with (fail)
          obtain ⟨gt, hgt⟩ : ∃ x, wr.heap.size = x := ⟨_, rfl⟩
          have hgt1 : w.heap.size ≤ gt := hgt ▸ HG3.out.m.size
          have hgz2 : gz < wr.heap.size := blk_lt HG3.out.z
          have hgt2 : gt ≠ gz := by omega
          obtain ⟨W5, hW5⟩ : ∃ x, wr.alloc (.cells #[.int .i64 44] 117) = x := ⟨_, rfl⟩
          have HT := Aside0.mk (show W5.heap[gt]? = some (.cells #[.int .i64 (if 0 = 0 then 44 else min (43 + (0 : Int)) 47)] 117 (0, 0)) from hW5 ▸ hgt ▸ heap_new _ _)
          have HG5 := Aside0.mk (show GS DecAt w S g gz s2 W5 from hW5 ▸ HG3.out.below (below_alloc (Below.refl _ _) _))
          rw [hW5, hgt]
          clear hW5 hgt hgz2 HG3
          go_loopw [9, 50] (fun uv ui wq => ∃ i : Nat, ∃ v : Int, ∃ s : DS, i ≤ c ∧ uv = .int .i64 v ∧ ui = .int .i64 i ∧ digD base c (c - i) i s v = R ∧ 0 ≤ v ∧ v < 2 ^ (i + 1) ∧ Aside0 (GS DecAt w S g gz s wq) ∧ Aside0 (wq.heap[gt]? = some (.cells #[.int .i64 (if i = 0 then 44 else min (43 + (i : Int)) 47)] 117 (0, 0)))) (fun _ ui _ => (c - intOf ui).toNat)
          case atStart => exact ⟨0, 1, s2, by omega, rfl, rfl, hR, by omega, by decide, HG5, HT⟩
          case round =>
            obtain ⟨i, v, s4, hi, rfl, rfl, hR, hv0, hv1, HG7, HT6⟩ := hrel
            clear HG5 HT
            have hp : (2 : Int) ^ (i + 1) ≤ 2097152 := by
              have h3 : (2 : Nat) ^ (i + 1) ≤ 2 ^ 21 := Nat.pow_le_pow_right (by omega) (by omega)
              have h4 : ((2 ^ (i + 1) : Nat) : Int) ≤ ((2 ^ 21 : Nat) : Int) := Int.ofNat_le.mpr h3
              rw [Int.natCast_pow] at h4
              exact h4
            by_cases hic : i < c
            · have hicl : (i : Int) < c := by omega
              rw [show c - i = (c - (i + 1)) + 1 by omega] at hR
              unfold digD at hR
              by_cases hi0 : i = 0
              · have hi0l : ¬ (0 : Int) < (i : Int) := by omega
                rw [show ctxOf c i = 23 + (c : Int) from if_pos hi0] at hR
                have HT6 := Aside0.mk (show wr.heap[gt]? = some (.cells #[.int .i64 (if i + 1 = 0 then 44 else min (43 + ((i + 1 : Nat) : Int)) 47)] 117 (0, 0)) from by have h := HT6.out; rw [if_pos hi0] at h; rw [if_neg (Nat.succ_ne_zero i), show min (43 + ((i + 1 : Nat) : Int)) 47 = 44 by omega]; exact h)
                have hi0 := Aside0.mk hi0
                go_wp2_with (fail)
                refine (GS.get HG7.out HS.out hz (base + (23 + c))).mono ?_
                rintro e W6 ⟨rfl, hg, hm⟩
                obtain ⟨⟨s5, btd, erd⟩, hg1⟩ : ∃ x, s4.getI (base + (23 + c)) = x := ⟨_, rfl⟩
                have hbtbtd : 0 ≤ btd ∧ btd ≤ 1 := by have := bit_range s4 (base + (23 + c)); rw [hg1] at this; exact this
                rw [hg1] at hR hg ⊢
                simp only at hR hg ⊢
                have HG6 := Aside0.mk hg
                have HT6 := Aside0.mk (blk_mods HT6.out hm (fun hk => by have := HS.out _ hk; omega))
                clear hg hm hg1
                have z0W6 : W6.cell? ⟨gz, 0, none⟩ = some (.bool false) := (blk_cell HG6.out.z 0).trans rfl
                have z1W6 : W6.cell? ⟨gz, 1, none⟩ = some (.int .i64 0) := (blk_cell HG6.out.z 1).trans rfl
                have y0W6 := blk_frozen HG6.out.z 0
                have y1W6 := blk_frozen HG6.out.z 1
                by_cases herd : erd = 0
                · subst herd
                  rw [if_pos rfl] at hR
                  go_wp2_with (fail)
                  exact ⟨⟨i + 1, 2 * v + btd, s5, by omega, rfl, by rw [hi0.out]; rfl, hR, by omega, by rw [Int.pow_succ]; omega, HG6, HT6⟩, by simp [intOf]; omega⟩
                · rw [if_neg herd] at hR
                  subst hR
                  have e0erd : (erd == 0) = false := beq_eq_false_iff_ne.mpr herd
                  have e1erd : (erd != 0) = true := bne_iff_ne.mpr herd
                  go_wp2_with (fail)
                  exact bodyPost_ret (nret (zset HG6.out.z (.bool false) (.int .i64 0)) rfl rfl) rfl ⟨rfl, (HG6.out.fin HS.out hz (.bool false) (.int .i64 0)).1, (HG6.out.fin HS.out hz (.bool false) (.int .i64 0)).2, HG6.out.ok⟩
              · have hi0l : (0 : Int) < (i : Int) := by omega
                obtain ⟨n, hn⟩ : ∃ n : Int, min (43 + (i : Int)) 47 = n := ⟨_, rfl⟩
                have hn0 : 44 ≤ n ∧ n ≤ 47 := by omega
                have hn1 : min (n + 1) 47 = min (43 + ((i + 1 : Nat) : Int)) 47 := by omega
                rw [show ctxOf c i = n from (if_neg hi0).trans hn] at hR
                rw [if_neg hi0, hn] at HT6
                go_wp2_with (fail)
                refine (take_calls _ gt n HT6.out (by omega) (by omega)).mono ?_
                rintro e W7 ⟨rfl, hw7⟩
                have HG8 := Aside0.mk (show GS DecAt w S g gz s4 W7 from hw7 ▸ HG7.out.tail HS.out hgt1 hgt2 _)
                have HT6 := Aside0.mk (show W7.heap[gt]? = some (.cells #[.int .i64 (if i + 1 = 0 then 44 else min (43 + ((i + 1 : Nat) : Int)) 47)] 117 (0, 0)) from by rw [hw7, if_neg (Nat.succ_ne_zero i), ← hn1]; simpa using blk_set HT6.out 0 _)
                clear hw7
                go_wp2_with (fail)
                refine (GS.get HG8.out HS.out hz (base + n)).mono ?_
                rintro e W6 ⟨rfl, hg, hm⟩
                obtain ⟨⟨s5, btd, erd⟩, hg1⟩ : ∃ x, s4.getI (base + n) = x := ⟨_, rfl⟩
                have hbtbtd : 0 ≤ btd ∧ btd ≤ 1 := by have := bit_range s4 (base + n); rw [hg1] at this; exact this
                rw [hg1] at hR hg ⊢
                simp only at hR hg ⊢
                have HG6 := Aside0.mk hg
                have HT6 := Aside0.mk (blk_mods HT6.out hm (fun hk => by have := HS.out _ hk; omega))
                clear hg hm hg1
                have z0W6 : W6.cell? ⟨gz, 0, none⟩ = some (.bool false) := (blk_cell HG6.out.z 0).trans rfl
                have z1W6 : W6.cell? ⟨gz, 1, none⟩ = some (.int .i64 0) := (blk_cell HG6.out.z 1).trans rfl
                have y0W6 := blk_frozen HG6.out.z 0
                have y1W6 := blk_frozen HG6.out.z 1
                by_cases herd : erd = 0
                · subst herd
                  rw [if_pos rfl] at hR
                  go_wp2_with (fail)
                  exact ⟨⟨i + 1, 2 * v + btd, s5, by omega, rfl, rfl, hR, by omega, by rw [Int.pow_succ]; omega, HG6, HT6⟩, by simp [intOf]; omega⟩
                · rw [if_neg herd] at hR
                  subst hR
                  have e0erd : (erd == 0) = false := beq_eq_false_iff_ne.mpr herd
                  have e1erd : (erd != 0) = true := bne_iff_ne.mpr herd
                  go_wp2_with (fail)
                  exact bodyPost_ret (nret (zset HG6.out.z (.bool false) (.int .i64 0)) rfl rfl) rfl ⟨rfl, (HG6.out.fin HS.out hz (.bool false) (.int .i64 0)).1, (HG6.out.fin HS.out hz (.bool false) (.int .i64 0)).2, HG6.out.ok⟩
            · have hicl : ¬ (i : Int) < c := by omega
              rw [show c - i = 0 by omega] at hR
              unfold digD signD at hR
              clear HT6
              have z0wq : wr.cell? ⟨gz, 0, none⟩ = some (.bool false) := (blk_cell HG7.out.z 0).trans rfl
              have z1wq : wr.cell? ⟨gz, 1, none⟩ = some (.int .i64 0) := (blk_cell HG7.out.z 1).trans rfl
              have y0wq := blk_frozen HG7.out.z 0
              have y1wq := blk_frozen HG7.out.z 1
              by_cases hv2 : v > 1048577
              · rw [if_pos hv2] at hR
                subst hR
                have hv3 : 1048577 < v := hv2
                go_wp2_with (fail)
                exact bodyPost_ret (nret (zset HG7.out.z (.bool false) (.int .i64 0)) rfl rfl) rfl ⟨rfl, (HG7.out.fin HS.out hz (.bool false) (.int .i64 0)).1, (HG7.out.fin HS.out hz (.bool false) (.int .i64 0)).2, HG7.out.ok⟩
              · rw [if_neg hv2] at hR
                have hv3 : ¬ 1048577 < v := hv2
                by_cases hv4 : v = 1
                · rw [if_pos hv4] at hR
                  subst hR
                  have hv5 : (v == 1) = true := beq_iff_eq.mpr hv4
                  go_wp2_with (fail)
                  exact bodyPost_ret (nret (zset HG7.out.z (.bool false) (.int .i64 0)) rfl rfl) rfl ⟨rfl, (HG7.out.fin HS.out hz (.bool false) (.int .i64 0)).1, (HG7.out.fin HS.out hz (.bool false) (.int .i64 0)).2, HG7.out.ok⟩
                · rw [if_neg hv4] at hR
                  have hv5 : (v == 1) = false := beq_eq_false_iff_ne.mpr hv4
                  clear z0wq z1wq y0wq y1wq
                  go_wp2_with (fail)
                  refine (GS.get HG7.out HS.out hz (base + 22)).mono ?_
                  rintro e W6 ⟨rfl, hg, hm⟩
                  obtain ⟨⟨s5, btd, erd⟩, hg1⟩ : ∃ x, s4.getI (base + 22) = x := ⟨_, rfl⟩
                  have hbtbtd : 0 ≤ btd ∧ btd ≤ 1 := by have := bit_range s4 (base + 22); rw [hg1] at this; exact this
                  rw [hg1] at hR hg ⊢
                  simp only at hR hg ⊢
                  have HG6 := Aside0.mk hg
                  clear hg hm hg1
                  have z0W6 : W6.cell? ⟨gz, 0, none⟩ = some (.bool false) := (blk_cell HG6.out.z 0).trans rfl
                  have z1W6 : W6.cell? ⟨gz, 1, none⟩ = some (.int .i64 0) := (blk_cell HG6.out.z 1).trans rfl
                  have y0W6 := blk_frozen HG6.out.z 0
                  have y1W6 := blk_frozen HG6.out.z 1
                  by_cases herd : erd = 0
                  · subst herd
                    rw [if_pos rfl] at hR
                    rcases (show btd = 0 ∨ btd = 1 by omega) with rfl | rfl
                    · rw [show (v - 1) * (1 - 2 * 0) = v - 1 by omega] at hR
                      subst hR
                      go_wp2_with (fail)
                      exact bodyPost_ret (nret (zset HG6.out.z (.bool false) (.int .i64 (v - 1))) rfl rfl) rfl ⟨rfl, (HG6.out.fin HS.out hz (.bool false) (.int .i64 (v - 1))).1, (HG6.out.fin HS.out hz (.bool false) (.int .i64 (v - 1))).2, HG6.out.ok⟩
                    · rw [show (v - 1) * (1 - 2 * 1) = -(v - 1) by omega] at hR
                      subst hR
                      go_wp2_with (fail)
                      exact bodyPost_ret (nret (zset HG6.out.z (.bool false) (.int .i64 (-(v - 1)))) rfl rfl) rfl ⟨rfl, (HG6.out.fin HS.out hz (.bool false) (.int .i64 (-(v - 1)))).1, (HG6.out.fin HS.out hz (.bool false) (.int .i64 (-(v - 1)))).2, HG6.out.ok⟩
                  · rw [if_neg herd] at hR
                    subst hR
                    have e0erd : (erd == 0) = false := beq_eq_false_iff_ne.mpr herd
                    have e1erd : (erd != 0) = true := bne_iff_ne.mpr herd
                    go_wp2_with (fail)
                    exact bodyPost_ret (nret (zset HG6.out.z (.bool false) (.int .i64 0)) rfl rfl) rfl ⟨rfl, (HG6.out.fin HS.out hz (.bool false) (.int .i64 0)).1, (HG6.out.fin HS.out hz (.bool false) (.int .i64 0)).2, HG6.out.ok⟩
  · rw [if_neg her] at hR
    subst hR
    have e0er : (er == 0) = false := beq_eq_false_iff_ne.mpr her
    have e1er : (er != 0) = true := bne_iff_ne.mpr her
    go_wp2_with (fail)
    exact bodyPost_ret (nret (zset HG2.out.z (.bool false) (.int .i64 0)) rfl rfl) rfl ⟨rfl, (HG2.out.fin HS.out hz (.bool false) (.int .i64 0)).1, (HG2.out.fin HS.out hz (.bool false) (.int .i64 0)).2, HG2.out.ok⟩
end Go.Proofs.Ytlnhahnnjbfjdaa.Nwk
namespace Go.Proofs.Ytlnhahnnjbfjdaa.Nrw
open Go Go.RowKit Go.Proofs.YtlnhahnnjbfjdaaW.PrintWords Go.Proofs.YtlnhahnnjbfjdaaW.PrintLast Go.Proofs.YtlnhahnnjbfjdaaW.PrintMore Go.Proofs.Ytlnhahnnjbfjdaa.Aid Go.Proofs.Ytlnhahnnjbfjdaa.HandAid Go.Proofs.Ytlnhahnnjbfjdaa.Cod1 Go.Proofs.Ytlnhahnnjbfjdaa.Cod2 Go.Proofs.Ytlnhahnnjbfjdaa.Cod3 Go.Proofs.Ytlnhahnnjbfjdaa.Mod Go.Proofs.Ytlnhahnnjbfjdaa.Enc Go.Proofs.Ytlnhahnnjbfjdaa.Mods Go.Proofs.Ytlnhahnnjbfjdaa.EncAt Go.Proofs.Ytlnhahnnjbfjdaa.Put Go.Proofs.Ytlnhahnnjbfjdaa.End Go.Proofs.Ytlnhahnnjbfjdaa.Snc Go.Proofs.Ytlnhahnnjbfjdaa.Dec Go.Proofs.Ytlnhahnnjbfjdaa.Get Go.Proofs.Ytlnhahnnjbfjdaa.DecNew Go.Proofs.Ytlnhahnnjbfjdaa.RefAt Go.Proofs.Ytlnhahnnjbfjdaa.RDec Go.Proofs.Ytlnhahnnjbfjdaa.RDecNew Go.Proofs.Ytlnhahnnjbfjdaa.Ngt Go.Proofs.Ytlnhahnnjbfjdaa.Nwk
attribute [local go_sem] max2_int min2_int max_two min_two
instance : AtL RDecAt := ⟨fun h hk hne => RDecAt.kept h hk hne, fun h hb => RDecAt.below h hb, fun h hs => RDecAt.mono h hs⟩
theorem fld (k : Int) (v : Value) (w : World) : (Instr.field 45 (.agg #[.int .i64 k, v]) 1).run Try.prog w = .ok v w := by kernel_rfl
/-- Whether a model of n states has k contexts from a base on. -/
def hasRoom (n base k : Int) : Prop := 0 ≤ base ∧ base ≤ n ∧ k ≤ n - base
instance (n base k : Int) : Decidable (hasRoom n base k) := by unfold hasRoom; infer_instance
theorem room_calls (n base k : Int) (w : World) (h0 : 0 ≤ n) (h1 : n ≤ 9223372036854775807) :
    Calls Try.prog 59 #[.int .i64 n, .int .i64 base, .int .i64 k] w fun e w' => e = .returned (.bool (decide (hasRoom n base k))) ∧ Below w.heap.size w w' := by
  unfold hasRoom
  by_cases c0 : 0 ≤ base
  · by_cases c1 : base ≤ n
    · by_cases c2 : k ≤ n - base
      · rw [decide_eq_true (show 0 ≤ base ∧ base ≤ n ∧ k ≤ n - base by omega)]
        go_enter Try.func59, Try.ntmps59
        go_wp2
        go_ret
        exact ⟨rfl, by first | exact Below.refl _ _ | exact pw_below_drewN (Below.refl _ _) _ | exact below_drew (Below.refl _ _)⟩
      · rw [decide_eq_false (show ¬ (0 ≤ base ∧ base ≤ n ∧ k ≤ n - base) by omega)]
        go_enter Try.func59, Try.ntmps59
        go_wp2
        go_ret
        exact ⟨rfl, by first | exact Below.refl _ _ | exact pw_below_drewN (Below.refl _ _) _ | exact below_drew (Below.refl _ _)⟩
    · rw [decide_eq_false (show ¬ (0 ≤ base ∧ base ≤ n ∧ k ≤ n - base) by omega)]
      go_enter Try.func59, Try.ntmps59
      go_wp2
      go_ret
      exact ⟨rfl, by first | exact Below.refl _ _ | exact pw_below_drewN (Below.refl _ _) _ | exact below_drew (Below.refl _ _)⟩
  · rw [decide_eq_false (show ¬ (0 ≤ base ∧ base ≤ n ∧ k ≤ n - base) by omega)]
    go_enter Try.func59, Try.ntmps59
    go_wp2
    go_ret
    exact ⟨rfl, by first | exact Below.refl _ _ | exact pw_below_drewN (Below.refl _ _) _ | exact below_drew (Below.refl _ _)⟩
/-- The reference's Get in plain words. -/
def numR (base : Int) (s : DS) : NR := if hasRoom s.st.length base 48 then numD base s else (s, (false, 0), 2)
end Go.Proofs.Ytlnhahnnjbfjdaa.Nrw
namespace Go.Proofs.Ytlnhahnnjbfjdaa.U
open Go.RowKit Go.Proofs.YtlnhahnnjbfjdaaW.PrintWords Go.Proofs.YtlnhahnnjbfjdaaW.PrintLast Go.Proofs.YtlnhahnnjbfjdaaW.PrintMore
attribute [local go_sem] max2_int min2_int max_two min_two max_three min_three max_four min_four   -- for this text's walks alone
def incunableref03_isId.f (a0 : Int) (a1 : Int) : Option (Bool) := if a0 ≥ 0 then (if a0 ≤ 10 then (if a1 ≥ 0 then (if 0 ≤ a0 then (some (decide (a1 < (shl .i64 1 a0)))) else (none)) else (some false)) else (some false)) else (some false)
set_option maxHeartbeats 8000000 in
set_option maxRecDepth 100000 in
theorem incunableref03_isId.calls (a0 : Int) (a1 : Int) (r : Bool) (w : World) (h : incunableref03_isId.f a0 a1 = some r) :
    Calls Try.prog 58 #[.int .i64 a0, .int .i64 a1] w fun e w' => e = .returned (.bool r) ∧ Drawn0 w w' := by
 have H : (if a0 ≥ 0 then (if a0 ≤ 10 then (if a1 ≥ 0 then (if 0 ≤ a0 then (some (decide (a1 < (shl .i64 1 a0)))) else (none)) else (some false)) else (some false)) else (some false)) = some r := h; clear h; by_cases c3 : a0 ≥ 0
 (· rw [if_pos c3] at H; have c3b0 : decide (0 ≤ a0) = true := decide_eq_true c3; clear c3; by_cases c4 : a0 ≤ 10; (· rw [if_pos c4] at H; have c4b0 : decide (a0 ≤ 10) = true := decide_eq_true c4; clear c4; by_cases c5 : a1 ≥ 0; (· rw [if_pos c5] at H; have c5b0 : decide (0 ≤ a1) = true := decide_eq_true c5; clear c5; by_cases c6 : 0 ≤ a0; (· rw [if_pos c6] at H; have c6b0 := eq_true c6; have c6b1 : decide (0 ≤ a0) = true := decide_eq_true c6; clear c6; obtain ⟨ji7, hji7⟩ : ∃ j_ : Int, (shl .i64 1 a0) = j_ := ⟨_, rfl⟩; (replace H : (some (decide (a1 < (ji7)))) = some r := by first | (rw [hji7] at H; exact H) | (simp only [hji7] at H ⊢; exact H)); have hji7_ : (IntKind.i64.wrap (1 * 2 ^ min a0.toNat 64)) = ji7 := hji7; have hji7z : a0 ≤ 64 → (IntKind.i64.wrap (1 * 2 ^ a0.toNat)) = ji7 := shl_small hji7; (have hji7u : (IntKind.i64.wrap (2 ^ min a0.toNat 64)) = ji7 := by have h_ := hji7_; rw [Int.one_mul] at h_; exact h_); (have hji7v : a0 ≤ 64 → (IntKind.i64.wrap (2 ^ a0.toNat)) = ji7 := fun hle_ => by have h_ := hji7z hle_; rw [Int.one_mul] at h_; exact h_); have hji7y : (wrap64 (1 * 2 ^ min a0.toNat 64)) = ji7 := (i64_w _).symm.trans hji7_; have hji7x : a0 ≤ 64 → (wrap64 (1 * 2 ^ a0.toNat)) = ji7 := fun h_ => (i64_w _).symm.trans (hji7z h_); obtain rfl := Option.some.inj H; go_enter Try.func58, Try.ntmps58; go_wp2; go_ret; (exact ⟨by first | rfl | (simp; done) | (simp only [← hji7] <;> (first | rfl | simp)) | (simp [*]; done), by repeat (first | exact Drawn0.refl _ | apply Drawn0.step)⟩)); (· rw [if_neg c6] at H; exact absurd H (by simp))); (· rw [if_neg c5] at H; have c5b0 : decide (0 ≤ a1) = false := decide_eq_false c5; clear c5; obtain rfl := Option.some.inj H; go_enter Try.func58, Try.ntmps58; go_wp2; go_ret; exact ⟨by first | rfl | (simp; done) | (simp [*]; done), by repeat (first | exact Drawn0.refl _ | apply Drawn0.step)⟩)); (· rw [if_neg c4] at H; have c4b0 : decide (a0 ≤ 10) = false := decide_eq_false c4; clear c4; obtain rfl := Option.some.inj H; go_enter Try.func58, Try.ntmps58; go_wp2; go_ret; exact ⟨by first | rfl | (simp; done) | (simp [*]; done), by repeat (first | exact Drawn0.refl _ | apply Drawn0.step)⟩))
 (· rw [if_neg c3] at H; have c3b0 : decide (0 ≤ a0) = false := decide_eq_false c3; clear c3; obtain rfl := Option.some.inj H; go_enter Try.func58, Try.ntmps58; go_wp2; go_ret; exact ⟨by first | rfl | (simp; done) | (simp [*]; done), by repeat (first | exact Drawn0.refl _ | apply Drawn0.step)⟩)
end Go.Proofs.Ytlnhahnnjbfjdaa.U
namespace Go.Proofs.Ytlnhahnnjbfjdaa.Gid
open Go Go.RowKit Go.Proofs.YtlnhahnnjbfjdaaW.PrintWords Go.Proofs.YtlnhahnnjbfjdaaW.PrintLast Go.Proofs.YtlnhahnnjbfjdaaW.PrintMore Go.Proofs.Ytlnhahnnjbfjdaa.Aid Go.Proofs.Ytlnhahnnjbfjdaa.HandAid Go.Proofs.Ytlnhahnnjbfjdaa.Cod1 Go.Proofs.Ytlnhahnnjbfjdaa.Cod2 Go.Proofs.Ytlnhahnnjbfjdaa.Cod3 Go.Proofs.Ytlnhahnnjbfjdaa.Mod Go.Proofs.Ytlnhahnnjbfjdaa.Enc Go.Proofs.Ytlnhahnnjbfjdaa.Mods Go.Proofs.Ytlnhahnnjbfjdaa.EncAt Go.Proofs.Ytlnhahnnjbfjdaa.Put Go.Proofs.Ytlnhahnnjbfjdaa.End Go.Proofs.Ytlnhahnnjbfjdaa.Snc Go.Proofs.Ytlnhahnnjbfjdaa.Dec Go.Proofs.Ytlnhahnnjbfjdaa.Get Go.Proofs.Ytlnhahnnjbfjdaa.DecNew Go.Proofs.Ytlnhahnnjbfjdaa.RefAt Go.Proofs.Ytlnhahnnjbfjdaa.RDec Go.Proofs.Ytlnhahnnjbfjdaa.RDecNew Go.Proofs.Ytlnhahnnjbfjdaa.Ngt Go.Proofs.Ytlnhahnnjbfjdaa.Nwk Go.Proofs.Ytlnhahnnjbfjdaa.Nrw
/-- An id's bits, behind one another. -/
def idL (base : Int) : Nat → DS → Int → DS × Int × Int
  | 0, s, p => (s, p, 0)
  | r + 1, s, p => if (s.getI (base + p - 1)).2.2 = 0 then idL base r (s.getI (base + p - 1)).1 (2 * p + (s.getI (base + p - 1)).2.1) else ((s.getI (base + p - 1)).1, 0, (s.getI (base + p - 1)).2.2)
def idD (base k : Int) (s : DS) : DS × Int × Int := if (idL base k.toNat s 1).2.2 = 0 then ((idL base k.toNat s 1).1, (idL base k.toNat s 1).2.1 - 2 ^ k.toNat, 0) else ((idL base k.toNat s 1).1, 0, (idL base k.toNat s 1).2.2)
def idR (base k : Int) (s : DS) : DS × Int × Int := if 0 ≤ k ∧ k ≤ 10 then (if hasRoom s.st.length base (2 ^ k.toNat - 1) then idD base k s else (s, 0, 2)) else (s, 0, 2)
theorem getI_neg (s : DS) : s.getI (-1) = (s, 0, 2) := by
  unfold DS.getI
  exact if_neg (by omega)
/-- A decoder at g, in a world that came of w. -/
structure IS (At : World → (Nat → Prop) → Nat → DS → Prop) (w : World) (S : Nat → Prop) (g : Nat) (s : DS) (W : World) : Prop where
  d : At W S g s
  m : Mods w W S
  ok : s.ok
theorem IS.get {w W : World} {S : Nat → Prop} {g : Nat} {s : DS} (H : IS DecAt w S g s W) (hS : ∀ k, S k → k < w.heap.size) (i : Int) :
    Calls Try.prog 56 #[.pointer (some ⟨g, 0, none⟩), .int .i64 i] W fun e W' => e = .returned (.tuple #[.int .i64 (s.getI i).2.1, .int .i64 (s.getI i).2.2]) ∧ IS DecAt w S g (s.getI i).1 W' := by
  refine (get_calls W S g s i H.d (fun k hk => Nat.lt_of_lt_of_le (hS k hk) H.m.size) H.ok).mono ?_
  rintro e W' ⟨he, hE, hM⟩
  exact ⟨he, ⟨hE, H.m.then_ hM (fun k hk => .inl hk), DS.getI_ok H.ok _⟩⟩
theorem IS.below {At : World → (Nat → Prop) → Nat → DS → Prop} [AtL At] {w W W' : World} {S : Nat → Prop} {g : Nat} {s : DS} (H : IS At w S g s W) (hb : Below W.heap.size W W') : IS At w S g s W' := ⟨AtL.below H.d hb, H.m.below hb, H.ok⟩
def IPost (At : World → (Nat → Prop) → Nat → DS → Prop) (w : World) (S : Nat → Prop) (g : Nat) (R : DS × Int × Int) (e : Ending) (W : World) : Prop :=
  e = .returned (.tuple #[.int .i64 R.2.1, .int .i64 R.2.2]) ∧ IS At w S g R.1 W
theorem fits_calls (kind : Int) (A : Option Addr) (n c : Nat) (base k : Int) (w : World) (hn : n ≤ 8192) (h0 : 0 ≤ k) (h1 : k ≤ 1024) :
    Calls Try.prog 57 #[.agg #[.int .i64 kind, .slice A n c], .int .i64 base, .int .i64 k] w fun e w' => e = .returned (.int .i64 (if hasRoom n base k then 0 else 2)) ∧ Below w.heap.size w w' := by
  have hu := Try.underlying45
  have hb := below_alloc (Below.refl w.heap.size w) (.cells #[.int .i64 kind, .slice A n c] 45)
  by_cases c0 : base < 0
  · rw [if_neg (show ¬ hasRoom n base k by unfold hasRoom; omega)]
    go_enter Try.func57, Try.ntmps57
    go_wp2
    go_ret
    exact ⟨rfl, hb⟩
  · by_cases c1 : (n : Int) - k < base
    · rw [if_neg (show ¬ hasRoom n base k by unfold hasRoom; omega)]
      go_enter Try.func57, Try.ntmps57
      go_wp2
      go_ret
      exact ⟨rfl, hb⟩
    · rw [if_pos (show hasRoom n base k by unfold hasRoom; omega)]
      go_enter Try.func57, Try.ntmps57
      go_wp2
      go_ret
      exact ⟨rfl, hb⟩
theorem pow_small {k : Int} (h0 : 0 ≤ k) (h1 : k ≤ 10) : (1 : Int) ≤ 2 ^ k.toNat ∧ (2 : Int) ^ k.toNat ≤ 1024 := by
  have h2 : (1 : Nat) ≤ 2 ^ k.toNat := Nat.one_le_two_pow
  have h3 : (2 : Nat) ^ k.toNat ≤ 2 ^ 10 := Nat.pow_le_pow_right (by omega) (by omega)
  have e : ((2 ^ k.toNat : Nat) : Int) = (2 : Int) ^ k.toNat := Int.natCast_pow 2 _
  omega
set_option maxHeartbeats 2000000 in
set_option maxRecDepth 100000 in
theorem getid_calls (w : World) (S : Nat → Prop) (g : Nat) (s : DS) (base k : Int) (h : DecAt w S g s) (hS : ∀ k, S k → k < w.heap.size) (hok : s.ok) (R : DS × Int × Int) (hR : idR base k s = R) :
    Calls Try.prog 25 #[.pointer (some ⟨g, 0, none⟩), .int .i64 base, .int .i64 k] w (IPost DecAt w S g R) := by
  have HI := Aside0.mk (show IS DecAt w S g s w from ⟨h, Mods.refl w S, hok⟩)
  have HS := Aside0.mk hS
  have hln : s.st.length ≤ 8192 := hok.m.2.1
  unfold idR at hR
  clear h hS hok
  have hk : (k < 0 ∨ (¬ k < 0 ∧ 10 < k)) ∨ (0 ≤ k ∧ k ≤ 10) := by omega
  have start : ∀ W : World, Aside0 (IS DecAt w S g s W) → Aside0 (Calls Try.prog 56 #[.pointer (some ⟨g, 0, none⟩), .int .i64 (-1)] W fun e W' => e = .returned (.tuple #[.int .i64 0, .int .i64 2]) ∧ IS DecAt w S g s W') := fun W H => ⟨by have := H.out.get HS.out (-1); rw [getI_neg] at this; exact this⟩
  rcases hk with hk | ⟨hk0, hk1⟩
  · rw [if_neg (by omega)] at hR
    subst hR
    rcases hk with hk | ⟨hk, hk2⟩
    · go_enter Try.func25, Try.ntmps25
      go_wp2_with (fail)
      refine (start _ HI).out.mono ?_
      rintro e W2 ⟨rfl, hg⟩
      go_wp2_with (fail)
      go_ret2
      exact ⟨rfl, hg⟩
    · go_enter Try.func25, Try.ntmps25
      go_wp2_with (fail)
      refine (start _ HI).out.mono ?_
      rintro e W2 ⟨rfl, hg⟩
      go_wp2_with (fail)
      go_ret2
      exact ⟨rfl, hg⟩
  · rw [if_pos ⟨hk0, hk1⟩] at hR
    obtain ⟨m, hm⟩ : ∃ m : Int, (2 : Int) ^ k.toNat = m := ⟨_, rfl⟩
    have hm2 := pow_small hk0 hk1
    unfold idD at hR
    rw [hm] at hR hm2
    go_enter Try.func25, Try.ntmps25
    go_wp2_with (fail)
    refine (start _ HI).out.mono ?_
    rintro e W2 ⟨rfl, hg⟩
    have HI := Aside0.mk hg
    clear hg start
    go_wp2_with (fail)
    have w3 : IntKind.i64.wrap (IntKind.i64.wrap m - 1) = m - 1 := by rw [IntWalk.i64_in m (by omega)]; exact IntWalk.i64_in _ (by omega)
    have hMd : ∀ W : World, IS DecAt w S g s W → Calls Try.prog 44 #[.pointer (some ⟨g, 0, none⟩)] W (MPost W s.kind s.st) := fun W H => dec_model_calls W S g s H.d H.ok
    have hFt : ∀ (A : Option Addr) (c : Nat) (W : World), Calls Try.prog 57 #[.agg #[.int .i64 s.kind, .slice A s.st.length c], .int .i64 base, .int .i64 (m - 1)] W fun e w' => e = .returned (.int .i64 (if hasRoom s.st.length base (m - 1) then 0 else 2)) ∧ Below W.heap.size W w' := fun A c W => fits_calls s.kind A s.st.length c base (m - 1) W hln (by omega) (by omega)
    have hk64 : k ≤ 64 := by omega
    obtain ⟨rm, hrm⟩ : ∃ rm : Int, (if hasRoom s.st.length base (m - 1) then 0 else 2) = rm := ⟨_, rfl⟩
    rw [hrm] at hFt
    have HI := Aside0.mk (show IS DecAt w S g s W2.drew from HI.out.below (below_drew (Below.refl _ _)))
    go_region_with (first
      | (go_at_call 44; refine (hMd _ HI.out).mono ?_; rintro e W8 ⟨A8, c8, rfl, -, hb8⟩; have HI8 := Aside0.mk (HI.out.below hb8); clear hb8)
      | (go_at_call 57; refine (hFt A8 c8 W8).mono ?_; rintro e W9 ⟨rfl, hb9⟩; have HI9 := Aside0.mk (HI8.out.below hb9); clear hb9))
    have hk2 : k.toNat = (k.toNat : Nat) := rfl
    by_cases hroom : hasRoom s.st.length base (m - 1)
    · rw [if_pos hroom] at hrm hR
      subst hrm
      have hrb : 0 ≤ base ∧ base ≤ 8192 := by unfold hasRoom at hroom; omega
      obtain ⟨Rl, hRl⟩ : ∃ x, idL base k.toNat s 1 = x := ⟨_, rfl⟩
      rw [hRl] at hR
      clear hroom hFt hMd
      go_wp2_with (fail)
      go_loopw [11, 39] (fun up ui wq => ∃ i : Nat, ∃ p : Int, ∃ s1 : DS, (i : Int) ≤ k ∧ up = .int .i64 p ∧ ui = .int .i64 i ∧ 2 ^ i ≤ p ∧ p < 2 ^ (i + 1) ∧ idL base (k.toNat - i) s1 p = Rl ∧ Aside0 (IS DecAt w S g s1 wq)) (fun _ ui _ => (k - intOf ui).toNat)
      case atStart => exact ⟨0, 1, s, by omega, rfl, rfl, by decide, by decide, hRl, HI9⟩
      case round =>
        obtain ⟨i, p, s1, hi, rfl, rfl, hp0, hp1, hR1, HIa⟩ := hrel
        clear HI9 HI8 HI
        have hpp : (1 : Int) ≤ p ∧ p < 2048 := by
          have h3 : (2 : Nat) ^ (i + 1) ≤ 2 ^ 11 := Nat.pow_le_pow_right (by omega) (by omega)
          have h4 : ((2 ^ (i + 1) : Nat) : Int) ≤ ((2 ^ 11 : Nat) : Int) := Int.ofNat_le.mpr h3
          rw [Int.natCast_pow] at h4
          have h5 : (1 : Nat) ≤ 2 ^ i := Nat.one_le_two_pow
          have h6 : ((1 : Nat) : Int) ≤ ((2 ^ i : Nat) : Int) := Int.ofNat_le.mpr h5
          rw [Int.natCast_pow] at h6
          have e1 : (((2 : Nat) : Int)) = 2 := rfl
          have e2 : ((2 ^ 11 : Nat) : Int) = 2048 := rfl
          rw [e1] at h4 h6
          omega
        by_cases hlt : (i : Int) < k
        · rw [show k.toNat - i = (k.toNat - (i + 1)) + 1 by omega] at hR1
          unfold idL at hR1
          go_wp2_with (fail)
          refine (HIa.out.get HS.out (base + p - 1)).mono ?_
          rintro e W3 ⟨rfl, hg⟩
          obtain ⟨⟨s3, bt, er⟩, hg1⟩ : ∃ x, s1.getI (base + p - 1) = x := ⟨_, rfl⟩
          have hbt : 0 ≤ bt ∧ bt ≤ 1 := by have := bit_range s1 (base + p - 1); rw [hg1] at this; exact this
          rw [hg1] at hR1 hg ⊢
          simp only at hR1 hg ⊢
          have HI4 := Aside0.mk hg
          clear hg hg1
          by_cases her : er = 0
          · subst her
            rw [if_pos rfl] at hR1
            go_wp2_with (fail)
            exact ⟨⟨i + 1, 2 * p + bt, s3, by omega, rfl, by first | rfl | (simp; done) | omega, by rw [Int.pow_succ]; omega, by rw [Int.pow_succ]; omega, hR1, HI4⟩, by simp [intOf]; omega⟩
          · rw [if_neg her] at hR1
            subst hR1
            rw [if_neg her] at hR
            subst hR
            have e0 : (er == 0) = false := beq_eq_false_iff_ne.mpr her
            have e1 : (er != 0) = true := bne_iff_ne.mpr her
            go_wp2_with (fail)
            go_ret2
            exact ⟨rfl, HI4.out⟩
        · have hlt2 : k ≤ (i : Int) := by omega
          rw [show k.toNat - i = 0 by omega] at hR1
          unfold idL at hR1
          subst hR1
          rw [if_pos rfl] at hR
          subst hR
          have hpi : 2 ^ i = m := by rw [← hm]; congr 1; omega
          have w4 : IntKind.i64.wrap (p - m) = p - m := IntWalk.i64_in _ (by omega)
          go_wp2_with (fail)
          go_ret2
          exact ⟨rfl, HIa.out⟩
    · rw [if_neg hroom] at hrm hR
      subst hrm hR
      go_wp2_with (fail)
      go_ret2
      exact ⟨rfl, HI9.out⟩
theorem drawn_below {w W : World} (h : Drawn0 w W) : Below w.heap.size w W := by
  obtain ⟨⟨n, rfl⟩⟩ := h
  exact pw_below_drewN (Below.refl _ _) n
end Go.Proofs.Ytlnhahnnjbfjdaa.Gid
namespace Go.Proofs.Ytlnhahnnjbfjdaa.Pgt
open Go Go.RowKit Go.Proofs.YtlnhahnnjbfjdaaW.PrintWords Go.Proofs.YtlnhahnnjbfjdaaW.PrintLast Go.Proofs.YtlnhahnnjbfjdaaW.PrintMore Go.Proofs.Ytlnhahnnjbfjdaa.Aid Go.Proofs.Ytlnhahnnjbfjdaa.HandAid Go.Proofs.Ytlnhahnnjbfjdaa.Cod1 Go.Proofs.Ytlnhahnnjbfjdaa.Cod2 Go.Proofs.Ytlnhahnnjbfjdaa.Cod3 Go.Proofs.Ytlnhahnnjbfjdaa.Mod Go.Proofs.Ytlnhahnnjbfjdaa.Enc Go.Proofs.Ytlnhahnnjbfjdaa.Mods Go.Proofs.Ytlnhahnnjbfjdaa.EncAt Go.Proofs.Ytlnhahnnjbfjdaa.Put Go.Proofs.Ytlnhahnnjbfjdaa.End Go.Proofs.Ytlnhahnnjbfjdaa.Snc Go.Proofs.Ytlnhahnnjbfjdaa.Dec Go.Proofs.Ytlnhahnnjbfjdaa.Get Go.Proofs.Ytlnhahnnjbfjdaa.DecNew Go.Proofs.Ytlnhahnnjbfjdaa.RefAt Go.Proofs.Ytlnhahnnjbfjdaa.RDec Go.Proofs.Ytlnhahnnjbfjdaa.RDecNew Go.Proofs.Ytlnhahnnjbfjdaa.Ngt Go.Proofs.Ytlnhahnnjbfjdaa.Nwk Go.Proofs.Ytlnhahnnjbfjdaa.Nrw Go.Proofs.Ytlnhahnnjbfjdaa.Gid
theorem pret {W : World} {gz : Nat} {nn : Bool} {N err : Int} {tmps : Array Value} (hz : W.heap[gz]? = some (.cells #[.bool nn, .int .i64 N] 23 (0, 0))) (h2 : tmps.getD 4 undef = .pointer (some ⟨gz, 0, none⟩)) (h3 : tmps.getD 5 undef = .int .i64 err) :
    (results Try.f27 tmps).run Try.prog W = .ok (.tuple #[.agg #[.bool nn, .int .i64 N], .int .i64 err]) W := by
  have y0 : W.cell? ⟨gz, 0, none⟩ = some (.bool nn) := (blk_cell hz 0).trans rfl
  have y1 : W.cell? ⟨gz, 1, none⟩ = some (.int .i64 N) := (blk_cell hz 1).trans rfl
  have hu := Try.underlying23
  rw [results_cell_tmp rfl, h2, h3]
  go_simp
set_option maxHeartbeats 1000000 in
set_option maxRecDepth 100000 in
/-- Get of the program: its answer is the reference's. -/
theorem pnum_get (w : World) (S : Nat → Prop) (g : Nat) (s : DS) (base : Int) (h : DecAt w S g s) (hS : ∀ k, S k → k < w.heap.size) (hok : s.ok) (R : NR) (hR : numR base s = R) :
    Calls Try.prog 27 #[.pointer (some ⟨g, 0, none⟩), .int .i64 base] w (NPost DecAt w S g R) := by
  have hu1 := Try.underlying23
  obtain ⟨gz, hgz⟩ : ∃ x, w.heap.size = x := ⟨_, rfl⟩
  have hz : w.heap.size ≤ gz := Nat.le_of_eq hgz
  obtain ⟨W1, hW1⟩ : ∃ x, w.alloc (.cells #[.bool false, .int .i64 0] 23) = x := ⟨_, rfl⟩
  have HG := Aside0.mk (show GS DecAt w S g gz s W1 from hW1 ▸ ⟨h.below (below_alloc (Below.refl _ _) _), (Mods.refl w S).below (below_alloc (Below.refl _ _) _), hgz ▸ heap_new w _, hok⟩)
  have HS := Aside0.mk hS
  have hln : s.st.length ≤ 8192 := hok.m.2.1
  unfold numR at hR
  clear h hS hok
  have start : ∀ W : World, Aside0 (GS DecAt w S g gz s W) → Aside0 (Calls Try.prog 56 #[.pointer (some ⟨g, 0, none⟩), .int .i64 (-1)] W fun e W' => e = .returned (.tuple #[.int .i64 0, .int .i64 2]) ∧ GS DecAt w S g gz s W' ∧ Mods W W' S) := fun W H => ⟨by have := GS.get H.out HS.out hz (-1); rw [getI_neg] at this; exact this⟩
  go_enter Try.func27, Try.ntmps27
  go_wp2_with (fail)
  refine (start _ HG).out.mono ?_
  rintro e W2 ⟨rfl, hg, -⟩
  have HG2 := Aside0.mk hg
  clear hg start HG
  go_wp2_with (fail)
  refine (dec_model_calls W2 S g s HG2.out.d HG2.out.ok).mono ?_
  rintro e W8 ⟨A8, c8, rfl, -, hb8⟩
  have HG3 := Aside0.mk (HG2.out.below hb8)
  clear hb8 HG2
  go_wp2_with (fail)
  refine (fits_calls s.kind A8 s.st.length c8 base 48 W8 hln (by decide) (by decide)).mono ?_
  rintro e W9 ⟨rfl, hb9⟩
  have HG4 := Aside0.mk (HG3.out.below hb9)
  clear hb9 HG3
  have z0 : W9.cell? ⟨gz, 0, none⟩ = some (.bool false) := (blk_cell HG4.out.z 0).trans rfl
  have z1 : W9.cell? ⟨gz, 1, none⟩ = some (.int .i64 0) := (blk_cell HG4.out.z 1).trans rfl
  have y0 := blk_frozen HG4.out.z 0
  have y1 := blk_frozen HG4.out.z 1
  by_cases hrm : hasRoom s.st.length base 48
  · rw [if_pos hrm] at hR ⊢
    have hb0 : 0 ≤ base ∧ base ≤ 8192 := by unfold hasRoom at hrm; omega
    clear hrm
    go_wp2_with (fail)
    refine (number_get W9 S g s base HG4.out.d (fun k hk => Nat.lt_of_lt_of_le (HS.out k hk) HG4.out.m.size) HG4.out.ok hb0.1 (by omega) R hR).mono ?_
    rintro e W5 ⟨rfl, hd, hm, hok⟩
    have HG5 := Aside0.mk (show GS DecAt w S g gz R.1 W5 from ⟨hd, HG4.out.m.then_ hm (fun k hk => .inl hk), blk_mods HG4.out.z hm (fun hk => by have := HS.out gz hk; omega), hok⟩)
    clear hd hm hok z0 z1 y0 y1
    have z0 : W5.cell? ⟨gz, 0, none⟩ = some (.bool false) := (blk_cell HG5.out.z 0).trans rfl
    have z1 : W5.cell? ⟨gz, 1, none⟩ = some (.int .i64 0) := (blk_cell HG5.out.z 1).trans rfl
    have y0 := blk_frozen HG5.out.z 0
    have y1 := blk_frozen HG5.out.z 1
    go_wp2_with (fail)
    exact bodyPost_ret (pret (zset HG5.out.z (.bool R.2.1.1) (.int .i64 R.2.1.2)) rfl rfl) rfl ⟨rfl, (HG5.out.fin HS.out hz (.bool R.2.1.1) (.int .i64 R.2.1.2)).1, (HG5.out.fin HS.out hz (.bool R.2.1.1) (.int .i64 R.2.1.2)).2, HG5.out.ok⟩
  · rw [if_neg hrm] at hR ⊢
    subst hR
    go_wp2_with (fail)
    exact bodyPost_ret (pret (zset HG4.out.z (.bool false) (.int .i64 0)) rfl rfl) rfl ⟨rfl, (HG4.out.fin HS.out hz (.bool false) (.int .i64 0)).1, (HG4.out.fin HS.out hz (.bool false) (.int .i64 0)).2, HG4.out.ok⟩
end Go.Proofs.Ytlnhahnnjbfjdaa.Pgt
namespace Go.Proofs.Ytlnhahnnjbfjdaa.TwN
open Go Go.RowKit Go.Proofs.YtlnhahnnjbfjdaaW.PrintWords Go.Proofs.YtlnhahnnjbfjdaaW.PrintLast Go.Proofs.YtlnhahnnjbfjdaaW.PrintMore Go.Proofs.Ytlnhahnnjbfjdaa.Aid Go.Proofs.Ytlnhahnnjbfjdaa.HandAid Go.Proofs.Ytlnhahnnjbfjdaa.Cod1 Go.Proofs.Ytlnhahnnjbfjdaa.Cod2 Go.Proofs.Ytlnhahnnjbfjdaa.Cod3 Go.Proofs.Ytlnhahnnjbfjdaa.Mod Go.Proofs.Ytlnhahnnjbfjdaa.Enc Go.Proofs.Ytlnhahnnjbfjdaa.Mods Go.Proofs.Ytlnhahnnjbfjdaa.EncAt Go.Proofs.Ytlnhahnnjbfjdaa.Put Go.Proofs.Ytlnhahnnjbfjdaa.End Go.Proofs.Ytlnhahnnjbfjdaa.Snc Go.Proofs.Ytlnhahnnjbfjdaa.Dec Go.Proofs.Ytlnhahnnjbfjdaa.Get Go.Proofs.Ytlnhahnnjbfjdaa.DecNew Go.Proofs.Ytlnhahnnjbfjdaa.RefAt Go.Proofs.Ytlnhahnnjbfjdaa.RDec Go.Proofs.Ytlnhahnnjbfjdaa.RDecNew Go.Proofs.Ytlnhahnnjbfjdaa.TwoD Go.Proofs.Ytlnhahnnjbfjdaa.Ngt Go.Proofs.Ytlnhahnnjbfjdaa.Nwk Go.Proofs.Ytlnhahnnjbfjdaa.Nrw Go.Proofs.Ytlnhahnnjbfjdaa.Gid Go.Proofs.Ytlnhahnnjbfjdaa.Pgt
variable {w W : World} {g h : Nat} {s t : DS}
theorem _root_.Go.Proofs.Ytlnhahnnjbfjdaa.TwoD.TwoD.prog (H : TwoD w g h s t W) {f : Nat} {args : Array Value} {v : Value} {s' : DS} (hc : ∀ S : Nat → Prop, DecAt W S g s → (∀ k, S k → k < W.heap.size) → Calls Try.prog f args W fun e W' => e = .returned v ∧ DecAt W' S g s' ∧ Mods W W' S ∧ s'.ok) : Calls Try.prog f args W fun e W' => e = .returned v ∧ TwoD w g h s' t W' := by
  obtain ⟨⟨S1, S2, h1, h2, h3, h4, h5⟩, b, sok, tok⟩ := H
  refine (hc S1 h1 (fun k hk => (h3 k hk).2)).mono ?_
  rintro e W' ⟨he, hE, hM, ok⟩
  exact ⟨he, ⟨⟨S1, S2, hE, h2.kept hM (fun k hk hk1 => h5 k hk1 hk), fun k hk => ⟨(h3 k hk).1, Nat.lt_of_lt_of_le (h3 k hk).2 hM.size⟩, fun k hk => ⟨(h4 k hk).1, Nat.lt_of_lt_of_le (h4 k hk).2 hM.size⟩, h5⟩, below_mods b hM (fun k hk => (h3 k hk).1) b.size, ok, tok⟩⟩
theorem _root_.Go.Proofs.Ytlnhahnnjbfjdaa.TwoD.TwoD.ref (H : TwoD w g h s t W) {f : Nat} {args : Array Value} {v : Value} {t' : DS} (hc : ∀ S : Nat → Prop, RDecAt W S h t → (∀ k, S k → k < W.heap.size) → Calls Try.prog f args W fun e W' => e = .returned v ∧ RDecAt W' S h t' ∧ Mods W W' S ∧ t'.ok) : Calls Try.prog f args W fun e W' => e = .returned v ∧ TwoD w g h s t' W' := by
  obtain ⟨⟨S1, S2, h1, h2, h3, h4, h5⟩, b, sok, tok⟩ := H
  refine (hc S2 h2 (fun k hk => (h4 k hk).2)).mono ?_
  rintro e W' ⟨he, hE, hM, ok⟩
  exact ⟨he, ⟨⟨S1, S2, h1.kept hM (fun k hk hk1 => h5 k hk hk1), hE, fun k hk => ⟨(h3 k hk).1, Nat.lt_of_lt_of_le (h3 k hk).2 hM.size⟩, fun k hk => ⟨(h4 k hk).1, Nat.lt_of_lt_of_le (h4 k hk).2 hM.size⟩, h5⟩, below_mods b hM (fun k hk => (h4 k hk).1) b.size, sok, ok⟩⟩
theorem _root_.Go.Proofs.Ytlnhahnnjbfjdaa.TwoD.TwoD.getid (H : TwoD w g h s t W) (base k : Int) (s' : DS) (v er : Int) (hR : idR base k s = (s', v, er)) :
    Calls Try.prog 25 #[.pointer (some ⟨g, 0, none⟩), .int .i64 base, .int .i64 k] W fun e W' => e = .returned (.tuple #[.int .i64 v, .int .i64 er]) ∧ TwoD w g h s' t W' :=
  H.prog fun S hd hS => (getid_calls W S g s base k hd hS H.sok _ hR).mono (fun _ _ hp => ⟨hp.1, hp.2.d, hp.2.m, hp.2.ok⟩)
theorem _root_.Go.Proofs.Ytlnhahnnjbfjdaa.TwoD.TwoD.num (H : TwoD w g h s t W) (base : Int) (s' : DS) (nn : Bool) (v er : Int) (hR : numR base s = (s', (nn, v), er)) :
    Calls Try.prog 27 #[.pointer (some ⟨g, 0, none⟩), .int .i64 base] W fun e W' => e = .returned (.tuple #[.agg #[.bool nn, .int .i64 v], .int .i64 er]) ∧ TwoD w g h s' t W' :=
  H.prog fun S hd hS => (pnum_get W S g s base hd hS H.sok _ hR).mono (fun _ _ hp => ⟨hp.1, hp.2.1, hp.2.2.1, hp.2.2.2⟩)
end Go.Proofs.Ytlnhahnnjbfjdaa.TwN
namespace Go.Proofs.Ytlnhahnnjbfjdaa.Nfo
open Go Go.RowKit Go.Proofs.YtlnhahnnjbfjdaaW.PrintWords Go.Proofs.YtlnhahnnjbfjdaaW.PrintLast Go.Proofs.YtlnhahnnjbfjdaaW.PrintMore Go.Proofs.Ytlnhahnnjbfjdaa.U Go.Proofs.Ytlnhahnnjbfjdaa.Aid Go.Proofs.Ytlnhahnnjbfjdaa.HandAid Go.Proofs.Ytlnhahnnjbfjdaa.Cod1 Go.Proofs.Ytlnhahnnjbfjdaa.Cod2 Go.Proofs.Ytlnhahnnjbfjdaa.Cod3 Go.Proofs.Ytlnhahnnjbfjdaa.Mod Go.Proofs.Ytlnhahnnjbfjdaa.Enc Go.Proofs.Ytlnhahnnjbfjdaa.Mods Go.Proofs.Ytlnhahnnjbfjdaa.EncAt Go.Proofs.Ytlnhahnnjbfjdaa.Put Go.Proofs.Ytlnhahnnjbfjdaa.End Go.Proofs.Ytlnhahnnjbfjdaa.Snc Go.Proofs.Ytlnhahnnjbfjdaa.Num Go.Proofs.Ytlnhahnnjbfjdaa.Evs Go.Proofs.Ytlnhahnnjbfjdaa.RefEvs Go.Proofs.Ytlnhahnnjbfjdaa.Pse Go.Proofs.Ytlnhahnnjbfjdaa.Dec Go.Proofs.Ytlnhahnnjbfjdaa.Get Go.Proofs.Ytlnhahnnjbfjdaa.DecNew Go.Proofs.Ytlnhahnnjbfjdaa.Bkp Go.Proofs.Ytlnhahnnjbfjdaa.Ngt
theorem fol_len (base : Int) (c : Nat) (hc : c ≤ 20) (rest : List S87) (e : DS) : ∀ (f c0 : Nat) (d : DS), f + c0 = 20 → c0 ≤ c → Fol d ((List.range' c0 (c - c0)).map (fun i : Nat => (⟨base + 1 + i, 1⟩ : S87)) ++ (evMid base c ++ rest)) e → ∃ d2, Fol d2 rest e ∧ lenD base f c0 d = digD base c c 0 d2 1
  | 0, c0, d, h, hle, hf => by
    obtain rfl : c = c0 := by omega
    rw [Nat.sub_self] at hf
    unfold evMid at hf
    rw [if_neg (by omega)] at hf
    exact ⟨d, hf, rfl⟩
  | f + 1, c0, d, h, hle, hf => by
    unfold lenD
    by_cases hlt : c0 < c
    · rw [show c - c0 = (c - (c0 + 1)) + 1 by omega, List.range'_succ, List.map_cons, List.cons_append] at hf
      obtain ⟨d1, hg, hf⟩ := hf
      simp only at hg
      rw [hg]
      simp only [if_true]
      rw [if_neg (by decide)]
      exact fol_len base c hc rest e f (c0 + 1) d1 (by omega) (by omega) hf
    · obtain rfl : c = c0 := by omega
      rw [Nat.sub_self] at hf
      unfold evMid at hf
      rw [if_pos (by omega)] at hf
      obtain ⟨d1, hg, hf⟩ := hf
      simp only at hg
      rw [hg]
      simp only [if_true]
      exact ⟨d1, hf, rfl⟩
theorem ctx_eq (c i : Nat) : evCtx c i = ctxOf c i := by
  unfold evCtx ctxOf
  by_cases h : i = 0
  · rw [if_pos h, if_pos h]
  · rw [if_neg h, if_neg h]
    split <;> omega
theorem half (v : Int) (k : Nat) : 2 * (v / 2 ^ (k + 1)) + v / 2 ^ k % 2 = v / 2 ^ k := by
  have h1 : v / 2 ^ (k + 1) = v / 2 ^ k / 2 := (div_half v k).symm
  rw [h1]
  omega
theorem fol_dig (base n : Int) (c : Nat) (rest : List S87) (e : DS) : ∀ (r i : Nat) (d : DS) (v : Int), r + i = c → v = numV n / 2 ^ r → Fol d ((List.range' i r).map (fun i : Nat => (⟨base + evCtx c i, numV n / 2 ^ (c - 1 - i) % 2⟩ : S87)) ++ rest) e → ∃ d2, Fol d2 rest e ∧ digD base c r i d v = signD base d2 (numV n)
  | 0, i, d, v, h, hv, hf => by
    rw [Int.pow_zero, Int.ediv_one] at hv
    subst hv
    exact ⟨d, hf, rfl⟩
  | r + 1, i, d, v, h, hv, hf => by
    rw [List.range'_succ, List.map_cons, List.cons_append] at hf
    obtain ⟨d1, hg, hf⟩ := hf
    simp only at hg
    unfold digD
    rw [← ctx_eq, hg]
    simp only [if_true]
    exact fol_dig base n c rest e r (i + 1) d1 _ (by omega) (by rw [hv, show c - 1 - i = r by omega]; exact half _ _) hf
/-- The number whose events a decoder tells is the number that is told. -/
theorem numD_fol (base : Int) (nn : Bool) (n : Int) (hok : okNum nn n = true) (d e : DS) (hf : Fol d (evAll base nn n) e) : numD base d = (e, (nn, n), 0) := by
  unfold evAll at hf
  by_cases hn : nn = true
  · subst hn
    rw [if_pos rfl] at hf
    obtain ⟨d1, hg, hf⟩ := hf
    obtain rfl : d1 = e := hf
    simp only at hg
    have h0 : n = 0 := by simpa [okNum] using hok
    unfold numD
    rw [hg, h0]
    rfl
  · have hn2 : nn = false := by simpa using hn
    subst hn2
    rw [if_neg (by decide)] at hf
    have hr : -1048576 ≤ n ∧ n ≤ 1048576 := by simpa [okNum] using hok
    obtain ⟨hc1, hc2, hc3, -⟩ := numC_spec hr.1 hr.2
    have hv := numV_range hr.1 hr.2
    unfold evList at hf
    generalize numC n = c at hf hc1 hc2 hc3
    unfold evHead at hf
    rw [List.append_assoc, List.append_assoc, List.cons_append] at hf
    obtain ⟨d1, hg, hf⟩ := hf
    simp only at hg
    rw [List.range_eq_range'] at hf
    obtain ⟨d2, hf2, e1⟩ := fol_len base c hc3 _ e 20 0 d1 (by omega) (Nat.zero_le _) (by rw [Nat.sub_zero]; exact hf)
    unfold evDig at hf2
    rw [List.range_eq_range'] at hf2
    have h1 : (1 : Int) = numV n / 2 ^ c := by
      have hp : (0 : Int) < 2 ^ c := Int.pow_pos (by decide)
      rw [Int.pow_succ] at hc2
      have a1 : 1 ≤ numV n / 2 ^ c := (Int.le_ediv_iff_mul_le hp).2 (by omega)
      have a2 : numV n / 2 ^ c < 2 := (Int.ediv_lt_iff_lt_mul hp).2 (by omega)
      omega
    obtain ⟨d3, hf3, e2⟩ := fol_dig base n c _ e c 0 d2 1 (by omega) h1 hf2
    unfold numD
    rw [hg]
    simp only [if_true]
    rw [if_neg (by decide), e1, e2]
    unfold signD
    rw [if_neg (by omega)]
    have hA := numA_eq n
    unfold evSign at hf3
    by_cases h0 : n = 0
    · rw [if_pos h0] at hf3
      obtain rfl : d3 = e := hf3
      rw [if_pos (by unfold numV; rw [hA, h0]; rfl), h0]
    · rw [if_neg h0] at hf3
      obtain ⟨d4, hg4, hf4⟩ := hf3
      obtain rfl : d4 = e := hf4
      simp only at hg4
      have hV : numV n = numA n + 1 := rfl
      rw [if_neg (by rw [hV, hA]; split <;> omega), hg4]
      simp only [if_true]
      rw [show (numV n - 1) * (1 - 2 * (if n < 0 then 1 else 0)) = n by rw [hV, hA]; split <;> omega]
end Go.Proofs.Ytlnhahnnjbfjdaa.Nfo
namespace Go.Proofs.Ytlnhahnnjbfjdaa.Ndc
open Go Go.RowKit Go.Proofs.YtlnhahnnjbfjdaaW.PrintWords Go.Proofs.YtlnhahnnjbfjdaaW.PrintLast Go.Proofs.YtlnhahnnjbfjdaaW.PrintMore Go.Proofs.Ytlnhahnnjbfjdaa.U Go.Proofs.Ytlnhahnnjbfjdaa.Aid Go.Proofs.Ytlnhahnnjbfjdaa.HandAid Go.Proofs.Ytlnhahnnjbfjdaa.Cod1 Go.Proofs.Ytlnhahnnjbfjdaa.Cod2 Go.Proofs.Ytlnhahnnjbfjdaa.Cod3 Go.Proofs.Ytlnhahnnjbfjdaa.Mod Go.Proofs.Ytlnhahnnjbfjdaa.NewRef Go.Proofs.Ytlnhahnnjbfjdaa.Enc Go.Proofs.Ytlnhahnnjbfjdaa.Mods Go.Proofs.Ytlnhahnnjbfjdaa.EncAt Go.Proofs.Ytlnhahnnjbfjdaa.Put Go.Proofs.Ytlnhahnnjbfjdaa.End Go.Proofs.Ytlnhahnnjbfjdaa.Snc Go.Proofs.Ytlnhahnnjbfjdaa.Dec Go.Proofs.Ytlnhahnnjbfjdaa.Get Go.Proofs.Ytlnhahnnjbfjdaa.DecNew Go.Proofs.Ytlnhahnnjbfjdaa.RefAt Go.Proofs.Ytlnhahnnjbfjdaa.RDec Go.Proofs.Ytlnhahnnjbfjdaa.RDecNew Go.Proofs.Ytlnhahnnjbfjdaa.Ngt Go.Proofs.Ytlnhahnnjbfjdaa.Nwk Go.Proofs.Ytlnhahnnjbfjdaa.Nrw
/-- What stands in Decode's loop. -/
structure NMem (At : World → (Nat → Prop) → Nat → DS → Prop) (w : World) (B E g : Nat) (s : DS) (v : Value) (acc : List S23) (W : World) : Prop where
  e : At W (fun j => B ≤ j ∧ j < E) g s
  ok : s.ok
  r : Kd.R k23 23 W w.heap.size (fun j => E ≤ j) v acc
  b : Below w.heap.size w W
  wB : w.heap.size ≤ B
  BE : B ≤ E
  EW : E ≤ W.heap.size
section
variable {At : World → (Nat → Prop) → Nat → DS → Prop} [AtL At] {w : World} {B E g : Nat} {s s' : DS} {v v' : Value} {acc acc' : List S23} {W W' : World}
omit [AtL At] in
theorem NMem.get (H : NMem At w B E g s v acc W) (hE : At W' (fun j => B ≤ j ∧ j < E) g s') (hok : s'.ok) (hM : Mods W W' (fun j => B ≤ j ∧ j < E)) : NMem At w B E g s' v acc W' :=
  ⟨hE, hok, Kd.R_kept H.r hM.kept (fun k hk hk2 => by omega), below_mods H.b hM (fun k hk => Nat.le_trans H.wB hk.1) H.b.size, H.wB, H.BE, Nat.le_trans H.EW hM.size⟩
theorem NMem.below (H : NMem At w B E g s v acc W) (hb : Below W.heap.size W W') : NMem At w B E g s v acc W' :=
  ⟨AtL.below H.e hb, H.ok, Kd.R_below H.r hb, below_then H.b H.b.size hb, H.wB, H.BE, Nat.le_trans H.EW hb.size⟩
end
end Go.Proofs.Ytlnhahnnjbfjdaa.Ndc
namespace Go.Proofs.Ytlnhahnnjbfjdaa.RefPut
open Go Go.RowKit Go.Proofs.YtlnhahnnjbfjdaaW.PrintWords Go.Proofs.YtlnhahnnjbfjdaaW.PrintLast Go.Proofs.YtlnhahnnjbfjdaaW.PrintMore Go.Proofs.Ytlnhahnnjbfjdaa.Aid Go.Proofs.Ytlnhahnnjbfjdaa.HandAid Go.Proofs.Ytlnhahnnjbfjdaa.Cod1 Go.Proofs.Ytlnhahnnjbfjdaa.Cod2 Go.Proofs.Ytlnhahnnjbfjdaa.Cod3 Go.Proofs.Ytlnhahnnjbfjdaa.Mod Go.Proofs.Ytlnhahnnjbfjdaa.Enc Go.Proofs.Ytlnhahnnjbfjdaa.Mods Go.Proofs.Ytlnhahnnjbfjdaa.EncAt Go.Proofs.Ytlnhahnnjbfjdaa.Put Go.Proofs.Ytlnhahnnjbfjdaa.U Go.Proofs.Ytlnhahnnjbfjdaa.RefAt
/-- What a good Put of the reference leaves. -/
def RefPost (w : World) (S : Nat → Prop) (g : Nat) (kind : Int) (st : List Int) (low high mid : Int) (out : List Int) (i : Nat) (bit : Int) (e : Ending) (w' : World) : Prop :=
  e = .returned (.int .i64 0) ∧ (∃ l h out1, (∃ A c vo, RefRow w' (fun k => S k ∨ w.heap.size ≤ k) g kind A c (st.set i (after kind (rd st i) bit)) l h vo out1) ∧ out1 = out ++ (normE 4 (cutL low mid bit) (cutH high mid bit)).1 ∧ (normE 4 (cutL low mid bit) (cutH high mid bit)).2 = (l, h)) ∧ Mods w w' S
theorem ref_put_arg (w : World) (g : Nat) (A : Option Addr) (n c : Nat) (i b : Int) (h1 : w.cell? ⟨g, 1, none⟩ = some (.slice A n c)) (hbad : i < 0 ∨ n ≤ i ∨ (b ≠ 0 ∧ b ≠ 1)) :
    Calls Try.prog 65 #[.pointer (some ⟨g, 0, none⟩), .int .i64 i, .int .i64 b] w fun e w' => e = .returned (.int .i64 2) ∧ w = w' := by
  by_cases c1 : i < 0
  · go_enter Try.func65, Try.ntmps65
    go_wp2
    go_ret
    exact ⟨rfl, rfl⟩
  by_cases c2 : (n : Int) ≤ i
  · go_enter Try.func65, Try.ntmps65
    go_wp2
    go_ret
    exact ⟨rfl, rfl⟩
  have hb0 : b ≠ 0 := by rcases hbad with h | h | h <;> omega
  have hb1 : b ≠ 1 := by rcases hbad with h | h | h <;> omega
  have e0 : (b != 0) = true := by simpa using hb0
  have e1 : (b != 1) = true := by simpa using hb1
  go_enter Try.func65, Try.ntmps65
  go_wp2
  go_ret
  exact ⟨rfl, rfl⟩
set_option maxHeartbeats 4000000 in
set_option maxRecDepth 100000 in
theorem ref_row0 (w : World) (S : Nat → Prop) (g : Nat) (kind : Int) (b c : Nat) (st : List Int) (low high mid : Int) (vo : Value) (out : List Int) (i : Nat) (hE : RefRow w S g kind (some ⟨b, 0, none⟩) c st low high vo out) (hi : i < st.length) (hn : st.length ≤ 8192) (hs : okState kind (rd st i)) (hl0 : 0 ≤ low) (hlh : low ≤ high) (hh : high ≤ 4294967295) (hmid : midOf low high (likely kind (rd st i)) = mid) (hI0 : PutInv out (cutL low mid 0) (cutH high mid 0) 4 (cutL low mid 0) (cutH high mid 0) out) (hlen : out.length ≤ 1099511627776) :
    Calls Try.prog 65 #[.pointer (some ⟨g, 0, none⟩), .int .i64 i, .int .i64 0] w (RefPost w S g kind st low high mid out i 0) := by
  have HE := Aside0.mk hE
  have hSg : S g := hE.g
  have hSb : S b := hE.s.1 b (by simp [Value.ownBlock])
  have k0 := hE.c0
  have k1 := hE.c1
  have ks : w.cell? ⟨b, i, none⟩ = some (.int .i64 (rd st i)) := by obtain ⟨b', hA, hc, _⟩ := hE.cell hi; cases hA; exact hc
  have hlk := likely_range kind (rd st i) hs
  have HP := fun W => Aside0.mk (hmid ▸ part_calls low high (likely kind (rd st i)) 0 W hl0 hlh hh hlk.1 hlk.2)
  have HI := Aside0.mk hI0
  have hu := Try.underlying101
  clear hE hmid hI0
  have hi1 : (0 : Int) ≤ (i : Int) := by omega
  have hi2 : (i : Int) < (st.length : Int) := by omega
  go_enter Try.func65, Try.ntmps65
  go_wp2
  refine start_ (n := 15) (S := fun w' => w'.cell? ⟨g, 0, none⟩ = some (.int .i64 kind) ∧ w'.cell? ⟨g, 1, none⟩ = some (.slice (some ⟨b, 0, none⟩) st.length c) ∧ w'.cell? ⟨b, i, none⟩ = some (.int .i64 (rd st i))) (ds := []) #[false, false, false, false, false, false, false, false, false, false, false, false, false, false, false] (by kernel_rfl) rfl rfl ⟨k0, k1, ks⟩ (fun hHeld => ?_)
  refine pure_ (i := 0) (N := some 30) (v := ?_) (a' := ?_) #[true, false, false, false, false, false, false, false, false, false, false, false, false, false, false] rfl rfl (by kernel_rfl) (fun _ _ _ h => h) (Or.inl ⟨by rfl, ?_⟩) ?_ ?_
  rotate_left
  · intro w'
    go_simp
    with_reducible rfl
  rotate_left
  · simp only [Act.put, List.setIfInBounds_toArray, List.set_cons_zero, List.set_cons_succ, i64_w, i32_w]
    rfl
  refine pure_ (i := 1) (N := some 31) (v := ?_) (a' := ?_) #[true, true, false, false, false, false, false, false, false, false, false, false, false, false, false] rfl rfl (by kernel_rfl) (fun _ _ _ h => h) (Or.inl ⟨by rfl, ?_⟩) ?_ ?_
  rotate_left
  · intro w'
    go_simp
    with_reducible rfl
  rotate_left
  · simp only [Act.put, List.setIfInBounds_toArray, List.set_cons_zero, List.set_cons_succ, i64_w, i32_w]
    rfl
  refine pure_ (i := 2) (N := some 32) (v := ?_) (a' := ?_) #[true, true, true, false, false, false, false, false, false, false, false, false, false, false, false] rfl rfl (by kernel_rfl) (fun _ _ _ h => h) (Or.inl ⟨by rfl, ?_⟩) ?_ ?_
  rotate_left
  · intro w'
    go_simp
    with_reducible rfl
  rotate_left
  · simp only [Act.put, List.setIfInBounds_toArray, List.set_cons_zero, List.set_cons_succ, i64_w, i32_w]
    rfl
  refine pure_ (i := 3) (N := some 33) (v := ?_) (a' := ?_) #[true, true, true, true, false, false, false, false, false, false, false, false, false, false, false] rfl rfl (by kernel_rfl) (fun _ _ _ h => h) (Or.inl ⟨by rfl, ?_⟩) ?_ ?_
  rotate_left
  · intro w'
    go_simp
    with_reducible rfl
  rotate_left
  · simp only [Act.put, List.setIfInBounds_toArray, List.set_cons_zero, List.set_cons_succ, i64_w, i32_w]
    rfl
  refine pure_ (i := 5) (N := some 35) (v := ?_) (a' := ?_) #[true, true, true, true, false, true, false, false, false, false, false, false, false, false, false] rfl rfl (by kernel_rfl) (fun _ _ _ h => h) (Or.inl ⟨by rfl, ?_⟩) ?_ ?_
  rotate_left
  · intro w'
    go_simp
    with_reducible rfl
  rotate_left
  · simp only [Act.put, List.setIfInBounds_toArray, List.set_cons_zero, List.set_cons_succ, i64_w, i32_w]
    rfl
  refine pure_ (i := 6) (N := some 36) (v := ?_) (a' := ?_) #[true, true, true, true, false, true, true, false, false, false, false, false, false, false, false] rfl rfl (by kernel_rfl) (fun _ _ _ h => h) (Or.inl ⟨by rfl, ?_⟩) ?_ ?_
  rotate_left
  · intro w'
    go_simp
    with_reducible rfl
  rotate_left
  · simp only [Act.put, List.setIfInBounds_toArray, List.set_cons_zero, List.set_cons_succ, i64_w, i32_w]
    rfl
  refine pure_ (i := 7) (N := some 37) (v := ?_) (a' := ?_) #[true, true, true, true, false, true, true, true, false, false, false, false, false, false, false] rfl rfl (by kernel_rfl) (fun _ _ _ h => h) (Or.inl ⟨by rfl, ?_⟩) ?_ ?_
  rotate_left
  · intro w'
    go_simp
    with_reducible rfl
  rotate_left
  · simp only [Act.put, List.setIfInBounds_toArray, List.set_cons_zero, List.set_cons_succ, i64_w, i32_w]
    rfl
  refine pure_ (i := 8) (N := some 38) (v := ?_) (a' := ?_) #[true, true, true, true, false, true, true, true, true, false, false, false, false, false, false] rfl rfl (by kernel_rfl) (fun _ _ _ h => h) (Or.inl ⟨by rfl, ?_⟩) ?_ ?_
  rotate_left
  · intro w'
    go_simp
    with_reducible rfl
  rotate_left
  · simp only [Act.put, List.setIfInBounds_toArray, List.set_cons_zero, List.set_cons_succ, i64_w, i32_w]
    rfl
  refine pure_ (i := 10) (N := some 40) (v := ?_) (a' := ?_) #[true, true, true, true, false, true, true, true, true, false, true, false, false, false, false] rfl rfl (by kernel_rfl) (fun _ _ _ h => h) (Or.inl ⟨by rfl, ?_⟩) ?_ ?_
  rotate_left
  · intro w'
    go_simp
    with_reducible rfl
  rotate_left
  · simp only [Act.put, List.setIfInBounds_toArray, List.set_cons_zero, List.set_cons_succ, i64_w, i32_w]
    rfl
  refine take_ (i := 4) (N := some 34) (v := ?_) (a' := ?_) #[true, true, true, true, true, true, true, true, true, false, true, false, false, false, false] rfl rfl (by kernel_rfl) (fun _ _ _ h => h) (Or.inl ⟨by rfl, ?_⟩) hHeld ?_ ?_
  rotate_left
  · rintro w' ⟨s0, s1, s2⟩
    go_simp
    with_reducible rfl
  rotate_left
  · simp only [Act.put, List.setIfInBounds_toArray, List.set_cons_zero, List.set_cons_succ, i64_w, i32_w]
    rfl
  refine take_ (i := 9) (N := some 39) (v := ?_) (a' := ?_) #[true, true, true, true, true, true, true, true, true, true, true, false, false, false, false] rfl rfl (by kernel_rfl) (fun _ _ _ h => h) (Or.inl ⟨by rfl, ?_⟩) hHeld ?_ ?_
  rotate_left
  · rintro w' ⟨s0, s1, s2⟩
    go_simp
    with_reducible rfl
  rotate_left
  · simp only [Act.put, List.setIfInBounds_toArray, List.set_cons_zero, List.set_cons_succ, i64_w, i32_w]
    rfl
  refine pure_ (i := 11) (N := some 41) (v := ?_) (a' := ?_) #[true, true, true, true, true, true, true, true, true, true, true, true, false, false, false] rfl rfl (by kernel_rfl) (fun _ _ _ h => h) (Or.inl ⟨by rfl, ?_⟩) ?_ ?_
  rotate_left
  · intro w'
    go_simp
    with_reducible rfl
  rotate_left
  · simp only [Act.put, List.setIfInBounds_toArray, List.set_cons_zero, List.set_cons_succ, i64_w, i32_w]
    rfl
  refine take_ (i := 12) (N := some 42) (v := ?_) (a' := ?_) #[true, true, true, true, true, true, true, true, true, true, true, true, true, false, false] rfl rfl (by kernel_rfl) (fun _ _ _ h => h) (Or.inl ⟨by rfl, ?_⟩) hHeld ?_ ?_
  rotate_left
  · rintro w' ⟨s0, s1, s2⟩
    go_simp
    with_reducible rfl
  rotate_left
  · simp only [Act.put, List.setIfInBounds_toArray, List.set_cons_zero, List.set_cons_succ, i64_w, i32_w]
    rfl
  refine one_ (i := 13) (N := some 43) #[true, true, true, true, true, true, true, true, true, true, true, true, true, true, false] rfl rfl (by kernel_rfl) (by decide) (fun K hK => ?_)
  refine goes_ Try.func77 (by kernel_rfl) rfl #[.int .i64 kind, .int .i64 (rd st i)] (by rfl) rfl rfl (by simp only [List.map_toArray, List.map_cons, List.map_nil]; rfl) ?_
  with_reducible refine (likelyB kind (rd st i) _ hs).mono ?_
  rintro e w3 ⟨rfl, hb3⟩
  refine ⟨_, rfl, ?_⟩
  have hb3' := below_undrew1 hb3
  have HE3 := Aside0.mk (HE.out.below hb3')
  have HM3 := Aside0.mk ((Mods.refl w S).below hb3')
  clear hb3 hb3'
  refine hK.out _ _ ⟨HE3.out.c0, HE3.out.c1, by obtain ⟨b', hA, hc, _⟩ := HE3.out.cell hi; cases hA; exact hc⟩ (fun hHeld => ?_)
  clear hK K
  refine norm_ (a' := ?_) ?_ ?_
  rotate_left
  · show Act.put _ (some 43) _ = _
    simp only [Act.put, List.setIfInBounds_toArray, List.set_cons_zero, List.set_cons_succ, i64_w, i32_w]
    rfl
  refine pure_ (i := 14) (N := some 7) (v := ?_) (a' := ?_) #[true, true, true, true, true, true, true, true, true, true, true, true, true, true, true] rfl rfl (by kernel_rfl) (fun _ _ _ h => h) (Or.inl ⟨by rfl, ?_⟩) ?_ ?_
  rotate_left
  · intro w'
    go_simp
    with_reducible rfl
  rotate_left
  · simp only [Act.put, List.setIfInBounds_toArray, List.set_cons_zero, List.set_cons_succ, i64_w, i32_w]
    rfl
  refine done_ (by kernel_rfl) ?_
  clear k0 k1 ks HE
  have k2 := HE3.out.c2
  have k3 := HE3.out.c3
  have f2 := HE3.out.fz 2
  have f3 := HE3.out.fz 3
  go_wp2_with (go_at_call 79; refine (HP _).out.mono ?_; rintro e w4 ⟨rfl, hb4⟩; have HE4 := Aside0.mk (HE3.out.below hb4); have HM4 := Aside0.mk (HM3.out.below hb4); have k2 := HE4.out.c2; have k3 := HE4.out.c3; have f2 := HE4.out.fz 2; have f3 := HE4.out.fz 3; clear hb4)
  clear k2 k3 f2 f3
  obtain ⟨w5, hw5⟩ : ∃ w5, w5 = (w4.setCell ⟨g, 2, none⟩ (.int .u64 (cutL low mid 0))).setCell ⟨g, 3, none⟩ (.int .u64 (cutH high mid 0)) := ⟨_, rfl⟩
  rw [← hw5]
  have HE5 := Aside0.mk (show RefRow w5 S g kind (some ⟨b, 0, none⟩) c st (cutL low mid 0) (cutH high mid 0) vo out from hw5 ▸ HE4.out.cut _ _)
  have HM5 := Aside0.mk (show Mods w w5 S from hw5 ▸ ((HM4.out.setCell (.inl hSg) _).setCell (.inl hSg) _))
  have k0 := HE5.out.c0
  have k1 := HE5.out.c1
  have ks : w5.cell? ⟨b, i, none⟩ = some (.int .i64 (rd st i)) := by obtain ⟨b', hA, hc, _⟩ := HE5.out.cell hi; cases hA; exact hc
  clear hw5 HE3 HE4 HM3 HM4
  refine start_ (n := 23) (S := fun w' => w'.cell? ⟨g, 0, none⟩ = some (.int .i64 kind) ∧ w'.cell? ⟨g, 1, none⟩ = some (.slice (some ⟨b, 0, none⟩) st.length c) ∧ w'.cell? ⟨b, i, none⟩ = some (.int .i64 (rd st i))) (ds := [22]) #[false, false, false, false, false, false, false, false, false, false, false, false, false, false, false, false, false, false, false, false, false, false, false] (by kernel_rfl) rfl rfl ⟨k0, k1, ks⟩ (fun hHeld => ?_)
  refine pure_ (i := 0) (N := some 54) (v := ?_) (a' := ?_) #[true, false, false, false, false, false, false, false, false, false, false, false, false, false, false, false, false, false, false, false, false, false, false] rfl rfl (by kernel_rfl) (fun _ _ _ h => h) (Or.inl ⟨by rfl, ?_⟩) ?_ ?_
  rotate_left
  · intro w'
    go_simp
    with_reducible rfl
  rotate_left
  · simp only [Act.put, List.setIfInBounds_toArray, List.set_cons_zero, List.set_cons_succ, i64_w, i32_w]
    rfl
  refine pure_ (i := 1) (N := some 55) (v := ?_) (a' := ?_) #[true, true, false, false, false, false, false, false, false, false, false, false, false, false, false, false, false, false, false, false, false, false, false] rfl rfl (by kernel_rfl) (fun _ _ _ h => h) (Or.inl ⟨by rfl, ?_⟩) ?_ ?_
  rotate_left
  · intro w'
    go_simp
    with_reducible rfl
  rotate_left
  · simp only [Act.put, List.setIfInBounds_toArray, List.set_cons_zero, List.set_cons_succ, i64_w, i32_w]
    rfl
  refine pure_ (i := 2) (N := some 56) (v := ?_) (a' := ?_) #[true, true, true, false, false, false, false, false, false, false, false, false, false, false, false, false, false, false, false, false, false, false, false] rfl rfl (by kernel_rfl) (fun _ _ _ h => h) (Or.inl ⟨by rfl, ?_⟩) ?_ ?_
  rotate_left
  · intro w'
    go_simp
    with_reducible rfl
  rotate_left
  · simp only [Act.put, List.setIfInBounds_toArray, List.set_cons_zero, List.set_cons_succ, i64_w, i32_w]
    rfl
  refine pure_ (i := 3) (N := some 57) (v := ?_) (a' := ?_) #[true, true, true, true, false, false, false, false, false, false, false, false, false, false, false, false, false, false, false, false, false, false, false] rfl rfl (by kernel_rfl) (fun _ _ _ h => h) (Or.inl ⟨by rfl, ?_⟩) ?_ ?_
  rotate_left
  · intro w'
    go_simp
    with_reducible rfl
  rotate_left
  · simp only [Act.put, List.setIfInBounds_toArray, List.set_cons_zero, List.set_cons_succ, i64_w, i32_w]
    rfl
  refine pure_ (i := 5) (N := some 59) (v := ?_) (a' := ?_) #[true, true, true, true, false, true, false, false, false, false, false, false, false, false, false, false, false, false, false, false, false, false, false] rfl rfl (by kernel_rfl) (fun _ _ _ h => h) (Or.inl ⟨by rfl, ?_⟩) ?_ ?_
  rotate_left
  · intro w'
    go_simp
    with_reducible rfl
  rotate_left
  · simp only [Act.put, List.setIfInBounds_toArray, List.set_cons_zero, List.set_cons_succ, i64_w, i32_w]
    rfl
  refine pure_ (i := 6) (N := some 60) (v := ?_) (a' := ?_) #[true, true, true, true, false, true, true, false, false, false, false, false, false, false, false, false, false, false, false, false, false, false, false] rfl rfl (by kernel_rfl) (fun _ _ _ h => h) (Or.inl ⟨by rfl, ?_⟩) ?_ ?_
  rotate_left
  · intro w'
    go_simp
    with_reducible rfl
  rotate_left
  · simp only [Act.put, List.setIfInBounds_toArray, List.set_cons_zero, List.set_cons_succ, i64_w, i32_w]
    rfl
  refine pure_ (i := 7) (N := some 61) (v := ?_) (a' := ?_) #[true, true, true, true, false, true, true, true, false, false, false, false, false, false, false, false, false, false, false, false, false, false, false] rfl rfl (by kernel_rfl) (fun _ _ _ h => h) (Or.inl ⟨by rfl, ?_⟩) ?_ ?_
  rotate_left
  · intro w'
    go_simp
    with_reducible rfl
  rotate_left
  · simp only [Act.put, List.setIfInBounds_toArray, List.set_cons_zero, List.set_cons_succ, i64_w, i32_w]
    rfl
  refine pure_ (i := 8) (N := some 62) (v := ?_) (a' := ?_) #[true, true, true, true, false, true, true, true, true, false, false, false, false, false, false, false, false, false, false, false, false, false, false] rfl rfl (by kernel_rfl) (fun _ _ _ h => h) (Or.inl ⟨by rfl, ?_⟩) ?_ ?_
  rotate_left
  · intro w'
    go_simp
    with_reducible rfl
  rotate_left
  · simp only [Act.put, List.setIfInBounds_toArray, List.set_cons_zero, List.set_cons_succ, i64_w, i32_w]
    rfl
  refine pure_ (i := 9) (N := some 63) (v := ?_) (a' := ?_) #[true, true, true, true, false, true, true, true, true, true, false, false, false, false, false, false, false, false, false, false, false, false, false] rfl rfl (by kernel_rfl) (fun _ _ _ h => h) (Or.inl ⟨by rfl, ?_⟩) ?_ ?_
  rotate_left
  · intro w'
    go_simp
    with_reducible rfl
  rotate_left
  · simp only [Act.put, List.setIfInBounds_toArray, List.set_cons_zero, List.set_cons_succ, i64_w, i32_w]
    rfl
  refine pure_ (i := 11) (N := some 65) (v := ?_) (a' := ?_) #[true, true, true, true, false, true, true, true, true, true, false, true, false, false, false, false, false, false, false, false, false, false, false] rfl rfl (by kernel_rfl) (fun _ _ _ h => h) (Or.inl ⟨by rfl, ?_⟩) ?_ ?_
  rotate_left
  · intro w'
    go_simp
    with_reducible rfl
  rotate_left
  · simp only [Act.put, List.setIfInBounds_toArray, List.set_cons_zero, List.set_cons_succ, i64_w, i32_w]
    rfl
  refine pure_ (i := 12) (N := some 66) (v := ?_) (a' := ?_) #[true, true, true, true, false, true, true, true, true, true, false, true, true, false, false, false, false, false, false, false, false, false, false] rfl rfl (by kernel_rfl) (fun _ _ _ h => h) (Or.inl ⟨by rfl, ?_⟩) ?_ ?_
  rotate_left
  · intro w'
    go_simp
    with_reducible rfl
  rotate_left
  · simp only [Act.put, List.setIfInBounds_toArray, List.set_cons_zero, List.set_cons_succ, i64_w, i32_w]
    rfl
  refine pure_ (i := 13) (N := some 67) (v := ?_) (a' := ?_) #[true, true, true, true, false, true, true, true, true, true, false, true, true, true, false, false, false, false, false, false, false, false, false] rfl rfl (by kernel_rfl) (fun _ _ _ h => h) (Or.inl ⟨by rfl, ?_⟩) ?_ ?_
  rotate_left
  · intro w'
    go_simp
    with_reducible rfl
  rotate_left
  · simp only [Act.put, List.setIfInBounds_toArray, List.set_cons_zero, List.set_cons_succ, i64_w, i32_w]
    rfl
  refine pure_ (i := 14) (N := some 68) (v := ?_) (a' := ?_) #[true, true, true, true, false, true, true, true, true, true, false, true, true, true, true, false, false, false, false, false, false, false, false] rfl rfl (by kernel_rfl) (fun _ _ _ h => h) (Or.inl ⟨by rfl, ?_⟩) ?_ ?_
  rotate_left
  · intro w'
    go_simp
    with_reducible rfl
  rotate_left
  · simp only [Act.put, List.setIfInBounds_toArray, List.set_cons_zero, List.set_cons_succ, i64_w, i32_w]
    rfl
  refine pure_ (i := 16) (N := some 70) (v := ?_) (a' := ?_) #[true, true, true, true, false, true, true, true, true, true, false, true, true, true, true, false, true, false, false, false, false, false, false] rfl rfl (by kernel_rfl) (fun _ _ _ h => h) (Or.inl ⟨by rfl, ?_⟩) ?_ ?_
  rotate_left
  · intro w'
    go_simp
    with_reducible rfl
  rotate_left
  · simp only [Act.put, List.setIfInBounds_toArray, List.set_cons_zero, List.set_cons_succ, i64_w, i32_w]
    rfl
  refine pure_ (i := 19) (N := some 73) (v := ?_) (a' := ?_) #[true, true, true, true, false, true, true, true, true, true, false, true, true, true, true, false, true, false, false, true, false, false, false] rfl rfl (by kernel_rfl) (fun _ _ _ h => h) (Or.inl ⟨by rfl, ?_⟩) ?_ ?_
  rotate_left
  · intro w'
    go_simp
    with_reducible rfl
  rotate_left
  · simp only [Act.put, List.setIfInBounds_toArray, List.set_cons_zero, List.set_cons_succ, i64_w, i32_w]
    rfl
  refine take_ (i := 4) (N := some 58) (v := ?_) (a' := ?_) #[true, true, true, true, true, true, true, true, true, true, false, true, true, true, true, false, true, false, false, true, false, false, false] rfl rfl (by kernel_rfl) (fun _ _ _ h => h) (Or.inl ⟨by rfl, ?_⟩) hHeld ?_ ?_
  rotate_left
  · rintro w' ⟨s0, s1, s2⟩
    go_simp
    with_reducible rfl
  rotate_left
  · simp only [Act.put, List.setIfInBounds_toArray, List.set_cons_zero, List.set_cons_succ, i64_w, i32_w]
    rfl
  refine take_ (i := 10) (N := some 64) (v := ?_) (a' := ?_) #[true, true, true, true, true, true, true, true, true, true, true, true, true, true, true, false, true, false, false, true, false, false, false] rfl rfl (by kernel_rfl) (fun _ _ _ h => h) (Or.inl ⟨by rfl, ?_⟩) hHeld ?_ ?_
  rotate_left
  · rintro w' ⟨s0, s1, s2⟩
    go_simp
    with_reducible rfl
  rotate_left
  · simp only [Act.put, List.setIfInBounds_toArray, List.set_cons_zero, List.set_cons_succ, i64_w, i32_w]
    rfl
  refine take_ (i := 15) (N := some 69) (v := ?_) (a' := ?_) #[true, true, true, true, true, true, true, true, true, true, true, true, true, true, true, true, true, false, false, true, false, false, false] rfl rfl (by kernel_rfl) (fun _ _ _ h => h) (Or.inl ⟨by rfl, ?_⟩) hHeld ?_ ?_
  rotate_left
  · rintro w' ⟨s0, s1, s2⟩
    go_simp
    with_reducible rfl
  rotate_left
  · simp only [Act.put, List.setIfInBounds_toArray, List.set_cons_zero, List.set_cons_succ, i64_w, i32_w]
    rfl
  refine pure_ (i := 17) (N := some 71) (v := ?_) (a' := ?_) #[true, true, true, true, true, true, true, true, true, true, true, true, true, true, true, true, true, true, false, true, false, false, false] rfl rfl (by kernel_rfl) (fun _ _ _ h => h) (Or.inl ⟨by rfl, ?_⟩) ?_ ?_
  rotate_left
  · intro w'
    go_simp
    with_reducible rfl
  rotate_left
  · simp only [Act.put, List.setIfInBounds_toArray, List.set_cons_zero, List.set_cons_succ, i64_w, i32_w]
    rfl
  refine take_ (i := 18) (N := some 72) (v := ?_) (a' := ?_) #[true, true, true, true, true, true, true, true, true, true, true, true, true, true, true, true, true, true, true, true, false, false, false] rfl rfl (by kernel_rfl) (fun _ _ _ h => h) (Or.inl ⟨by rfl, ?_⟩) hHeld ?_ ?_
  rotate_left
  · rintro w' ⟨s0, s1, s2⟩
    go_simp
    with_reducible rfl
  rotate_left
  · simp only [Act.put, List.setIfInBounds_toArray, List.set_cons_zero, List.set_cons_succ, i64_w, i32_w]
    rfl
  refine one_ (i := 20) (N := some 74) #[true, true, true, true, true, true, true, true, true, true, true, true, true, true, true, true, true, true, true, true, true, false, false] rfl rfl (by kernel_rfl) (by decide) (fun K hK => ?_)
  refine goes_ Try.func82 (by kernel_rfl) rfl #[.int .i64 kind, .int .i64 (rd st i), .int .i64 0] (by rfl) rfl rfl (by simp only [List.map_toArray, List.map_cons, List.map_nil]; rfl) ?_
  with_reducible refine (ref_after kind (rd st i) 0 _ hs (by decide)).mono ?_
  rintro e w6 ⟨rfl, hb6⟩
  refine ⟨_, rfl, ?_⟩
  have hb6' := below_undrew1 hb6
  have HE6 := Aside0.mk (HE5.out.below hb6')
  have HM6 := Aside0.mk (HM5.out.below hb6')
  have c6 : w6.cell? ⟨b, i, none⟩ = some (.int .i64 (rd st i)) := by obtain ⟨b', hA, hc, _⟩ := HE6.out.cell hi; cases hA; exact hc
  have f6 : w6.frozen? ⟨b, i, none⟩ = false := by obtain ⟨b', hA, _, hf, _⟩ := HE6.out.cell hi; cases hA; exact hf
  clear hb6 hb6'
  refine hK.out _ _ ⟨HE6.out.c0, HE6.out.c1, c6⟩ (fun hHeld => ?_)
  clear hK K
  refine norm_ (a' := ?_) ?_ ?_
  rotate_left
  · show Act.put _ (some 74) _ = _
    simp only [Act.put, List.setIfInBounds_toArray, List.set_cons_zero, List.set_cons_succ, i64_w, i32_w]
    rfl
  refine pure_ (i := 21) (N := some 75) (v := ?_) (a' := ?_) #[true, true, true, true, true, true, true, true, true, true, true, true, true, true, true, true, true, true, true, true, true, true, false] rfl rfl (by kernel_rfl) (fun _ _ _ h => h) (Or.inl ⟨by rfl, ?_⟩) ?_ ?_
  rotate_left
  · intro w'
    go_simp
    with_reducible rfl
  rotate_left
  · simp only [Act.put, List.setIfInBounds_toArray, List.set_cons_zero, List.set_cons_succ, i64_w, i32_w]
    rfl
  refine last_ (i := 22) (N := none) #[true, true, true, true, true, true, true, true, true, true, true, true, true, true, true, true, true, true, true, true, true, true, true] rfl rfl (by kernel_rfl) (by decide) (fun K hK => ?_)
  refine skip_ (w1 := ?_) (by rfl) rfl ?_ ?_
  rotate_left
  · go_simp
    rfl
  refine hK.out _ _ ?_
  clear hK K
  refine done_ (by kernel_rfl) ?_
  go_wp2
  obtain ⟨w0, hw0⟩ : ∃ w0, w0 = w6.setCell ⟨b, i, none⟩ (.int .i64 (after kind (rd st i) 0)) := ⟨_, rfl⟩
  rw [← hw0]
  obtain ⟨S', hS'⟩ : ∃ S' : Nat → Prop, S' = fun k => S k ∨ w.heap.size ≤ k := ⟨_, rfl⟩
  have HS2 := Aside0.mk (show ∀ k, S' k → S k ∨ w.heap.size ≤ k from fun k hk => by rw [hS'] at hk; exact hk)
  have HS3 := Aside0.mk (show ∀ k, S k ∨ w.heap.size ≤ k → S' k from fun k hk => by rw [hS']; exact hk)
  have HSS := Aside0.mk hS'
  obtain ⟨st', hst'⟩ : ∃ st' : List Int, st' = st.set i (after kind (rd st i) 0) := ⟨_, rfl⟩
  have HST := Aside0.mk hst'
  have HE4 := Aside0.mk (show RefRow w0 S' g kind (some ⟨b, 0, none⟩) c st' (cutL low mid 0) (cutH high mid 0) vo out from hst' ▸ hw0 ▸ ((HE6.out.setst hi _).mono (fun k hk => HS3.out k (.inl hk))))
  have HM4 := Aside0.mk (show Mods w w0 S from hw0 ▸ (HM6.out.setCell (.inl hSb) _))
  clear hw0 hS' hst' k0 k1 ks HE5 HE6 HM5 HM6 c6 f6
  go_loopg [] 4 (fun d wr => ∃ (l h : Int) (out1 : List Int), Aside0 (∃ A c vo, RefRow wr S' g kind A c st' l h vo out1) ∧ Aside0 (Mods w wr S) ∧ Aside0 (PutInv out (cutL low mid 0) (cutH high mid 0) d l h out1))
  case atStart => exact ⟨_, _, out, ⟨_, _, _, HE4.out⟩, HM4, HI⟩
  clear HE4 HM4 HI
  case round =>
    obtain ⟨l, h, out1, ⟨A1, c1, vo1, hE5⟩, HM5, HPI⟩ := hrel
    have HE5 := Aside0.mk hE5
    clear hE5
    have hp0 := HPI.out.l0
    have hp1 := HPI.out.lh
    have hp2 := HPI.out.h0
    have hs := fixed_calls l h
    have k2 := HE5.out.c2
    have k3 := HE5.out.c3
    by_cases cc : l / 16777216 = h / 16777216
    · rw [decide_eq_true cc] at hs
      have HSA := Aside0.mk hs
      clear hs
      obtain ⟨d', hd', hP'⟩ := HPI.out.step cc
      rw [cc] at hP'
      have HP' := Aside0.mk hP'
      have hlen1 : out1.length ≤ 1099511627780 := by have := HPI.out.len; omega
      have HD := Aside0.mk hd'
      clear hd' hP' cc
      have hb1 : 0 ≤ h / 16777216 ∧ h / 16777216 ≤ 255 := by omega
      go_wp2_with (go_at_call 80; refine (HSA.out _).mono ?_; rintro e w7 ⟨rfl, hb7⟩; have HE7 := Aside0.mk (HE5.out.below hb7); have HM7 := Aside0.mk (HM5.out.below hb7); clear hb7)
      have HE7 := Aside0.mk HE7.out.drew
      have HM7 := Aside0.mk HM7.out.drew
      have p4 := HE7.out.c4
      have p3 := HE7.out.c3
      clear HE5 HM5 k2 k3 HSA
      refine start_ (n := 17) (S := fun w' => w'.cell? ⟨g, 4, none⟩ = some vo1 ∧ w'.cell? ⟨g, 3, none⟩ = some (.int .u64 h)) (ds := [16]) #[false, false, false, false, false, false, false, false, false, false, false, false, false, false, false, false, false] (by kernel_rfl) rfl rfl ⟨p4, p3⟩ (fun hHeld => ?_)
      generalize w7.drew = w11 at p4 p3 HE7 HM7 hHeld ⊢
      refine pure_ (i := 0) (N := some 81) (v := ?_) (a' := ?_) #[true, false, false, false, false, false, false, false, false, false, false, false, false, false, false, false, false] rfl rfl (by kernel_rfl) (fun _ _ _ h => h) (Or.inl ⟨by rfl, ?_⟩) ?_ ?_
      rotate_left
      · intro w'
        go_simp
        with_reducible rfl
      rotate_left
      · simp only [Act.put, List.setIfInBounds_toArray, List.set_cons_zero, List.set_cons_succ, i64_w, i32_w]
        rfl
      refine pure_ (i := 1) (N := some 82) (v := ?_) (a' := ?_) #[true, true, false, false, false, false, false, false, false, false, false, false, false, false, false, false, false] rfl rfl (by kernel_rfl) (fun _ _ _ h => h) (Or.inl ⟨by rfl, ?_⟩) ?_ ?_
      rotate_left
      · intro w'
        go_simp
        with_reducible rfl
      rotate_left
      · simp only [Act.put, List.setIfInBounds_toArray, List.set_cons_zero, List.set_cons_succ, i64_w, i32_w]
        rfl
      refine pure_ (i := 2) (N := some 83) (v := ?_) (a' := ?_) #[true, true, true, false, false, false, false, false, false, false, false, false, false, false, false, false, false] rfl rfl (by kernel_rfl) (fun _ _ _ h => h) (Or.inl ⟨by rfl, ?_⟩) ?_ ?_
      rotate_left
      · intro w'
        go_simp
        with_reducible rfl
      rotate_left
      · simp only [Act.put, List.setIfInBounds_toArray, List.set_cons_zero, List.set_cons_succ, i64_w, i32_w]
        rfl
      refine pure_ (i := 3) (N := some 84) (v := ?_) (a' := ?_) #[true, true, true, true, false, false, false, false, false, false, false, false, false, false, false, false, false] rfl rfl (by kernel_rfl) (fun _ _ _ h => h) (Or.inl ⟨by rfl, ?_⟩) ?_ ?_
      rotate_left
      · intro w'
        go_simp
        with_reducible rfl
      rotate_left
      · simp only [Act.put, List.setIfInBounds_toArray, List.set_cons_zero, List.set_cons_succ, i64_w, i32_w]
        rfl
      refine pure_ (i := 5) (N := some 86) (v := ?_) (a' := ?_) #[true, true, true, true, false, true, false, false, false, false, false, false, false, false, false, false, false] rfl rfl (by kernel_rfl) (fun _ _ _ h => h) (Or.inl ⟨by rfl, ?_⟩) ?_ ?_
      rotate_left
      · intro w'
        go_simp
        with_reducible rfl
      rotate_left
      · simp only [Act.put, List.setIfInBounds_toArray, List.set_cons_zero, List.set_cons_succ, i64_w, i32_w]
        rfl
      refine pure_ (i := 6) (N := some 87) (v := ?_) (a' := ?_) #[true, true, true, true, false, true, true, false, false, false, false, false, false, false, false, false, false] rfl rfl (by kernel_rfl) (fun _ _ _ h => h) (Or.inl ⟨by rfl, ?_⟩) ?_ ?_
      rotate_left
      · intro w'
        go_simp
        with_reducible rfl
      rotate_left
      · simp only [Act.put, List.setIfInBounds_toArray, List.set_cons_zero, List.set_cons_succ, i64_w, i32_w]
        rfl
      refine pure_ (i := 7) (N := some 88) (v := ?_) (a' := ?_) #[true, true, true, true, false, true, true, true, false, false, false, false, false, false, false, false, false] rfl rfl (by kernel_rfl) (fun _ _ _ h => h) (Or.inl ⟨by rfl, ?_⟩) ?_ ?_
      rotate_left
      · intro w'
        go_simp
        with_reducible rfl
      rotate_left
      · simp only [Act.put, List.setIfInBounds_toArray, List.set_cons_zero, List.set_cons_succ, i64_w, i32_w]
        rfl
      refine pure_ (i := 8) (N := some 89) (v := ?_) (a' := ?_) #[true, true, true, true, false, true, true, true, true, false, false, false, false, false, false, false, false] rfl rfl (by kernel_rfl) (fun _ _ _ h => h) (Or.inl ⟨by rfl, ?_⟩) ?_ ?_
      rotate_left
      · intro w'
        go_simp
        with_reducible rfl
      rotate_left
      · simp only [Act.put, List.setIfInBounds_toArray, List.set_cons_zero, List.set_cons_succ, i64_w, i32_w]
        rfl
      refine take_ (i := 4) (N := some 85) (v := ?_) (a' := ?_) #[true, true, true, true, true, true, true, true, true, false, false, false, false, false, false, false, false] rfl rfl (by kernel_rfl) (fun _ _ _ h => h) (Or.inl ⟨by rfl, ?_⟩) hHeld ?_ ?_
      rotate_left
      · rintro w' ⟨s0, s1⟩
        go_simp
        with_reducible rfl
      rotate_left
      · simp only [Act.put, List.setIfInBounds_toArray, List.set_cons_zero, List.set_cons_succ, i64_w, i32_w]
        rfl
      refine take_ (i := 9) (N := some 90) (v := ?_) (a' := ?_) #[true, true, true, true, true, true, true, true, true, true, false, false, false, false, false, false, false] rfl rfl (by kernel_rfl) (fun _ _ _ h => h) (Or.inl ⟨by rfl, ?_⟩) hHeld ?_ ?_
      rotate_left
      · rintro w' ⟨s0, s1⟩
        go_simp
        with_reducible rfl
      rotate_left
      · simp only [Act.put, List.setIfInBounds_toArray, List.set_cons_zero, List.set_cons_succ, i64_w, i32_w]
        rfl
      refine pure_ (i := 10) (N := some 91) (v := ?_) (a' := ?_) #[true, true, true, true, true, true, true, true, true, true, true, false, false, false, false, false, false] rfl rfl (by kernel_rfl) (fun _ _ _ h => h) (Or.inl ⟨by rfl, ?_⟩) ?_ ?_
      rotate_left
      · intro w'
        go_simp
        with_reducible rfl
      rotate_left
      · simp only [Act.put, List.setIfInBounds_toArray, List.set_cons_zero, List.set_cons_succ, i64_w, i32_w]
        rfl
      refine pure_ (i := 11) (N := some 92) (v := ?_) (a' := ?_) #[true, true, true, true, true, true, true, true, true, true, true, true, false, false, false, false, false] rfl rfl (by kernel_rfl) (fun _ _ _ h => h) (Or.inl ⟨by rfl, ?_⟩) ?_ ?_
      rotate_left
      · intro w'
        go_simp
        with_reducible rfl
      rotate_left
      · simp only [Act.put, List.setIfInBounds_toArray, List.set_cons_zero, List.set_cons_succ, i64_w, i32_w]
        rfl
      refine one_ (i := 12) (N := some 93) #[true, true, true, true, true, true, true, true, true, true, true, true, true, false, false, false, false] rfl rfl (by kernel_rfl) (by decide) (fun K hK => ?_)
      refine value_ (w1 := ?_) (v := ?_) (by rfl) rfl ?_ ?_
      rotate_left 2
      · go_simp
        constructor
        · rfl
        · rfl
      refine hK.out _ _ ⟨pw_cell_below (below_alloc (Below.refl _ _) _) p4, pw_cell_below (below_alloc (Below.refl _ _) _) p3⟩ (fun hHeld => ?_)
      clear hK K
      refine norm_ (a' := ?_) ?_ ?_
      rotate_left
      · show Act.put _ (some 93) _ = _
        simp only [Act.put, List.setIfInBounds_toArray, List.set_cons_zero, List.set_cons_succ, i64_w, i32_w]
        rfl
      refine one_ (i := 13) (N := some 94) #[true, true, true, true, true, true, true, true, true, true, true, true, true, true, false, false, false] rfl rfl (by kernel_rfl) (by decide) (fun K hK => ?_)
      refine Kd.R_append_step (Kd.int .u8) 0 (by rfl) (.tmp 85) (.tmp 93) 34 5 (.int .u8 0) 1 rfl Try.underlying34 infoU8 rfl (by decide) (by decide) vo1 out1 (IntKind.u8.wrap (h / 16777216)) [.int .u8 (IntKind.u8.wrap (h / 16777216))] S' (fun _ => False) rfl rfl rfl (fun _ h => h.elim) (fun k hk => HS3.out k (.inr (Nat.le_trans HM7.out.size hk))) HE7.out.o (Below.refl 0 _) (Nat.zero_le _) (by omega) ?_
      intro v8 w8 hR8 _ hg8 hat8
      obtain ⟨A8, c8, rfl⟩ := Kd.R_slice hR8
      rw [List.length_append, List.length_cons, List.length_nil, Nat.zero_add, wraps_u8 (h / 16777216) (by omega) (by omega)] at hR8
      have hne8 := Kd.R_ne HE7.out.o HE7.out.b (by decide)
      have t4 : w8.cell? ⟨g, 4, none⟩ = some vo1 := hg8.cell p4 hne8
      have t3 : w8.cell? ⟨g, 3, none⟩ = some (.int .u64 h) := hg8.cell p3 hne8
      have z8 : w8.frozen? ⟨g, 4, none⟩ = false := blk_frozen (blk_grown HE7.out.b hg8 hne8) 4
      have HE8 := Aside0.mk (HE7.out.grew hg8 hR8)
      have HM8 := Aside0.mk ((HM7.out.of_grown hg8 (fun k hk => HS2.out k (HE7.out.o.1 k hk))).setCell (p := ⟨g, 4, none⟩) (.inl hSg) (.slice A8 (out1.length + 1) c8))
      clear hR8 hg8 hat8 hne8 HM7
      refine hK.out _ _ ⟨t4, t3⟩ (fun hHeld => ?_)
      clear hK K
      refine norm_ (a' := ?_) ?_ ?_
      rotate_left
      · show Act.put _ (some 94) _ = _
        simp only [Act.put, List.setIfInBounds_toArray, List.set_cons_zero, List.set_cons_succ, i64_w, i32_w]
        rfl
      refine pure_ (i := 14) (N := some 95) (v := ?_) (a' := ?_) #[true, true, true, true, true, true, true, true, true, true, true, true, true, true, true, false, false] rfl rfl (by kernel_rfl) (fun _ _ _ h => h) (Or.inl ⟨by rfl, ?_⟩) ?_ ?_
      rotate_left
      · intro w'
        go_simp
        with_reducible rfl
      rotate_left
      · simp only [Act.put, List.setIfInBounds_toArray, List.set_cons_zero, List.set_cons_succ, i64_w, i32_w]
        rfl
      refine pure_ (i := 15) (N := some 96) (v := ?_) (a' := ?_) #[true, true, true, true, true, true, true, true, true, true, true, true, true, true, true, true, false] rfl rfl (by kernel_rfl) (fun _ _ _ h => h) (Or.inl ⟨by rfl, ?_⟩) ?_ ?_
      rotate_left
      · intro w'
        go_simp
        with_reducible rfl
      rotate_left
      · simp only [Act.put, List.setIfInBounds_toArray, List.set_cons_zero, List.set_cons_succ, i64_w, i32_w]
        rfl
      refine last_ (i := 16) (N := none) #[true, true, true, true, true, true, true, true, true, true, true, true, true, true, true, true, true] rfl rfl (by kernel_rfl) (by decide) (fun K hK => ?_)
      refine skip_ (w1 := ?_) (by rfl) rfl ?_ ?_
      rotate_left
      · go_simp
        rfl
      refine hK.out _ _ ?_
      clear hK K
      refine done_ (by kernel_rfl) ?_
      have k2 := HE8.out.c2
      have k3 := HE8.out.c3
      obtain ⟨w9, hw9⟩ : ∃ w9, w9 = w8.setCell ⟨g, 4, none⟩ (.slice A8 (out1.length + 1) c8) := ⟨_, rfl⟩
      rw [← hw9] at HE8 HM8 k2 k3 ⊢
      clear hw9 p4 p3 t4 t3 z8
      go_wp2_with (fail)
      refine (shift_calls l h _ hp0 (by omega) (by omega) hp2).mono ?_
      rintro e w10 ⟨rfl, hb10⟩
      have HE10 := Aside0.mk (HE8.out.below hb10)
      have HM10 := Aside0.mk (HM8.out.below hb10)
      have k2 := HE10.out.c2
      have k3 := HE10.out.c3
      have f2 := HE10.out.fz 2
      have f3 := HE10.out.fz 3
      clear hb10 HE8 HM8
      go_wp2
      go_roundg d'
      case measure => have := HD.out; omega
      case rel => exact ⟨_, _, _, ⟨_, _, _, HE10.out.cut _ _⟩, ⟨(HM10.out.setCell (.inl hSg) _).setCell (.inl hSg) _⟩, HP'⟩
    · rw [decide_eq_false cc] at hs
      have HSA := Aside0.mk hs
      clear hs
      have HCC := Aside0.mk cc
      clear cc
      go_wp2_with (go_at_call 80; refine (HSA.out _).mono ?_; rintro e w7 ⟨rfl, hb7⟩; have HE7 := Aside0.mk (HE5.out.below hb7); have HM7 := Aside0.mk (HM5.out.below hb7); clear hb7)
      go_ret
      have hd := HPI.out.done HCC.out
      have hE7 := HE7.out
      rw [HSS.out, HST.out] at hE7
      exact ⟨rfl, ⟨l, h, out1, ⟨_, _, _, hE7⟩, hd.1, hd.2⟩, HM7.out⟩
set_option maxHeartbeats 4000000 in
set_option maxRecDepth 100000 in
theorem ref_row1 (w : World) (S : Nat → Prop) (g : Nat) (kind : Int) (b c : Nat) (st : List Int) (low high mid : Int) (vo : Value) (out : List Int) (i : Nat) (hE : RefRow w S g kind (some ⟨b, 0, none⟩) c st low high vo out) (hi : i < st.length) (hn : st.length ≤ 8192) (hs : okState kind (rd st i)) (hl0 : 0 ≤ low) (hlh : low ≤ high) (hh : high ≤ 4294967295) (hmid : midOf low high (likely kind (rd st i)) = mid) (hI0 : PutInv out (cutL low mid 1) (cutH high mid 1) 4 (cutL low mid 1) (cutH high mid 1) out) (hlen : out.length ≤ 1099511627776) :
    Calls Try.prog 65 #[.pointer (some ⟨g, 0, none⟩), .int .i64 i, .int .i64 1] w (RefPost w S g kind st low high mid out i 1) := by
  have HE := Aside0.mk hE
  have hSg : S g := hE.g
  have hSb : S b := hE.s.1 b (by simp [Value.ownBlock])
  have k0 := hE.c0
  have k1 := hE.c1
  have ks : w.cell? ⟨b, i, none⟩ = some (.int .i64 (rd st i)) := by obtain ⟨b', hA, hc, _⟩ := hE.cell hi; cases hA; exact hc
  have hlk := likely_range kind (rd st i) hs
  have HP := fun W => Aside0.mk (hmid ▸ part_calls low high (likely kind (rd st i)) 1 W hl0 hlh hh hlk.1 hlk.2)
  have HI := Aside0.mk hI0
  have hu := Try.underlying101
  clear hE hmid hI0
  have hi1 : (0 : Int) ≤ (i : Int) := by omega
  have hi2 : (i : Int) < (st.length : Int) := by omega
  go_enter Try.func65, Try.ntmps65
  go_wp2
  refine start_ (n := 15) (S := fun w' => w'.cell? ⟨g, 0, none⟩ = some (.int .i64 kind) ∧ w'.cell? ⟨g, 1, none⟩ = some (.slice (some ⟨b, 0, none⟩) st.length c) ∧ w'.cell? ⟨b, i, none⟩ = some (.int .i64 (rd st i))) (ds := []) #[false, false, false, false, false, false, false, false, false, false, false, false, false, false, false] (by kernel_rfl) rfl rfl ⟨k0, k1, ks⟩ (fun hHeld => ?_)
  refine pure_ (i := 0) (N := some 30) (v := ?_) (a' := ?_) #[true, false, false, false, false, false, false, false, false, false, false, false, false, false, false] rfl rfl (by kernel_rfl) (fun _ _ _ h => h) (Or.inl ⟨by rfl, ?_⟩) ?_ ?_
  rotate_left
  · intro w'
    go_simp
    with_reducible rfl
  rotate_left
  · simp only [Act.put, List.setIfInBounds_toArray, List.set_cons_zero, List.set_cons_succ, i64_w, i32_w]
    rfl
  refine pure_ (i := 1) (N := some 31) (v := ?_) (a' := ?_) #[true, true, false, false, false, false, false, false, false, false, false, false, false, false, false] rfl rfl (by kernel_rfl) (fun _ _ _ h => h) (Or.inl ⟨by rfl, ?_⟩) ?_ ?_
  rotate_left
  · intro w'
    go_simp
    with_reducible rfl
  rotate_left
  · simp only [Act.put, List.setIfInBounds_toArray, List.set_cons_zero, List.set_cons_succ, i64_w, i32_w]
    rfl
  refine pure_ (i := 2) (N := some 32) (v := ?_) (a' := ?_) #[true, true, true, false, false, false, false, false, false, false, false, false, false, false, false] rfl rfl (by kernel_rfl) (fun _ _ _ h => h) (Or.inl ⟨by rfl, ?_⟩) ?_ ?_
  rotate_left
  · intro w'
    go_simp
    with_reducible rfl
  rotate_left
  · simp only [Act.put, List.setIfInBounds_toArray, List.set_cons_zero, List.set_cons_succ, i64_w, i32_w]
    rfl
  refine pure_ (i := 3) (N := some 33) (v := ?_) (a' := ?_) #[true, true, true, true, false, false, false, false, false, false, false, false, false, false, false] rfl rfl (by kernel_rfl) (fun _ _ _ h => h) (Or.inl ⟨by rfl, ?_⟩) ?_ ?_
  rotate_left
  · intro w'
    go_simp
    with_reducible rfl
  rotate_left
  · simp only [Act.put, List.setIfInBounds_toArray, List.set_cons_zero, List.set_cons_succ, i64_w, i32_w]
    rfl
  refine pure_ (i := 5) (N := some 35) (v := ?_) (a' := ?_) #[true, true, true, true, false, true, false, false, false, false, false, false, false, false, false] rfl rfl (by kernel_rfl) (fun _ _ _ h => h) (Or.inl ⟨by rfl, ?_⟩) ?_ ?_
  rotate_left
  · intro w'
    go_simp
    with_reducible rfl
  rotate_left
  · simp only [Act.put, List.setIfInBounds_toArray, List.set_cons_zero, List.set_cons_succ, i64_w, i32_w]
    rfl
  refine pure_ (i := 6) (N := some 36) (v := ?_) (a' := ?_) #[true, true, true, true, false, true, true, false, false, false, false, false, false, false, false] rfl rfl (by kernel_rfl) (fun _ _ _ h => h) (Or.inl ⟨by rfl, ?_⟩) ?_ ?_
  rotate_left
  · intro w'
    go_simp
    with_reducible rfl
  rotate_left
  · simp only [Act.put, List.setIfInBounds_toArray, List.set_cons_zero, List.set_cons_succ, i64_w, i32_w]
    rfl
  refine pure_ (i := 7) (N := some 37) (v := ?_) (a' := ?_) #[true, true, true, true, false, true, true, true, false, false, false, false, false, false, false] rfl rfl (by kernel_rfl) (fun _ _ _ h => h) (Or.inl ⟨by rfl, ?_⟩) ?_ ?_
  rotate_left
  · intro w'
    go_simp
    with_reducible rfl
  rotate_left
  · simp only [Act.put, List.setIfInBounds_toArray, List.set_cons_zero, List.set_cons_succ, i64_w, i32_w]
    rfl
  refine pure_ (i := 8) (N := some 38) (v := ?_) (a' := ?_) #[true, true, true, true, false, true, true, true, true, false, false, false, false, false, false] rfl rfl (by kernel_rfl) (fun _ _ _ h => h) (Or.inl ⟨by rfl, ?_⟩) ?_ ?_
  rotate_left
  · intro w'
    go_simp
    with_reducible rfl
  rotate_left
  · simp only [Act.put, List.setIfInBounds_toArray, List.set_cons_zero, List.set_cons_succ, i64_w, i32_w]
    rfl
  refine pure_ (i := 10) (N := some 40) (v := ?_) (a' := ?_) #[true, true, true, true, false, true, true, true, true, false, true, false, false, false, false] rfl rfl (by kernel_rfl) (fun _ _ _ h => h) (Or.inl ⟨by rfl, ?_⟩) ?_ ?_
  rotate_left
  · intro w'
    go_simp
    with_reducible rfl
  rotate_left
  · simp only [Act.put, List.setIfInBounds_toArray, List.set_cons_zero, List.set_cons_succ, i64_w, i32_w]
    rfl
  refine take_ (i := 4) (N := some 34) (v := ?_) (a' := ?_) #[true, true, true, true, true, true, true, true, true, false, true, false, false, false, false] rfl rfl (by kernel_rfl) (fun _ _ _ h => h) (Or.inl ⟨by rfl, ?_⟩) hHeld ?_ ?_
  rotate_left
  · rintro w' ⟨s0, s1, s2⟩
    go_simp
    with_reducible rfl
  rotate_left
  · simp only [Act.put, List.setIfInBounds_toArray, List.set_cons_zero, List.set_cons_succ, i64_w, i32_w]
    rfl
  refine take_ (i := 9) (N := some 39) (v := ?_) (a' := ?_) #[true, true, true, true, true, true, true, true, true, true, true, false, false, false, false] rfl rfl (by kernel_rfl) (fun _ _ _ h => h) (Or.inl ⟨by rfl, ?_⟩) hHeld ?_ ?_
  rotate_left
  · rintro w' ⟨s0, s1, s2⟩
    go_simp
    with_reducible rfl
  rotate_left
  · simp only [Act.put, List.setIfInBounds_toArray, List.set_cons_zero, List.set_cons_succ, i64_w, i32_w]
    rfl
  refine pure_ (i := 11) (N := some 41) (v := ?_) (a' := ?_) #[true, true, true, true, true, true, true, true, true, true, true, true, false, false, false] rfl rfl (by kernel_rfl) (fun _ _ _ h => h) (Or.inl ⟨by rfl, ?_⟩) ?_ ?_
  rotate_left
  · intro w'
    go_simp
    with_reducible rfl
  rotate_left
  · simp only [Act.put, List.setIfInBounds_toArray, List.set_cons_zero, List.set_cons_succ, i64_w, i32_w]
    rfl
  refine take_ (i := 12) (N := some 42) (v := ?_) (a' := ?_) #[true, true, true, true, true, true, true, true, true, true, true, true, true, false, false] rfl rfl (by kernel_rfl) (fun _ _ _ h => h) (Or.inl ⟨by rfl, ?_⟩) hHeld ?_ ?_
  rotate_left
  · rintro w' ⟨s0, s1, s2⟩
    go_simp
    with_reducible rfl
  rotate_left
  · simp only [Act.put, List.setIfInBounds_toArray, List.set_cons_zero, List.set_cons_succ, i64_w, i32_w]
    rfl
  refine one_ (i := 13) (N := some 43) #[true, true, true, true, true, true, true, true, true, true, true, true, true, true, false] rfl rfl (by kernel_rfl) (by decide) (fun K hK => ?_)
  refine goes_ Try.func77 (by kernel_rfl) rfl #[.int .i64 kind, .int .i64 (rd st i)] (by rfl) rfl rfl (by simp only [List.map_toArray, List.map_cons, List.map_nil]; rfl) ?_
  with_reducible refine (likelyB kind (rd st i) _ hs).mono ?_
  rintro e w3 ⟨rfl, hb3⟩
  refine ⟨_, rfl, ?_⟩
  have hb3' := below_undrew1 hb3
  have HE3 := Aside0.mk (HE.out.below hb3')
  have HM3 := Aside0.mk ((Mods.refl w S).below hb3')
  clear hb3 hb3'
  refine hK.out _ _ ⟨HE3.out.c0, HE3.out.c1, by obtain ⟨b', hA, hc, _⟩ := HE3.out.cell hi; cases hA; exact hc⟩ (fun hHeld => ?_)
  clear hK K
  refine norm_ (a' := ?_) ?_ ?_
  rotate_left
  · show Act.put _ (some 43) _ = _
    simp only [Act.put, List.setIfInBounds_toArray, List.set_cons_zero, List.set_cons_succ, i64_w, i32_w]
    rfl
  refine pure_ (i := 14) (N := some 7) (v := ?_) (a' := ?_) #[true, true, true, true, true, true, true, true, true, true, true, true, true, true, true] rfl rfl (by kernel_rfl) (fun _ _ _ h => h) (Or.inl ⟨by rfl, ?_⟩) ?_ ?_
  rotate_left
  · intro w'
    go_simp
    with_reducible rfl
  rotate_left
  · simp only [Act.put, List.setIfInBounds_toArray, List.set_cons_zero, List.set_cons_succ, i64_w, i32_w]
    rfl
  refine done_ (by kernel_rfl) ?_
  clear k0 k1 ks HE
  have k2 := HE3.out.c2
  have k3 := HE3.out.c3
  have f2 := HE3.out.fz 2
  have f3 := HE3.out.fz 3
  go_wp2_with (go_at_call 79; refine (HP _).out.mono ?_; rintro e w4 ⟨rfl, hb4⟩; have HE4 := Aside0.mk (HE3.out.below hb4); have HM4 := Aside0.mk (HM3.out.below hb4); have k2 := HE4.out.c2; have k3 := HE4.out.c3; have f2 := HE4.out.fz 2; have f3 := HE4.out.fz 3; clear hb4)
  clear k2 k3 f2 f3
  obtain ⟨w5, hw5⟩ : ∃ w5, w5 = (w4.setCell ⟨g, 2, none⟩ (.int .u64 (cutL low mid 1))).setCell ⟨g, 3, none⟩ (.int .u64 (cutH high mid 1)) := ⟨_, rfl⟩
  rw [← hw5]
  have HE5 := Aside0.mk (show RefRow w5 S g kind (some ⟨b, 0, none⟩) c st (cutL low mid 1) (cutH high mid 1) vo out from hw5 ▸ HE4.out.cut _ _)
  have HM5 := Aside0.mk (show Mods w w5 S from hw5 ▸ ((HM4.out.setCell (.inl hSg) _).setCell (.inl hSg) _))
  have k0 := HE5.out.c0
  have k1 := HE5.out.c1
  have ks : w5.cell? ⟨b, i, none⟩ = some (.int .i64 (rd st i)) := by obtain ⟨b', hA, hc, _⟩ := HE5.out.cell hi; cases hA; exact hc
  clear hw5 HE3 HE4 HM3 HM4
  refine start_ (n := 23) (S := fun w' => w'.cell? ⟨g, 0, none⟩ = some (.int .i64 kind) ∧ w'.cell? ⟨g, 1, none⟩ = some (.slice (some ⟨b, 0, none⟩) st.length c) ∧ w'.cell? ⟨b, i, none⟩ = some (.int .i64 (rd st i))) (ds := [22]) #[false, false, false, false, false, false, false, false, false, false, false, false, false, false, false, false, false, false, false, false, false, false, false] (by kernel_rfl) rfl rfl ⟨k0, k1, ks⟩ (fun hHeld => ?_)
  refine pure_ (i := 0) (N := some 54) (v := ?_) (a' := ?_) #[true, false, false, false, false, false, false, false, false, false, false, false, false, false, false, false, false, false, false, false, false, false, false] rfl rfl (by kernel_rfl) (fun _ _ _ h => h) (Or.inl ⟨by rfl, ?_⟩) ?_ ?_
  rotate_left
  · intro w'
    go_simp
    with_reducible rfl
  rotate_left
  · simp only [Act.put, List.setIfInBounds_toArray, List.set_cons_zero, List.set_cons_succ, i64_w, i32_w]
    rfl
  refine pure_ (i := 1) (N := some 55) (v := ?_) (a' := ?_) #[true, true, false, false, false, false, false, false, false, false, false, false, false, false, false, false, false, false, false, false, false, false, false] rfl rfl (by kernel_rfl) (fun _ _ _ h => h) (Or.inl ⟨by rfl, ?_⟩) ?_ ?_
  rotate_left
  · intro w'
    go_simp
    with_reducible rfl
  rotate_left
  · simp only [Act.put, List.setIfInBounds_toArray, List.set_cons_zero, List.set_cons_succ, i64_w, i32_w]
    rfl
  refine pure_ (i := 2) (N := some 56) (v := ?_) (a' := ?_) #[true, true, true, false, false, false, false, false, false, false, false, false, false, false, false, false, false, false, false, false, false, false, false] rfl rfl (by kernel_rfl) (fun _ _ _ h => h) (Or.inl ⟨by rfl, ?_⟩) ?_ ?_
  rotate_left
  · intro w'
    go_simp
    with_reducible rfl
  rotate_left
  · simp only [Act.put, List.setIfInBounds_toArray, List.set_cons_zero, List.set_cons_succ, i64_w, i32_w]
    rfl
  refine pure_ (i := 3) (N := some 57) (v := ?_) (a' := ?_) #[true, true, true, true, false, false, false, false, false, false, false, false, false, false, false, false, false, false, false, false, false, false, false] rfl rfl (by kernel_rfl) (fun _ _ _ h => h) (Or.inl ⟨by rfl, ?_⟩) ?_ ?_
  rotate_left
  · intro w'
    go_simp
    with_reducible rfl
  rotate_left
  · simp only [Act.put, List.setIfInBounds_toArray, List.set_cons_zero, List.set_cons_succ, i64_w, i32_w]
    rfl
  refine pure_ (i := 5) (N := some 59) (v := ?_) (a' := ?_) #[true, true, true, true, false, true, false, false, false, false, false, false, false, false, false, false, false, false, false, false, false, false, false] rfl rfl (by kernel_rfl) (fun _ _ _ h => h) (Or.inl ⟨by rfl, ?_⟩) ?_ ?_
  rotate_left
  · intro w'
    go_simp
    with_reducible rfl
  rotate_left
  · simp only [Act.put, List.setIfInBounds_toArray, List.set_cons_zero, List.set_cons_succ, i64_w, i32_w]
    rfl
  refine pure_ (i := 6) (N := some 60) (v := ?_) (a' := ?_) #[true, true, true, true, false, true, true, false, false, false, false, false, false, false, false, false, false, false, false, false, false, false, false] rfl rfl (by kernel_rfl) (fun _ _ _ h => h) (Or.inl ⟨by rfl, ?_⟩) ?_ ?_
  rotate_left
  · intro w'
    go_simp
    with_reducible rfl
  rotate_left
  · simp only [Act.put, List.setIfInBounds_toArray, List.set_cons_zero, List.set_cons_succ, i64_w, i32_w]
    rfl
  refine pure_ (i := 7) (N := some 61) (v := ?_) (a' := ?_) #[true, true, true, true, false, true, true, true, false, false, false, false, false, false, false, false, false, false, false, false, false, false, false] rfl rfl (by kernel_rfl) (fun _ _ _ h => h) (Or.inl ⟨by rfl, ?_⟩) ?_ ?_
  rotate_left
  · intro w'
    go_simp
    with_reducible rfl
  rotate_left
  · simp only [Act.put, List.setIfInBounds_toArray, List.set_cons_zero, List.set_cons_succ, i64_w, i32_w]
    rfl
  refine pure_ (i := 8) (N := some 62) (v := ?_) (a' := ?_) #[true, true, true, true, false, true, true, true, true, false, false, false, false, false, false, false, false, false, false, false, false, false, false] rfl rfl (by kernel_rfl) (fun _ _ _ h => h) (Or.inl ⟨by rfl, ?_⟩) ?_ ?_
  rotate_left
  · intro w'
    go_simp
    with_reducible rfl
  rotate_left
  · simp only [Act.put, List.setIfInBounds_toArray, List.set_cons_zero, List.set_cons_succ, i64_w, i32_w]
    rfl
  refine pure_ (i := 9) (N := some 63) (v := ?_) (a' := ?_) #[true, true, true, true, false, true, true, true, true, true, false, false, false, false, false, false, false, false, false, false, false, false, false] rfl rfl (by kernel_rfl) (fun _ _ _ h => h) (Or.inl ⟨by rfl, ?_⟩) ?_ ?_
  rotate_left
  · intro w'
    go_simp
    with_reducible rfl
  rotate_left
  · simp only [Act.put, List.setIfInBounds_toArray, List.set_cons_zero, List.set_cons_succ, i64_w, i32_w]
    rfl
  refine pure_ (i := 11) (N := some 65) (v := ?_) (a' := ?_) #[true, true, true, true, false, true, true, true, true, true, false, true, false, false, false, false, false, false, false, false, false, false, false] rfl rfl (by kernel_rfl) (fun _ _ _ h => h) (Or.inl ⟨by rfl, ?_⟩) ?_ ?_
  rotate_left
  · intro w'
    go_simp
    with_reducible rfl
  rotate_left
  · simp only [Act.put, List.setIfInBounds_toArray, List.set_cons_zero, List.set_cons_succ, i64_w, i32_w]
    rfl
  refine pure_ (i := 12) (N := some 66) (v := ?_) (a' := ?_) #[true, true, true, true, false, true, true, true, true, true, false, true, true, false, false, false, false, false, false, false, false, false, false] rfl rfl (by kernel_rfl) (fun _ _ _ h => h) (Or.inl ⟨by rfl, ?_⟩) ?_ ?_
  rotate_left
  · intro w'
    go_simp
    with_reducible rfl
  rotate_left
  · simp only [Act.put, List.setIfInBounds_toArray, List.set_cons_zero, List.set_cons_succ, i64_w, i32_w]
    rfl
  refine pure_ (i := 13) (N := some 67) (v := ?_) (a' := ?_) #[true, true, true, true, false, true, true, true, true, true, false, true, true, true, false, false, false, false, false, false, false, false, false] rfl rfl (by kernel_rfl) (fun _ _ _ h => h) (Or.inl ⟨by rfl, ?_⟩) ?_ ?_
  rotate_left
  · intro w'
    go_simp
    with_reducible rfl
  rotate_left
  · simp only [Act.put, List.setIfInBounds_toArray, List.set_cons_zero, List.set_cons_succ, i64_w, i32_w]
    rfl
  refine pure_ (i := 14) (N := some 68) (v := ?_) (a' := ?_) #[true, true, true, true, false, true, true, true, true, true, false, true, true, true, true, false, false, false, false, false, false, false, false] rfl rfl (by kernel_rfl) (fun _ _ _ h => h) (Or.inl ⟨by rfl, ?_⟩) ?_ ?_
  rotate_left
  · intro w'
    go_simp
    with_reducible rfl
  rotate_left
  · simp only [Act.put, List.setIfInBounds_toArray, List.set_cons_zero, List.set_cons_succ, i64_w, i32_w]
    rfl
  refine pure_ (i := 16) (N := some 70) (v := ?_) (a' := ?_) #[true, true, true, true, false, true, true, true, true, true, false, true, true, true, true, false, true, false, false, false, false, false, false] rfl rfl (by kernel_rfl) (fun _ _ _ h => h) (Or.inl ⟨by rfl, ?_⟩) ?_ ?_
  rotate_left
  · intro w'
    go_simp
    with_reducible rfl
  rotate_left
  · simp only [Act.put, List.setIfInBounds_toArray, List.set_cons_zero, List.set_cons_succ, i64_w, i32_w]
    rfl
  refine pure_ (i := 19) (N := some 73) (v := ?_) (a' := ?_) #[true, true, true, true, false, true, true, true, true, true, false, true, true, true, true, false, true, false, false, true, false, false, false] rfl rfl (by kernel_rfl) (fun _ _ _ h => h) (Or.inl ⟨by rfl, ?_⟩) ?_ ?_
  rotate_left
  · intro w'
    go_simp
    with_reducible rfl
  rotate_left
  · simp only [Act.put, List.setIfInBounds_toArray, List.set_cons_zero, List.set_cons_succ, i64_w, i32_w]
    rfl
  refine take_ (i := 4) (N := some 58) (v := ?_) (a' := ?_) #[true, true, true, true, true, true, true, true, true, true, false, true, true, true, true, false, true, false, false, true, false, false, false] rfl rfl (by kernel_rfl) (fun _ _ _ h => h) (Or.inl ⟨by rfl, ?_⟩) hHeld ?_ ?_
  rotate_left
  · rintro w' ⟨s0, s1, s2⟩
    go_simp
    with_reducible rfl
  rotate_left
  · simp only [Act.put, List.setIfInBounds_toArray, List.set_cons_zero, List.set_cons_succ, i64_w, i32_w]
    rfl
  refine take_ (i := 10) (N := some 64) (v := ?_) (a' := ?_) #[true, true, true, true, true, true, true, true, true, true, true, true, true, true, true, false, true, false, false, true, false, false, false] rfl rfl (by kernel_rfl) (fun _ _ _ h => h) (Or.inl ⟨by rfl, ?_⟩) hHeld ?_ ?_
  rotate_left
  · rintro w' ⟨s0, s1, s2⟩
    go_simp
    with_reducible rfl
  rotate_left
  · simp only [Act.put, List.setIfInBounds_toArray, List.set_cons_zero, List.set_cons_succ, i64_w, i32_w]
    rfl
  refine take_ (i := 15) (N := some 69) (v := ?_) (a' := ?_) #[true, true, true, true, true, true, true, true, true, true, true, true, true, true, true, true, true, false, false, true, false, false, false] rfl rfl (by kernel_rfl) (fun _ _ _ h => h) (Or.inl ⟨by rfl, ?_⟩) hHeld ?_ ?_
  rotate_left
  · rintro w' ⟨s0, s1, s2⟩
    go_simp
    with_reducible rfl
  rotate_left
  · simp only [Act.put, List.setIfInBounds_toArray, List.set_cons_zero, List.set_cons_succ, i64_w, i32_w]
    rfl
  refine pure_ (i := 17) (N := some 71) (v := ?_) (a' := ?_) #[true, true, true, true, true, true, true, true, true, true, true, true, true, true, true, true, true, true, false, true, false, false, false] rfl rfl (by kernel_rfl) (fun _ _ _ h => h) (Or.inl ⟨by rfl, ?_⟩) ?_ ?_
  rotate_left
  · intro w'
    go_simp
    with_reducible rfl
  rotate_left
  · simp only [Act.put, List.setIfInBounds_toArray, List.set_cons_zero, List.set_cons_succ, i64_w, i32_w]
    rfl
  refine take_ (i := 18) (N := some 72) (v := ?_) (a' := ?_) #[true, true, true, true, true, true, true, true, true, true, true, true, true, true, true, true, true, true, true, true, false, false, false] rfl rfl (by kernel_rfl) (fun _ _ _ h => h) (Or.inl ⟨by rfl, ?_⟩) hHeld ?_ ?_
  rotate_left
  · rintro w' ⟨s0, s1, s2⟩
    go_simp
    with_reducible rfl
  rotate_left
  · simp only [Act.put, List.setIfInBounds_toArray, List.set_cons_zero, List.set_cons_succ, i64_w, i32_w]
    rfl
  refine one_ (i := 20) (N := some 74) #[true, true, true, true, true, true, true, true, true, true, true, true, true, true, true, true, true, true, true, true, true, false, false] rfl rfl (by kernel_rfl) (by decide) (fun K hK => ?_)
  refine goes_ Try.func82 (by kernel_rfl) rfl #[.int .i64 kind, .int .i64 (rd st i), .int .i64 1] (by rfl) rfl rfl (by simp only [List.map_toArray, List.map_cons, List.map_nil]; rfl) ?_
  with_reducible refine (ref_after kind (rd st i) 1 _ hs (by decide)).mono ?_
  rintro e w6 ⟨rfl, hb6⟩
  refine ⟨_, rfl, ?_⟩
  have hb6' := below_undrew1 hb6
  have HE6 := Aside0.mk (HE5.out.below hb6')
  have HM6 := Aside0.mk (HM5.out.below hb6')
  have c6 : w6.cell? ⟨b, i, none⟩ = some (.int .i64 (rd st i)) := by obtain ⟨b', hA, hc, _⟩ := HE6.out.cell hi; cases hA; exact hc
  have f6 : w6.frozen? ⟨b, i, none⟩ = false := by obtain ⟨b', hA, _, hf, _⟩ := HE6.out.cell hi; cases hA; exact hf
  clear hb6 hb6'
  refine hK.out _ _ ⟨HE6.out.c0, HE6.out.c1, c6⟩ (fun hHeld => ?_)
  clear hK K
  refine norm_ (a' := ?_) ?_ ?_
  rotate_left
  · show Act.put _ (some 74) _ = _
    simp only [Act.put, List.setIfInBounds_toArray, List.set_cons_zero, List.set_cons_succ, i64_w, i32_w]
    rfl
  refine pure_ (i := 21) (N := some 75) (v := ?_) (a' := ?_) #[true, true, true, true, true, true, true, true, true, true, true, true, true, true, true, true, true, true, true, true, true, true, false] rfl rfl (by kernel_rfl) (fun _ _ _ h => h) (Or.inl ⟨by rfl, ?_⟩) ?_ ?_
  rotate_left
  · intro w'
    go_simp
    with_reducible rfl
  rotate_left
  · simp only [Act.put, List.setIfInBounds_toArray, List.set_cons_zero, List.set_cons_succ, i64_w, i32_w]
    rfl
  refine last_ (i := 22) (N := none) #[true, true, true, true, true, true, true, true, true, true, true, true, true, true, true, true, true, true, true, true, true, true, true] rfl rfl (by kernel_rfl) (by decide) (fun K hK => ?_)
  refine skip_ (w1 := ?_) (by rfl) rfl ?_ ?_
  rotate_left
  · go_simp
    rfl
  refine hK.out _ _ ?_
  clear hK K
  refine done_ (by kernel_rfl) ?_
  go_wp2
  obtain ⟨w0, hw0⟩ : ∃ w0, w0 = w6.setCell ⟨b, i, none⟩ (.int .i64 (after kind (rd st i) 1)) := ⟨_, rfl⟩
  rw [← hw0]
  obtain ⟨S', hS'⟩ : ∃ S' : Nat → Prop, S' = fun k => S k ∨ w.heap.size ≤ k := ⟨_, rfl⟩
  have HS2 := Aside0.mk (show ∀ k, S' k → S k ∨ w.heap.size ≤ k from fun k hk => by rw [hS'] at hk; exact hk)
  have HS3 := Aside0.mk (show ∀ k, S k ∨ w.heap.size ≤ k → S' k from fun k hk => by rw [hS']; exact hk)
  have HSS := Aside0.mk hS'
  obtain ⟨st', hst'⟩ : ∃ st' : List Int, st' = st.set i (after kind (rd st i) 1) := ⟨_, rfl⟩
  have HST := Aside0.mk hst'
  have HE4 := Aside0.mk (show RefRow w0 S' g kind (some ⟨b, 0, none⟩) c st' (cutL low mid 1) (cutH high mid 1) vo out from hst' ▸ hw0 ▸ ((HE6.out.setst hi _).mono (fun k hk => HS3.out k (.inl hk))))
  have HM4 := Aside0.mk (show Mods w w0 S from hw0 ▸ (HM6.out.setCell (.inl hSb) _))
  clear hw0 hS' hst' k0 k1 ks HE5 HE6 HM5 HM6 c6 f6
  go_loopg [] 4 (fun d wr => ∃ (l h : Int) (out1 : List Int), Aside0 (∃ A c vo, RefRow wr S' g kind A c st' l h vo out1) ∧ Aside0 (Mods w wr S) ∧ Aside0 (PutInv out (cutL low mid 1) (cutH high mid 1) d l h out1))
  case atStart => exact ⟨_, _, out, ⟨_, _, _, HE4.out⟩, HM4, HI⟩
  clear HE4 HM4 HI
  case round =>
    obtain ⟨l, h, out1, ⟨A1, c1, vo1, hE5⟩, HM5, HPI⟩ := hrel
    have HE5 := Aside0.mk hE5
    clear hE5
    have hp0 := HPI.out.l0
    have hp1 := HPI.out.lh
    have hp2 := HPI.out.h0
    have hs := fixed_calls l h
    have k2 := HE5.out.c2
    have k3 := HE5.out.c3
    by_cases cc : l / 16777216 = h / 16777216
    · rw [decide_eq_true cc] at hs
      have HSA := Aside0.mk hs
      clear hs
      obtain ⟨d', hd', hP'⟩ := HPI.out.step cc
      rw [cc] at hP'
      have HP' := Aside0.mk hP'
      have hlen1 : out1.length ≤ 1099511627780 := by have := HPI.out.len; omega
      have HD := Aside0.mk hd'
      clear hd' hP' cc
      have hb1 : 0 ≤ h / 16777216 ∧ h / 16777216 ≤ 255 := by omega
      go_wp2_with (go_at_call 80; refine (HSA.out _).mono ?_; rintro e w7 ⟨rfl, hb7⟩; have HE7 := Aside0.mk (HE5.out.below hb7); have HM7 := Aside0.mk (HM5.out.below hb7); clear hb7)
      have HE7 := Aside0.mk HE7.out.drew
      have HM7 := Aside0.mk HM7.out.drew
      have p4 := HE7.out.c4
      have p3 := HE7.out.c3
      clear HE5 HM5 k2 k3 HSA
      refine start_ (n := 17) (S := fun w' => w'.cell? ⟨g, 4, none⟩ = some vo1 ∧ w'.cell? ⟨g, 3, none⟩ = some (.int .u64 h)) (ds := [16]) #[false, false, false, false, false, false, false, false, false, false, false, false, false, false, false, false, false] (by kernel_rfl) rfl rfl ⟨p4, p3⟩ (fun hHeld => ?_)
      generalize w7.drew = w11 at p4 p3 HE7 HM7 hHeld ⊢
      refine pure_ (i := 0) (N := some 81) (v := ?_) (a' := ?_) #[true, false, false, false, false, false, false, false, false, false, false, false, false, false, false, false, false] rfl rfl (by kernel_rfl) (fun _ _ _ h => h) (Or.inl ⟨by rfl, ?_⟩) ?_ ?_
      rotate_left
      · intro w'
        go_simp
        with_reducible rfl
      rotate_left
      · simp only [Act.put, List.setIfInBounds_toArray, List.set_cons_zero, List.set_cons_succ, i64_w, i32_w]
        rfl
      refine pure_ (i := 1) (N := some 82) (v := ?_) (a' := ?_) #[true, true, false, false, false, false, false, false, false, false, false, false, false, false, false, false, false] rfl rfl (by kernel_rfl) (fun _ _ _ h => h) (Or.inl ⟨by rfl, ?_⟩) ?_ ?_
      rotate_left
      · intro w'
        go_simp
        with_reducible rfl
      rotate_left
      · simp only [Act.put, List.setIfInBounds_toArray, List.set_cons_zero, List.set_cons_succ, i64_w, i32_w]
        rfl
      refine pure_ (i := 2) (N := some 83) (v := ?_) (a' := ?_) #[true, true, true, false, false, false, false, false, false, false, false, false, false, false, false, false, false] rfl rfl (by kernel_rfl) (fun _ _ _ h => h) (Or.inl ⟨by rfl, ?_⟩) ?_ ?_
      rotate_left
      · intro w'
        go_simp
        with_reducible rfl
      rotate_left
      · simp only [Act.put, List.setIfInBounds_toArray, List.set_cons_zero, List.set_cons_succ, i64_w, i32_w]
        rfl
      refine pure_ (i := 3) (N := some 84) (v := ?_) (a' := ?_) #[true, true, true, true, false, false, false, false, false, false, false, false, false, false, false, false, false] rfl rfl (by kernel_rfl) (fun _ _ _ h => h) (Or.inl ⟨by rfl, ?_⟩) ?_ ?_
      rotate_left
      · intro w'
        go_simp
        with_reducible rfl
      rotate_left
      · simp only [Act.put, List.setIfInBounds_toArray, List.set_cons_zero, List.set_cons_succ, i64_w, i32_w]
        rfl
      refine pure_ (i := 5) (N := some 86) (v := ?_) (a' := ?_) #[true, true, true, true, false, true, false, false, false, false, false, false, false, false, false, false, false] rfl rfl (by kernel_rfl) (fun _ _ _ h => h) (Or.inl ⟨by rfl, ?_⟩) ?_ ?_
      rotate_left
      · intro w'
        go_simp
        with_reducible rfl
      rotate_left
      · simp only [Act.put, List.setIfInBounds_toArray, List.set_cons_zero, List.set_cons_succ, i64_w, i32_w]
        rfl
      refine pure_ (i := 6) (N := some 87) (v := ?_) (a' := ?_) #[true, true, true, true, false, true, true, false, false, false, false, false, false, false, false, false, false] rfl rfl (by kernel_rfl) (fun _ _ _ h => h) (Or.inl ⟨by rfl, ?_⟩) ?_ ?_
      rotate_left
      · intro w'
        go_simp
        with_reducible rfl
      rotate_left
      · simp only [Act.put, List.setIfInBounds_toArray, List.set_cons_zero, List.set_cons_succ, i64_w, i32_w]
        rfl
      refine pure_ (i := 7) (N := some 88) (v := ?_) (a' := ?_) #[true, true, true, true, false, true, true, true, false, false, false, false, false, false, false, false, false] rfl rfl (by kernel_rfl) (fun _ _ _ h => h) (Or.inl ⟨by rfl, ?_⟩) ?_ ?_
      rotate_left
      · intro w'
        go_simp
        with_reducible rfl
      rotate_left
      · simp only [Act.put, List.setIfInBounds_toArray, List.set_cons_zero, List.set_cons_succ, i64_w, i32_w]
        rfl
      refine pure_ (i := 8) (N := some 89) (v := ?_) (a' := ?_) #[true, true, true, true, false, true, true, true, true, false, false, false, false, false, false, false, false] rfl rfl (by kernel_rfl) (fun _ _ _ h => h) (Or.inl ⟨by rfl, ?_⟩) ?_ ?_
      rotate_left
      · intro w'
        go_simp
        with_reducible rfl
      rotate_left
      · simp only [Act.put, List.setIfInBounds_toArray, List.set_cons_zero, List.set_cons_succ, i64_w, i32_w]
        rfl
      refine take_ (i := 4) (N := some 85) (v := ?_) (a' := ?_) #[true, true, true, true, true, true, true, true, true, false, false, false, false, false, false, false, false] rfl rfl (by kernel_rfl) (fun _ _ _ h => h) (Or.inl ⟨by rfl, ?_⟩) hHeld ?_ ?_
      rotate_left
      · rintro w' ⟨s0, s1⟩
        go_simp
        with_reducible rfl
      rotate_left
      · simp only [Act.put, List.setIfInBounds_toArray, List.set_cons_zero, List.set_cons_succ, i64_w, i32_w]
        rfl
      refine take_ (i := 9) (N := some 90) (v := ?_) (a' := ?_) #[true, true, true, true, true, true, true, true, true, true, false, false, false, false, false, false, false] rfl rfl (by kernel_rfl) (fun _ _ _ h => h) (Or.inl ⟨by rfl, ?_⟩) hHeld ?_ ?_
      rotate_left
      · rintro w' ⟨s0, s1⟩
        go_simp
        with_reducible rfl
      rotate_left
      · simp only [Act.put, List.setIfInBounds_toArray, List.set_cons_zero, List.set_cons_succ, i64_w, i32_w]
        rfl
      refine pure_ (i := 10) (N := some 91) (v := ?_) (a' := ?_) #[true, true, true, true, true, true, true, true, true, true, true, false, false, false, false, false, false] rfl rfl (by kernel_rfl) (fun _ _ _ h => h) (Or.inl ⟨by rfl, ?_⟩) ?_ ?_
      rotate_left
      · intro w'
        go_simp
        with_reducible rfl
      rotate_left
      · simp only [Act.put, List.setIfInBounds_toArray, List.set_cons_zero, List.set_cons_succ, i64_w, i32_w]
        rfl
      refine pure_ (i := 11) (N := some 92) (v := ?_) (a' := ?_) #[true, true, true, true, true, true, true, true, true, true, true, true, false, false, false, false, false] rfl rfl (by kernel_rfl) (fun _ _ _ h => h) (Or.inl ⟨by rfl, ?_⟩) ?_ ?_
      rotate_left
      · intro w'
        go_simp
        with_reducible rfl
      rotate_left
      · simp only [Act.put, List.setIfInBounds_toArray, List.set_cons_zero, List.set_cons_succ, i64_w, i32_w]
        rfl
      refine one_ (i := 12) (N := some 93) #[true, true, true, true, true, true, true, true, true, true, true, true, true, false, false, false, false] rfl rfl (by kernel_rfl) (by decide) (fun K hK => ?_)
      refine value_ (w1 := ?_) (v := ?_) (by rfl) rfl ?_ ?_
      rotate_left 2
      · go_simp
        constructor
        · rfl
        · rfl
      refine hK.out _ _ ⟨pw_cell_below (below_alloc (Below.refl _ _) _) p4, pw_cell_below (below_alloc (Below.refl _ _) _) p3⟩ (fun hHeld => ?_)
      clear hK K
      refine norm_ (a' := ?_) ?_ ?_
      rotate_left
      · show Act.put _ (some 93) _ = _
        simp only [Act.put, List.setIfInBounds_toArray, List.set_cons_zero, List.set_cons_succ, i64_w, i32_w]
        rfl
      refine one_ (i := 13) (N := some 94) #[true, true, true, true, true, true, true, true, true, true, true, true, true, true, false, false, false] rfl rfl (by kernel_rfl) (by decide) (fun K hK => ?_)
      refine Kd.R_append_step (Kd.int .u8) 0 (by rfl) (.tmp 85) (.tmp 93) 34 5 (.int .u8 0) 1 rfl Try.underlying34 infoU8 rfl (by decide) (by decide) vo1 out1 (IntKind.u8.wrap (h / 16777216)) [.int .u8 (IntKind.u8.wrap (h / 16777216))] S' (fun _ => False) rfl rfl rfl (fun _ h => h.elim) (fun k hk => HS3.out k (.inr (Nat.le_trans HM7.out.size hk))) HE7.out.o (Below.refl 0 _) (Nat.zero_le _) (by omega) ?_
      intro v8 w8 hR8 _ hg8 hat8
      obtain ⟨A8, c8, rfl⟩ := Kd.R_slice hR8
      rw [List.length_append, List.length_cons, List.length_nil, Nat.zero_add, wraps_u8 (h / 16777216) (by omega) (by omega)] at hR8
      have hne8 := Kd.R_ne HE7.out.o HE7.out.b (by decide)
      have t4 : w8.cell? ⟨g, 4, none⟩ = some vo1 := hg8.cell p4 hne8
      have t3 : w8.cell? ⟨g, 3, none⟩ = some (.int .u64 h) := hg8.cell p3 hne8
      have z8 : w8.frozen? ⟨g, 4, none⟩ = false := blk_frozen (blk_grown HE7.out.b hg8 hne8) 4
      have HE8 := Aside0.mk (HE7.out.grew hg8 hR8)
      have HM8 := Aside0.mk ((HM7.out.of_grown hg8 (fun k hk => HS2.out k (HE7.out.o.1 k hk))).setCell (p := ⟨g, 4, none⟩) (.inl hSg) (.slice A8 (out1.length + 1) c8))
      clear hR8 hg8 hat8 hne8 HM7
      refine hK.out _ _ ⟨t4, t3⟩ (fun hHeld => ?_)
      clear hK K
      refine norm_ (a' := ?_) ?_ ?_
      rotate_left
      · show Act.put _ (some 94) _ = _
        simp only [Act.put, List.setIfInBounds_toArray, List.set_cons_zero, List.set_cons_succ, i64_w, i32_w]
        rfl
      refine pure_ (i := 14) (N := some 95) (v := ?_) (a' := ?_) #[true, true, true, true, true, true, true, true, true, true, true, true, true, true, true, false, false] rfl rfl (by kernel_rfl) (fun _ _ _ h => h) (Or.inl ⟨by rfl, ?_⟩) ?_ ?_
      rotate_left
      · intro w'
        go_simp
        with_reducible rfl
      rotate_left
      · simp only [Act.put, List.setIfInBounds_toArray, List.set_cons_zero, List.set_cons_succ, i64_w, i32_w]
        rfl
      refine pure_ (i := 15) (N := some 96) (v := ?_) (a' := ?_) #[true, true, true, true, true, true, true, true, true, true, true, true, true, true, true, true, false] rfl rfl (by kernel_rfl) (fun _ _ _ h => h) (Or.inl ⟨by rfl, ?_⟩) ?_ ?_
      rotate_left
      · intro w'
        go_simp
        with_reducible rfl
      rotate_left
      · simp only [Act.put, List.setIfInBounds_toArray, List.set_cons_zero, List.set_cons_succ, i64_w, i32_w]
        rfl
      refine last_ (i := 16) (N := none) #[true, true, true, true, true, true, true, true, true, true, true, true, true, true, true, true, true] rfl rfl (by kernel_rfl) (by decide) (fun K hK => ?_)
      refine skip_ (w1 := ?_) (by rfl) rfl ?_ ?_
      rotate_left
      · go_simp
        rfl
      refine hK.out _ _ ?_
      clear hK K
      refine done_ (by kernel_rfl) ?_
      have k2 := HE8.out.c2
      have k3 := HE8.out.c3
      obtain ⟨w9, hw9⟩ : ∃ w9, w9 = w8.setCell ⟨g, 4, none⟩ (.slice A8 (out1.length + 1) c8) := ⟨_, rfl⟩
      rw [← hw9] at HE8 HM8 k2 k3 ⊢
      clear hw9 p4 p3 t4 t3 z8
      go_wp2_with (fail)
      refine (shift_calls l h _ hp0 (by omega) (by omega) hp2).mono ?_
      rintro e w10 ⟨rfl, hb10⟩
      have HE10 := Aside0.mk (HE8.out.below hb10)
      have HM10 := Aside0.mk (HM8.out.below hb10)
      have k2 := HE10.out.c2
      have k3 := HE10.out.c3
      have f2 := HE10.out.fz 2
      have f3 := HE10.out.fz 3
      clear hb10 HE8 HM8
      go_wp2
      go_roundg d'
      case measure => have := HD.out; omega
      case rel => exact ⟨_, _, _, ⟨_, _, _, HE10.out.cut _ _⟩, ⟨(HM10.out.setCell (.inl hSg) _).setCell (.inl hSg) _⟩, HP'⟩
    · rw [decide_eq_false cc] at hs
      have HSA := Aside0.mk hs
      clear hs
      have HCC := Aside0.mk cc
      clear cc
      go_wp2_with (go_at_call 80; refine (HSA.out _).mono ?_; rintro e w7 ⟨rfl, hb7⟩; have HE7 := Aside0.mk (HE5.out.below hb7); have HM7 := Aside0.mk (HM5.out.below hb7); clear hb7)
      go_ret
      have hd := HPI.out.done HCC.out
      have hE7 := HE7.out
      rw [HSS.out, HST.out] at hE7
      exact ⟨rfl, ⟨l, h, out1, ⟨_, _, _, hE7⟩, hd.1, hd.2⟩, HM7.out⟩
end Go.Proofs.Ytlnhahnnjbfjdaa.RefPut
namespace Go.Proofs.Ytlnhahnnjbfjdaa.RefEnd
open Go Go.RowKit Go.Proofs.YtlnhahnnjbfjdaaW.PrintWords Go.Proofs.YtlnhahnnjbfjdaaW.PrintLast Go.Proofs.YtlnhahnnjbfjdaaW.PrintMore Go.Proofs.Ytlnhahnnjbfjdaa.Aid Go.Proofs.Ytlnhahnnjbfjdaa.HandAid Go.Proofs.Ytlnhahnnjbfjdaa.Cod1 Go.Proofs.Ytlnhahnnjbfjdaa.Cod2 Go.Proofs.Ytlnhahnnjbfjdaa.Cod3 Go.Proofs.Ytlnhahnnjbfjdaa.Mod Go.Proofs.Ytlnhahnnjbfjdaa.Enc Go.Proofs.Ytlnhahnnjbfjdaa.Mods Go.Proofs.Ytlnhahnnjbfjdaa.EncAt Go.Proofs.Ytlnhahnnjbfjdaa.Put Go.Proofs.Ytlnhahnnjbfjdaa.End Go.Proofs.Ytlnhahnnjbfjdaa.Snc Go.Proofs.Ytlnhahnnjbfjdaa.RefAt Go.Proofs.Ytlnhahnnjbfjdaa.RefPut Go.Proofs.Ytlnhahnnjbfjdaa.U
/-- The highest k bytes, as a number. -/
def topOf (high : Int) (k : Nat) : Int := if k = 0 then high / 4294967296 * 4294967296 else if k = 1 then high / 16777216 * 16777216 else if k = 2 then high / 65536 * 65536 else if k = 3 then high / 256 * 256 else high
set_option maxHeartbeats 4000000 in
set_option maxRecDepth 100000 in
theorem iend_calls (low high : Int) (w : World) (hl0 : 0 ≤ low) (hlh : low ≤ high) (hh : high ≤ 4294967295) :
    Calls Try.prog 67 #[.agg #[.int .u64 low, .int .u64 high]] w (EndPost w (endOf low high)) := by
  have hh0 : 0 ≤ high := by omega
  go_enter Try.func67, Try.ntmps67
  go_wp2
  go_loopg [3, 4] 5 (fun d o n wr => ∃ (k : Nat), k ≤ 4 ∧ Aside0 (k + d = 5) ∧ n = .int .u64 (topOf high k) ∧ ∃ A c, o = .slice A k c ∧ Aside0 (k ≤ endN low high) ∧ Aside0 (wr.heap[w.heap.size]? = some (.cells #[.int .u64 low, .int .u64 high] 101 (0, 0))) ∧ Aside0 (Kd.R (Kd.int .u8) 5 wr w.heap.size (fun _ => True) (.slice A k c) ((hiBytes high).take k)) ∧ Aside0 (Below w.heap.size w wr))
  case atStart => exact ⟨0, by omega, ⟨by omega⟩, by (show Value.int IntKind.u64 0 = _; rw [show topOf high 0 = 0 from (by unfold topOf; rw [if_pos rfl]; omega)]), none, 0, rfl, ⟨Nat.zero_le _⟩, ⟨heap_new w _⟩, ⟨Kd.R_nil _ _ _ _ _⟩, ⟨below_alloc (Below.refl _ _) _⟩⟩
  case round =>
    obtain ⟨k, hk, HD, rfl, A3, c3, rfl, HK, HZ, HR4, HB4⟩ := hrel
    have k0 : wr.cell? ⟨w.heap.size, 0, none⟩ = some (.int .u64 low) := (blk_cell HZ.out 0).trans rfl
    have k1 : wr.cell? ⟨w.heap.size, 1, none⟩ = some (.int .u64 high) := (blk_cell HZ.out 1).trans rfl
    have hcase : k = 0 ∨ k = 1 ∨ k = 2 ∨ k = 3 ∨ k = 4 := by omega
    rcases hcase with rfl | rfl | rfl | rfl | rfl
    · rw [show topOf high 0 = high / 4294967296 * 4294967296 from rfl]
      by_cases ct : high / 4294967296 * 4294967296 < low
      · have HN : 1 ≤ endN low high := by
          have := HK.out
          unfold endN at this ⊢
          repeat' split
          all_goals (first | omega | (split at this <;> omega))
        have hle := HB4.out.size
        have hbl := blk_lt HZ.out
        go_wp2_with (at_builtin; refine Kd.R_append (Kd.int .u8) (w0 := w) w.heap.size (by rfl) (.tmp 14) (.tmp 20) 34 5 (.int .u8 0) 1 rfl Try.underlying34 infoU8 rfl (by decide) (by decide) (.slice A3 0 c3) ((hiBytes high).take 0) (high / 16777216) [.int .u8 (high / 16777216)] (fun _ => True) (fun _ => False) rfl rfl rfl (fun _ h => h.elim) (fun _ _ => trivial) HR4.out HB4.out hle (by simp [hiBytes]) ?_; intro v8 w8 hR8 hB8 hg8 hat8; obtain ⟨A8, c8, hv8⟩ := Kd.R_slice hR8; rw [show ((hiBytes high).take 0 ++ [high / 16777216]).length = 1 by simp [hiBytes]] at hv8; subst hv8; have HR8 := Aside0.mk (show Kd.R (Kd.int .u8) 5 w8 w.heap.size (fun _ => True) (.slice A8 1 c8) ((hiBytes high).take 1) from by simpa [hiBytes] using hR8); have HZ8 := Aside0.mk (blk_grown HZ.out hg8 (Kd.R_ne HR4.out HZ.out (by decide))); have k0 : w8.cell? ⟨w.heap.size, 0, none⟩ = some (.int .u64 low) := (blk_cell HZ8.out 0).trans rfl; have k1 : w8.cell? ⟨w.heap.size, 1, none⟩ = some (.int .u64 high) := (blk_cell HZ8.out 1).trans rfl; have HB8 := Aside0.mk hB8; clear hR8 hB8 hg8 hat8)
        go_roundg 4
        case measure => have := HD.out; omega
        case rel => exact ⟨1, by omega, ⟨by omega⟩, by (rw [show topOf high 1 = high / 16777216 * 16777216 from rfl]; congr 1; omega), A8, c8, rfl, ⟨HN⟩, HZ8, HR8, HB8⟩
      · have hEN : endN low high = 0 := by
          have := HK.out
          unfold endN at this ⊢
          repeat' split
          all_goals (first | rfl | omega | (split at this <;> omega))
        have hend : endOf low high = (hiBytes high).take 0 := by unfold endOf; rw [hEN]
        have HEND := Aside0.mk hend
        clear hEN hend
        go_wp2
        go_ret
        refine ⟨A3, c3, ?_, ?_, HB4.out⟩
        · rw [HEND.out]; simp [hiBytes]
        · have := HR4.out
          rw [HEND.out]
          simp [hiBytes] at this ⊢
          exact this
    · rw [show topOf high 1 = high / 16777216 * 16777216 from rfl]
      by_cases ct : high / 16777216 * 16777216 < low
      · have HN : 2 ≤ endN low high := by
          have := HK.out
          unfold endN at this ⊢
          repeat' split
          all_goals (first | omega | (split at this <;> omega))
        have hle := HB4.out.size
        have hbl := blk_lt HZ.out
        go_wp2_with (at_builtin; refine Kd.R_append (Kd.int .u8) (w0 := w) w.heap.size (by rfl) (.tmp 14) (.tmp 20) 34 5 (.int .u8 0) 1 rfl Try.underlying34 infoU8 rfl (by decide) (by decide) (.slice A3 1 c3) ((hiBytes high).take 1) (high / 65536 % 256) [.int .u8 (high / 65536 % 256)] (fun _ => True) (fun _ => False) rfl rfl rfl (fun _ h => h.elim) (fun _ _ => trivial) HR4.out HB4.out hle (by simp [hiBytes]) ?_; intro v8 w8 hR8 hB8 hg8 hat8; obtain ⟨A8, c8, hv8⟩ := Kd.R_slice hR8; rw [show ((hiBytes high).take 1 ++ [high / 65536 % 256]).length = 2 by simp [hiBytes]] at hv8; subst hv8; have HR8 := Aside0.mk (show Kd.R (Kd.int .u8) 5 w8 w.heap.size (fun _ => True) (.slice A8 2 c8) ((hiBytes high).take 2) from by simpa [hiBytes] using hR8); have HZ8 := Aside0.mk (blk_grown HZ.out hg8 (Kd.R_ne HR4.out HZ.out (by decide))); have k0 : w8.cell? ⟨w.heap.size, 0, none⟩ = some (.int .u64 low) := (blk_cell HZ8.out 0).trans rfl; have k1 : w8.cell? ⟨w.heap.size, 1, none⟩ = some (.int .u64 high) := (blk_cell HZ8.out 1).trans rfl; have HB8 := Aside0.mk hB8; clear hR8 hB8 hg8 hat8)
        go_roundg 3
        case measure => have := HD.out; omega
        case rel => exact ⟨2, by omega, ⟨by omega⟩, by (rw [show topOf high 2 = high / 65536 * 65536 from rfl]; congr 1; omega), A8, c8, rfl, ⟨HN⟩, HZ8, HR8, HB8⟩
      · have hEN : endN low high = 1 := by
          have := HK.out
          unfold endN at this ⊢
          repeat' split
          all_goals (first | rfl | omega | (split at this <;> omega))
        have hend : endOf low high = (hiBytes high).take 1 := by unfold endOf; rw [hEN]
        have HEND := Aside0.mk hend
        clear hEN hend
        go_wp2
        go_ret
        refine ⟨A3, c3, ?_, ?_, HB4.out⟩
        · rw [HEND.out]; simp [hiBytes]
        · have := HR4.out
          rw [HEND.out]
          simp [hiBytes] at this ⊢
          exact this
    · rw [show topOf high 2 = high / 65536 * 65536 from rfl]
      by_cases ct : high / 65536 * 65536 < low
      · have HN : 3 ≤ endN low high := by
          have := HK.out
          unfold endN at this ⊢
          repeat' split
          all_goals (first | omega | (split at this <;> omega))
        have hle := HB4.out.size
        have hbl := blk_lt HZ.out
        go_wp2_with (at_builtin; refine Kd.R_append (Kd.int .u8) (w0 := w) w.heap.size (by rfl) (.tmp 14) (.tmp 20) 34 5 (.int .u8 0) 1 rfl Try.underlying34 infoU8 rfl (by decide) (by decide) (.slice A3 2 c3) ((hiBytes high).take 2) (high / 256 % 256) [.int .u8 (high / 256 % 256)] (fun _ => True) (fun _ => False) rfl rfl rfl (fun _ h => h.elim) (fun _ _ => trivial) HR4.out HB4.out hle (by simp [hiBytes]) ?_; intro v8 w8 hR8 hB8 hg8 hat8; obtain ⟨A8, c8, hv8⟩ := Kd.R_slice hR8; rw [show ((hiBytes high).take 2 ++ [high / 256 % 256]).length = 3 by simp [hiBytes]] at hv8; subst hv8; have HR8 := Aside0.mk (show Kd.R (Kd.int .u8) 5 w8 w.heap.size (fun _ => True) (.slice A8 3 c8) ((hiBytes high).take 3) from by simpa [hiBytes] using hR8); have HZ8 := Aside0.mk (blk_grown HZ.out hg8 (Kd.R_ne HR4.out HZ.out (by decide))); have k0 : w8.cell? ⟨w.heap.size, 0, none⟩ = some (.int .u64 low) := (blk_cell HZ8.out 0).trans rfl; have k1 : w8.cell? ⟨w.heap.size, 1, none⟩ = some (.int .u64 high) := (blk_cell HZ8.out 1).trans rfl; have HB8 := Aside0.mk hB8; clear hR8 hB8 hg8 hat8)
        go_roundg 2
        case measure => have := HD.out; omega
        case rel => exact ⟨3, by omega, ⟨by omega⟩, by (rw [show topOf high 3 = high / 256 * 256 from rfl]; congr 1; omega), A8, c8, rfl, ⟨HN⟩, HZ8, HR8, HB8⟩
      · have hEN : endN low high = 2 := by
          have := HK.out
          unfold endN at this ⊢
          repeat' split
          all_goals (first | rfl | omega | (split at this <;> omega))
        have hend : endOf low high = (hiBytes high).take 2 := by unfold endOf; rw [hEN]
        have HEND := Aside0.mk hend
        clear hEN hend
        go_wp2
        go_ret
        refine ⟨A3, c3, ?_, ?_, HB4.out⟩
        · rw [HEND.out]; simp [hiBytes]
        · have := HR4.out
          rw [HEND.out]
          simp [hiBytes] at this ⊢
          exact this
    · rw [show topOf high 3 = high / 256 * 256 from rfl]
      by_cases ct : high / 256 * 256 < low
      · have HN : 4 ≤ endN low high := by
          have := HK.out
          unfold endN at this ⊢
          repeat' split
          all_goals (first | omega | (split at this <;> omega))
        have hle := HB4.out.size
        have hbl := blk_lt HZ.out
        go_wp2_with (at_builtin; refine Kd.R_append (Kd.int .u8) (w0 := w) w.heap.size (by rfl) (.tmp 14) (.tmp 20) 34 5 (.int .u8 0) 1 rfl Try.underlying34 infoU8 rfl (by decide) (by decide) (.slice A3 3 c3) ((hiBytes high).take 3) (high % 256) [.int .u8 (high % 256)] (fun _ => True) (fun _ => False) rfl rfl rfl (fun _ h => h.elim) (fun _ _ => trivial) HR4.out HB4.out hle (by simp [hiBytes]) ?_; intro v8 w8 hR8 hB8 hg8 hat8; obtain ⟨A8, c8, hv8⟩ := Kd.R_slice hR8; rw [show ((hiBytes high).take 3 ++ [high % 256]).length = 4 by simp [hiBytes]] at hv8; subst hv8; have HR8 := Aside0.mk (show Kd.R (Kd.int .u8) 5 w8 w.heap.size (fun _ => True) (.slice A8 4 c8) ((hiBytes high).take 4) from by simpa [hiBytes] using hR8); have HZ8 := Aside0.mk (blk_grown HZ.out hg8 (Kd.R_ne HR4.out HZ.out (by decide))); have k0 : w8.cell? ⟨w.heap.size, 0, none⟩ = some (.int .u64 low) := (blk_cell HZ8.out 0).trans rfl; have k1 : w8.cell? ⟨w.heap.size, 1, none⟩ = some (.int .u64 high) := (blk_cell HZ8.out 1).trans rfl; have HB8 := Aside0.mk hB8; clear hR8 hB8 hg8 hat8)
        go_roundg 1
        case measure => have := HD.out; omega
        case rel => exact ⟨4, by omega, ⟨by omega⟩, by (rw [show topOf high 4 = high from rfl]; congr 1; omega), A8, c8, rfl, ⟨HN⟩, HZ8, HR8, HB8⟩
      · have hEN : endN low high = 3 := by
          have := HK.out
          unfold endN at this ⊢
          repeat' split
          all_goals (first | rfl | omega | (split at this <;> omega))
        have hend : endOf low high = (hiBytes high).take 3 := by unfold endOf; rw [hEN]
        have HEND := Aside0.mk hend
        clear hEN hend
        go_wp2
        go_ret
        refine ⟨A3, c3, ?_, ?_, HB4.out⟩
        · rw [HEND.out]; simp [hiBytes]
        · have := HR4.out
          rw [HEND.out]
          simp [hiBytes] at this ⊢
          exact this
    · rw [show topOf high 4 = high from rfl]
      by_cases ct : high < low
      · exact absurd ct (by omega)
      · have hEN : endN low high = 4 := by
          have := HK.out
          unfold endN at this ⊢
          repeat' split
          all_goals (first | rfl | omega | (split at this <;> omega))
        have hend : endOf low high = (hiBytes high).take 4 := by unfold endOf; rw [hEN]
        have HEND := Aside0.mk hend
        clear hEN hend
        go_wp2
        go_ret
        refine ⟨A3, c3, ?_, ?_, HB4.out⟩
        · rw [HEND.out]; simp [hiBytes]
        · have := HR4.out
          rw [HEND.out]
          simp [hiBytes] at this ⊢
          exact this
set_option maxHeartbeats 4000000 in
set_option maxRecDepth 100000 in
theorem ref_end_row (w : World) (S : Nat → Prop) (g : Nat) (kind : Int) (A : Option Addr) (c : Nat) (st : List Int) (low high : Int) (vo : Value) (out : List Int) (hE : RefRow w S g kind A c st low high vo out) (hl0 : 0 ≤ low) (hlh : low ≤ high) (hh : high ≤ 4294967295) (hlen : out.length ≤ 1099511627880) :
    Calls Try.prog 40 #[.pointer (some ⟨g, 0, none⟩)] w (EndPost w (out ++ endOf low high)) := by
  have HE := Aside0.mk hE
  obtain ⟨Ao, co, hvo⟩ := Kd.R_slice hE.o
  subst hvo
  have hee : (endOf low high).length ≤ 4 := by simp only [endOf, hiBytes, List.length_take, List.length_cons, List.length_nil]; omega
  have p4 : w.drew.cell? ⟨g, 4, none⟩ = some (.slice Ao out.length co) := hE.c4
  have p2 : w.drew.cell? ⟨g, 2, none⟩ = some (.int .u64 low) := hE.c2
  have p3 : w.drew.cell? ⟨g, 3, none⟩ = some (.int .u64 high) := hE.c3
  have HB1 : Aside0 (Below w.heap.size w (w.drew.alloc (.cells #[] 5))) := ⟨below_alloc (below_drew (Below.refl _ _)) _⟩
  have HR1 : Aside0 (Kd.R (Kd.int .u8) 5 (w.drew.alloc (.cells #[] 5)) w.heap.size (fun _ => True) (.slice (some ⟨w.drew.heap.size, 0, none⟩) 0 0) []) := ⟨Kd.R_of_own (enc := Value.int .u8) (World.ownsRow_lit w.drew #[] 0 (Nat.le_refl _) (by decide) rfl) (fun _ _ => trivial)⟩
  have HCo := Aside0.mk (Kd.R_reads' (hE.drew.below (below_alloc (Below.refl _ _) (.cells #[] 5))).o).2.2
  have hu := Try.underlying101
  clear hE
  go_enter Try.func40, Try.ntmps40
  go_wp2
  refine start_ (n := 13) (S := fun w' => w'.cell? ⟨g, 4, none⟩ = some (.slice Ao out.length co) ∧ w'.cell? ⟨g, 2, none⟩ = some (.int .u64 low) ∧ w'.cell? ⟨g, 3, none⟩ = some (.int .u64 high)) (ds := []) #[false, false, false, false, false, false, false, false, false, false, false, false, false] (by kernel_rfl) rfl rfl ⟨p4, p2, p3⟩ (fun hHeld => ?_)
  generalize w.drew = wd at p4 p2 p3 HR1 HB1 HCo hHeld ⊢
  refine pure_ (i := 1) (N := some 6) (v := ?_) (a' := ?_) #[false, true, false, false, false, false, false, false, false, false, false, false, false] rfl rfl (by kernel_rfl) (fun _ _ _ h => h) (Or.inl ⟨by rfl, ?_⟩) ?_ ?_
  rotate_left
  · intro w'
    go_simp
    with_reducible rfl
  rotate_left
  · simp only [Act.put, List.setIfInBounds_toArray, List.set_cons_zero, List.set_cons_succ, i64_w, i32_w]
    rfl
  refine pure_ (i := 2) (N := some 7) (v := ?_) (a' := ?_) #[false, true, true, false, false, false, false, false, false, false, false, false, false] rfl rfl (by kernel_rfl) (fun _ _ _ h => h) (Or.inl ⟨by rfl, ?_⟩) ?_ ?_
  rotate_left
  · intro w'
    go_simp
    with_reducible rfl
  rotate_left
  · simp only [Act.put, List.setIfInBounds_toArray, List.set_cons_zero, List.set_cons_succ, i64_w, i32_w]
    rfl
  refine pure_ (i := 3) (N := some 8) (v := ?_) (a' := ?_) #[false, true, true, true, false, false, false, false, false, false, false, false, false] rfl rfl (by kernel_rfl) (fun _ _ _ h => h) (Or.inl ⟨by rfl, ?_⟩) ?_ ?_
  rotate_left
  · intro w'
    go_simp
    with_reducible rfl
  rotate_left
  · simp only [Act.put, List.setIfInBounds_toArray, List.set_cons_zero, List.set_cons_succ, i64_w, i32_w]
    rfl
  refine pure_ (i := 6) (N := some 11) (v := ?_) (a' := ?_) #[false, true, true, true, false, false, true, false, false, false, false, false, false] rfl rfl (by kernel_rfl) (fun _ _ _ h => h) (Or.inl ⟨by rfl, ?_⟩) ?_ ?_
  rotate_left
  · intro w'
    go_simp
    with_reducible rfl
  rotate_left
  · simp only [Act.put, List.setIfInBounds_toArray, List.set_cons_zero, List.set_cons_succ, i64_w, i32_w]
    rfl
  refine pure_ (i := 7) (N := some 12) (v := ?_) (a' := ?_) #[false, true, true, true, false, false, true, true, false, false, false, false, false] rfl rfl (by kernel_rfl) (fun _ _ _ h => h) (Or.inl ⟨by rfl, ?_⟩) ?_ ?_
  rotate_left
  · intro w'
    go_simp
    with_reducible rfl
  rotate_left
  · simp only [Act.put, List.setIfInBounds_toArray, List.set_cons_zero, List.set_cons_succ, i64_w, i32_w]
    rfl
  refine pure_ (i := 8) (N := some 13) (v := ?_) (a' := ?_) #[false, true, true, true, false, false, true, true, true, false, false, false, false] rfl rfl (by kernel_rfl) (fun _ _ _ h => h) (Or.inl ⟨by rfl, ?_⟩) ?_ ?_
  rotate_left
  · intro w'
    go_simp
    with_reducible rfl
  rotate_left
  · simp only [Act.put, List.setIfInBounds_toArray, List.set_cons_zero, List.set_cons_succ, i64_w, i32_w]
    rfl
  refine take_ (i := 4) (N := some 9) (v := ?_) (a' := ?_) #[false, true, true, true, true, false, true, true, true, false, false, false, false] rfl rfl (by kernel_rfl) (fun _ _ _ h => h) (Or.inl ⟨by rfl, ?_⟩) hHeld ?_ ?_
  rotate_left
  · rintro w' ⟨s0, s1, s2⟩
    go_simp
    with_reducible rfl
  rotate_left
  · simp only [Act.put, List.setIfInBounds_toArray, List.set_cons_zero, List.set_cons_succ, i64_w, i32_w]
    rfl
  refine take_ (i := 9) (N := some 14) (v := ?_) (a' := ?_) #[false, true, true, true, true, false, true, true, true, true, false, false, false] rfl rfl (by kernel_rfl) (fun _ _ _ h => h) (Or.inl ⟨by rfl, ?_⟩) hHeld ?_ ?_
  rotate_left
  · rintro w' ⟨s0, s1, s2⟩
    go_simp
    with_reducible rfl
  rotate_left
  · simp only [Act.put, List.setIfInBounds_toArray, List.set_cons_zero, List.set_cons_succ, i64_w, i32_w]
    rfl
  refine one_ (i := 0) (N := some 5) #[true, true, true, true, true, false, true, true, true, true, false, false, false] rfl rfl (by kernel_rfl) (by decide) (fun K hK => ?_)
  refine value_ (w1 := ?_) (v := ?_) (by rfl) rfl ?_ ?_
  rotate_left 2
  · go_simp
    constructor
    · rfl
    · rfl
  refine hK.out _ _ ⟨pw_cell_below (below_alloc (Below.refl _ _) _) p4, pw_cell_below (below_alloc (Below.refl _ _) _) p2, pw_cell_below (below_alloc (Below.refl _ _) _) p3⟩ (fun hHeld => ?_)
  clear hK K
  refine norm_ (a' := ?_) ?_ ?_
  rotate_left
  · show Act.put _ (some 5) _ = _
    simp only [Act.put, List.setIfInBounds_toArray, List.set_cons_zero, List.set_cons_succ, i64_w, i32_w]
    rfl
  refine one_ (i := 5) (N := some 10) #[true, true, true, true, true, true, true, true, true, true, false, false, false] rfl rfl (by kernel_rfl) (by decide) (fun K hK => ?_)
  refine Kd.R_append_rows_step (Kd.int .u8) (w0 := w) w.heap.size (by rfl) (.tmp 5) (.tmp 9) 34 5 (.int .u8 0) 1 rfl Try.underlying34 infoU8 rfl (by decide) (by omega) (.slice (some ⟨wd.heap.size, 0, none⟩) 0 0) [] out _ _ _ (fun _ => True) (fun _ => False) rfl rfl HR1.out HCo.out (fun _ _ h => h) (fun _ h => h.elim) (fun _ _ => trivial) HB1.out HB1.out.size (by simp only [List.length_nil]; omega) ?_
  intro v3 w3 hR3 hB3 hg3 hat3
  rw [List.nil_append] at hR3
  obtain ⟨A3, c3, rfl⟩ := Kd.R_slice hR3
  have HR3 := Aside0.mk hR3
  have HB3 := Aside0.mk hB3
  have HE3 := Aside0.mk (HE.out.below hB3)
  clear hR3 hB3 hg3 hat3
  refine hK.out _ _ ⟨HE3.out.c4, HE3.out.c2, HE3.out.c3⟩ (fun hHeld => ?_)
  clear hK K
  refine norm_ (a' := ?_) ?_ ?_
  rotate_left
  · show Act.put _ (some 10) _ = _
    simp only [Act.put, List.setIfInBounds_toArray, List.set_cons_zero, List.set_cons_succ, i64_w, i32_w]
    rfl
  refine one_ (i := 10) (N := some 15) #[true, true, true, true, true, true, true, true, true, true, true, false, false] rfl rfl (by kernel_rfl) (by decide) (fun K hK => ?_)
  refine goes_ Try.func67 (by kernel_rfl) rfl #[.agg #[.int .u64 low, .int .u64 high]] (by rfl) rfl rfl (by simp only [List.map_toArray, List.map_cons, List.map_nil]; rfl) ?_
  with_reducible refine (iend_calls low high _ hl0 hlh hh).mono ?_
  rintro e w7 ⟨A7, c7, rfl, hR7, hB7⟩
  refine ⟨_, rfl, ?_⟩
  have HR7 := Aside0.mk (Kd.R_below HR3.out hB7)
  have HC7 := Aside0.mk (Kd.R_reads' hR7).2.2
  have HB7 := Aside0.mk (below_then HB3.out HB3.out.size hB7)
  have HE7 := Aside0.mk (HE.out.below HB7.out)
  clear hR7 hB7
  refine hK.out _ _ ⟨HE7.out.c4, HE7.out.c2, HE7.out.c3⟩ (fun hHeld => ?_)
  clear hK K
  refine norm_ (a' := ?_) ?_ ?_
  rotate_left
  · show Act.put _ (some 15) _ = _
    simp only [Act.put, List.setIfInBounds_toArray, List.set_cons_zero, List.set_cons_succ, i64_w, i32_w]
    rfl
  refine one_ (i := 11) (N := some 16) #[true, true, true, true, true, true, true, true, true, true, true, true, false] rfl rfl (by kernel_rfl) (by decide) (fun K hK => ?_)
  refine Kd.R_append_rows_step (Kd.int .u8) (w0 := w) w.heap.size (by rfl) (.tmp 10) (.tmp 15) 34 5 (.int .u8 0) 1 rfl Try.underlying34 infoU8 rfl (by decide) (by omega) (.slice A3 out.length c3) out (endOf low high) _ _ _ (fun _ => True) (fun _ => False) rfl rfl HR7.out HC7.out (fun _ _ h => h) (fun _ h => h.elim) (fun _ _ => trivial) HB7.out HB7.out.size (by omega) ?_
  intro v9 w9 hR9 hB9 hg9 hat9
  obtain ⟨A9, c9, rfl⟩ := Kd.R_slice hR9
  have HR9 := Aside0.mk hR9
  have HB9 := Aside0.mk hB9
  have HE9 := Aside0.mk (HE.out.below hB9)
  clear hR9 hB9 hg9 hat9
  refine hK.out _ _ ⟨HE9.out.c4, HE9.out.c2, HE9.out.c3⟩ (fun hHeld => ?_)
  clear hK K
  refine norm_ (a' := ?_) ?_ ?_
  rotate_left
  · show Act.put _ (some 16) _ = _
    simp only [Act.put, List.setIfInBounds_toArray, List.set_cons_zero, List.set_cons_succ, i64_w, i32_w]
    rfl
  refine pure_ (i := 12) (N := some 2) (v := ?_) (a' := ?_) #[true, true, true, true, true, true, true, true, true, true, true, true, true] rfl rfl (by kernel_rfl) (fun _ _ _ h => h) (Or.inl ⟨by rfl, ?_⟩) ?_ ?_
  rotate_left
  · intro w'
    go_simp
    with_reducible rfl
  rotate_left
  · simp only [Act.put, List.setIfInBounds_toArray, List.set_cons_zero, List.set_cons_succ, i64_w, i32_w]
    rfl
  refine done_ (by kernel_rfl) ?_
  go_wp2
  go_ret
  exact ⟨A9, c9, by first | rfl | (rw [List.length_append]; rfl) | simp, HR9.out, HB9.out⟩
theorem ref_end_calls (w : World) (S : Nat → Prop) (g : Nat) (s : ES) (hE : RefAt w S g s) (hok : s.ok) (hlen : s.out.length ≤ 1099511627880) :
    Calls Try.prog 40 #[.pointer (some ⟨g, 0, none⟩)] w (EndPost w s.end_) := by
  obtain ⟨A, c, vo, hR⟩ := hE
  exact ref_end_row w S g s.kind A c s.st s.low s.high vo s.out hR hok.l hok.lh hok.h hlen
theorem ref_put_calls (w : World) (S : Nat → Prop) (g : Nat) (s : ES) (i bit : Int) (hE : RefAt w S g s) (hok : s.ok) (hlen : s.out.length ≤ 1099511627776) :
    Calls Try.prog 65 #[.pointer (some ⟨g, 0, none⟩), .int .i64 i, .int .i64 bit] w fun e w' => e = .returned (.int .i64 (s.err i bit)) ∧ RefAt w' (fun k => (S k ∨ w.heap.size ≤ k) ∧ k < w'.heap.size) g (s.putI i bit) ∧ Mods w w' S := by
  obtain ⟨A, c, vo, hR⟩ := hE
  by_cases hg : s.good i bit = true
  · have e1 : s.err i bit = 0 := if_pos hg
    have e2 : s.putI i bit = s.put i.toNat bit := if_pos hg
    rw [e1, e2]
    simp only [ES.good, Bool.and_eq_true, Bool.or_eq_true, decide_eq_true_eq] at hg
    obtain ⟨⟨h0, h1⟩, hb⟩ := hg
    obtain ⟨j, rfl⟩ : ∃ j : Nat, i = (j : Int) := ⟨i.toNat, by omega⟩
    rw [Int.toNat_natCast]
    have hj : j < s.st.length := by omega
    obtain ⟨b, rfl, _⟩ := hR.cell hj
    have hc := ES.cut_ hok hj (bit := bit)
    have hI : PutInv s.out (cutL s.low (s.mid j) bit) (cutH s.high (s.mid j) bit) 4 (cutL s.low (s.mid j) bit) (cutH s.high (s.mid j) bit) s.out := ⟨hc.1, hc.2.1, hc.2.2, by rw [show (256 : Int) ^ 4 = 4294967296 from rfl]; omega, rfl, rfl, Nat.le_refl _⟩
    have key : Calls Try.prog 65 #[.pointer (some ⟨g, 0, none⟩), .int .i64 j, .int .i64 bit] w (RefPost w S g s.kind s.st s.low s.high (s.mid j) s.out j bit) := by
      rcases hb with rfl | rfl
      · exact ref_row0 w S g s.kind b c s.st s.low s.high (s.mid j) vo s.out j hR hj hok.m.2.1 (ES.at_ hok hj) hok.l hok.lh hok.h rfl hI hlen
      · exact ref_row1 w S g s.kind b c s.st s.low s.high (s.mid j) vo s.out j hR hj hok.m.2.1 (ES.at_ hok hj) hok.l hok.lh hok.h rfl hI hlen
    refine key.mono ?_
    rintro e w' ⟨he, ⟨l, h, out1, hE', ho, hn⟩, hk⟩
    refine ⟨he, ?_, hk⟩
    have hE2 : RefAt w' (fun k => S k ∨ w.heap.size ≤ k) g (s.put j bit) := by
      obtain ⟨A', c', vo', h'⟩ := hE'
      refine ⟨A', c', vo', ?_⟩
      have hn' : s.norm j bit = (out1.drop s.out.length, l, h) := by
        show normE 4 _ _ = _
        rw [ho, List.drop_left, ← hn]
      simp only [ES.put]
      rw [show (s.norm j bit).2.1 = l by rw [hn'], show (s.norm j bit).2.2 = h by rw [hn'], show s.out ++ (s.norm j bit).1 = out1 from ho.symm]
      exact h'
    exact hE2.bound
  · have e1 : s.err i bit = 2 := if_neg hg
    have e2 : s.putI i bit = s := if_neg hg
    rw [e1, e2]
    have hbad : i < 0 ∨ (s.st.length : Int) ≤ i ∨ (bit ≠ 0 ∧ bit ≠ 1) := by
      simp only [ES.good, Bool.and_eq_true, Bool.or_eq_true, decide_eq_true_eq] at hg
      omega
    refine (ref_put_arg w g A s.st.length c i bit hR.c1 hbad).mono ?_
    rintro e w' ⟨rfl, rfl⟩
    exact ⟨rfl, ⟨A, c, vo, hR.bound.mono (fun k hk => ⟨.inl hk.1, hk.2⟩)⟩, Mods.refl _ _⟩
/-- What a Model answers: a copy. -/
def ModelPost (w : World) (kind : Int) (st : List Int) (e : Ending) (w' : World) : Prop := ∃ A c, e = .returned (.agg #[.int .i64 kind, .slice A st.length c]) ∧ Kd.R (Kd.int .i64) 3 w' w.heap.size (fun _ => True) (.slice A st.length c) st ∧ Below w.heap.size w w'
set_option maxRecDepth 100000 in
theorem model_calls (w : World) (S : Nat → Prop) (g : Nat) (s : ES) (hE : EncAt w S g s) (hok : s.ok) :
    Calls Try.prog 42 #[.pointer (some ⟨g, 0, none⟩)] w (ModelPost w s.kind s.st) := by
  obtain ⟨A, c, vo, hR⟩ := hE
  have HE := Aside0.mk (hR.below (below_alloc (Below.refl _ _) (.cells #[.int .i64 0, .slice none 0 0] 45)))
  have HB := Aside0.mk (below_alloc (Below.refl w.heap.size w) (.cells #[.int .i64 0, .slice none 0 0] 45))
  have HZ := Aside0.mk (heap_new w (.cells #[.int .i64 0, .slice none 0 0] 45))
  have hu := Try.underlying45
  have h2 := HE.out.real
  have k0 := HE.out.iv.k
  have k1 := HE.out.iv.s
  have hl := hok.m.2.1
  obtain ⟨hn, hc, hC⟩ := Kd.R_reads' HE.out.s
  have HC := Aside0.mk hC
  obtain ⟨b2, hb2⟩ : ∃ b2, w.heap.size = b2 := ⟨_, rfl⟩
  have HSZ := Aside0.mk hb2
  rw [hb2] at HZ
  clear hR hn hC
  go_enter Try.func42, Try.ntmps42
  go_wp2_with (first
    | (go_at_call 66; refine (enc_none _ _ _ h2).mono ?_; rintro e w' ⟨rfl, rfl⟩)
    | (go_at_call 68; refine (clone_calls A c s.kind s.st _ HC.out hc (by omega)).mono ?_; rintro e w4 ⟨A4, c4, rfl, hR4, hB4⟩; have HR4 := Aside0.mk (Kd.R_lower hR4 HB.out.size); have HB4 := Aside0.mk (below_then HB.out HB.out.size hB4); have HZ4 := Aside0.mk (blk_below HZ.out hB4); have z0 : w4.cell? ⟨b2, 0, none⟩ = some (.int .i64 0) := (blk_cell HZ4.out 0).trans rfl; have z1 : w4.cell? ⟨b2, 1, none⟩ = some (.slice none 0 0) := (blk_cell HZ4.out 1).trans rfl; have zf0 := blk_frozen HZ4.out 0; have zf1 := blk_frozen HZ4.out 1; clear hR4 hB4))
  have hz2 : (w4.setCell ⟨b2, 0, none⟩ (.int .i64 s.kind)).heap[b2]? = some (.cells #[.int .i64 s.kind, .slice none 0 0] 45 (0, 0)) := blk_put (cs := #[.int .i64 0, .slice none 0 0]) HZ4.out 0 _ rfl
  refine bodyPost_ret (results_cell_row rfl _ _ b2 45 #[.int .i64 s.kind, .slice A4 s.st.length c4] (0, 0) _ rfl (blk_put (cs := #[.int .i64 s.kind, .slice none 0 0]) hz2 1 _ rfl) Try.underlying45 rfl (by kernel_rfl)) rfl ?_
  have hwb : w.heap.size ≤ b2 := by rw [HSZ.out]; exact Nat.le_refl _
  exact ⟨A4, c4, rfl, Kd.R_set (Kd.R_set HR4.out HZ4.out (by decide) _ _) hz2 (by decide) _ _, (HB4.out.setCell hwb _).setCell hwb _⟩
set_option maxRecDepth 100000 in
theorem ref_model_calls (w : World) (S : Nat → Prop) (g : Nat) (s : ES) (hE : RefAt w S g s) (hok : s.ok) :
    Calls Try.prog 43 #[.pointer (some ⟨g, 0, none⟩)] w (ModelPost w s.kind s.st) := by
  obtain ⟨A, c, vo, hR⟩ := hE
  have HE := Aside0.mk (hR.below (below_alloc (Below.refl _ _) (.cells #[.int .i64 0, .slice none 0 0] 45)))
  have HB := Aside0.mk (below_alloc (Below.refl w.heap.size w) (.cells #[.int .i64 0, .slice none 0 0] 45))
  have HZ := Aside0.mk (heap_new w (.cells #[.int .i64 0, .slice none 0 0] 45))
  have hu := Try.underlying45
  have k0 := HE.out.c0
  have k1 := HE.out.c1
  have hl := hok.m.2.1
  obtain ⟨hn, hc, hC⟩ := Kd.R_reads' HE.out.s
  have HC := Aside0.mk hC
  obtain ⟨b2, hb2⟩ : ∃ b2, w.heap.size = b2 := ⟨_, rfl⟩
  have HSZ := Aside0.mk hb2
  rw [hb2] at HZ
  clear hR hn hC
  go_enter Try.func43, Try.ntmps43
  go_wp2_with (go_at_call 53; refine (copy_calls A c s.kind s.st _ HC.out hc (by omega)).mono ?_; rintro e w4 ⟨A4, c4, rfl, hR4, hB4⟩; have HR4 := Aside0.mk (Kd.R_lower hR4 HB.out.size); have HB4 := Aside0.mk (below_then HB.out HB.out.size hB4); have HZ4 := Aside0.mk (blk_below HZ.out hB4); have z0 : w4.cell? ⟨b2, 0, none⟩ = some (.int .i64 0) := (blk_cell HZ4.out 0).trans rfl; have z1 : w4.cell? ⟨b2, 1, none⟩ = some (.slice none 0 0) := (blk_cell HZ4.out 1).trans rfl; have zf0 := blk_frozen HZ4.out 0; have zf1 := blk_frozen HZ4.out 1; clear hR4 hB4)
  have hz2 : (w4.setCell ⟨b2, 0, none⟩ (.int .i64 s.kind)).heap[b2]? = some (.cells #[.int .i64 s.kind, .slice none 0 0] 45 (0, 0)) := blk_put (cs := #[.int .i64 0, .slice none 0 0]) HZ4.out 0 _ rfl
  refine bodyPost_ret (results_cell_row rfl _ _ b2 45 #[.int .i64 s.kind, .slice A4 s.st.length c4] (0, 0) _ rfl (blk_put (cs := #[.int .i64 s.kind, .slice none 0 0]) hz2 1 _ rfl) Try.underlying45 rfl (by kernel_rfl)) rfl ?_
  have hwb : w.heap.size ≤ b2 := by rw [HSZ.out]; exact Nat.le_refl _
  exact ⟨A4, c4, rfl, Kd.R_set (Kd.R_set HR4.out HZ4.out (by decide) _ _) hz2 (by decide) _ _, (HB4.out.setCell hwb _).setCell hwb _⟩
set_option maxRecDepth 100000 in
theorem ref_new_enc (A : Option Addr) (c : Nat) (kind : Int) (st : List Int) (w : World) (hC : Kd.C (Kd.int .i64) w A st.length st) (hc : st.length ≤ c) (hm : okModel kind st) :
    Calls Try.prog 36 #[.agg #[.int .i64 kind, .slice A st.length c]] w fun e w' => ∃ g, e = .returned (.tuple #[.pointer (some ⟨g, 0, none⟩), .int .i64 0]) ∧ RefAt w' (Since w.heap.size w') g (newES kind st) ∧ Below w.heap.size w w' := by
  have HC := Aside0.mk hC
  have hv := ref_valid_calls A c kind st
  rw [decide_eq_true hm] at hv
  have HV := Aside0.mk hv
  have hl := hm.2.1
  have hu := Try.underlying45
  clear hC hv hm
  have hb0 := Aside0.mk (below_alloc (Below.refl w.heap.size w) (.cells #[.int .i64 kind, .slice A st.length c] 45))
  have hq0 : Aside0 ((w.alloc (.cells #[.int .i64 kind, .slice A st.length c] 45)).heap[w.heap.size]? = some (.cells #[.int .i64 kind, .slice A st.length c] 45 (0, 0))) := ⟨heap_new _ _⟩
  go_enter Try.func36, Try.ntmps36
  go_wp2_with (first
    | (go_at_call 52; refine (HV.out _ (Kd.C_below HC.out hb0.out) hc).mono ?_; rintro e w1 ⟨rfl, hB⟩; have HB := Aside0.mk (below_then hb0.out hb0.out.size hB); have hq1 : Aside0 (w1.heap[w.heap.size]? = some (.cells #[.int .i64 kind, .slice A st.length c] 45 (0, 0))) := ⟨(hB.block _ (blk_lt hq0.out)).trans hq0.out⟩; have k0 : w1.cell? ⟨w.heap.size, 0, none⟩ = some (.int .i64 kind) := (blk_cell hq1.out 0).trans rfl; have k1 : w1.cell? ⟨w.heap.size, 1, none⟩ = some (.slice A st.length c) := (blk_cell hq1.out 1).trans rfl; clear hB)
    | (go_at_call 53; refine (copy_calls A c kind st _ (Kd.C_below HC.out HB.out) hc (by omega)).mono ?_; rintro e w2 ⟨A2, c2, rfl, hR, hB⟩; have HB2 := Aside0.mk (below_then HB.out HB.out.size hB); have HR := Aside0.mk (Kd.R_lower hR HB.out.size); clear hR hB)
    | (go_at_call 54; refine (incunableref02_Whole.calls 0 4294967295 _ rfl).mono ?_; rintro e w3 ⟨rfl, hB⟩; have HB3 := Aside0.mk (below_then HB2.out HB2.out.size hB); have HR3 := Aside0.mk (Kd.R_below HR.out hB); clear hB))
  go_ret2
  refine ⟨w3.heap.size, rfl, ⟨A2, c2, .slice none 0 0, heap_new w3 (.cells (ref5 kind (.slice A2 st.length c2) 0 4294967295 (.slice none 0 0)) 115), ?_, Kd.R_nil _ _ _ _ _, ⟨HB3.out.size, by simp⟩⟩, below_alloc HB3.out _⟩
  exact Kd.R_lower (Kd.R_mono (Kd.R_alloc (Kd.R_bound HR3.out) _) (fun k hk => ⟨hk.2.1, by have := hk.2.2.1; simp; omega⟩)) (Nat.zero_le _)
end Go.Proofs.Ytlnhahnnjbfjdaa.RefEnd
namespace Go.Proofs.Ytlnhahnnjbfjdaa.Nre
open Go Go.RowKit Go.Proofs.YtlnhahnnjbfjdaaW.PrintWords Go.Proofs.YtlnhahnnjbfjdaaW.PrintLast Go.Proofs.YtlnhahnnjbfjdaaW.PrintMore Go.Proofs.Ytlnhahnnjbfjdaa.U Go.Proofs.Ytlnhahnnjbfjdaa.Aid Go.Proofs.Ytlnhahnnjbfjdaa.HandAid Go.Proofs.Ytlnhahnnjbfjdaa.Cod1 Go.Proofs.Ytlnhahnnjbfjdaa.Cod2 Go.Proofs.Ytlnhahnnjbfjdaa.Cod3 Go.Proofs.Ytlnhahnnjbfjdaa.Mod Go.Proofs.Ytlnhahnnjbfjdaa.NewRef Go.Proofs.Ytlnhahnnjbfjdaa.Enc Go.Proofs.Ytlnhahnnjbfjdaa.Mods Go.Proofs.Ytlnhahnnjbfjdaa.EncAt Go.Proofs.Ytlnhahnnjbfjdaa.Put Go.Proofs.Ytlnhahnnjbfjdaa.End Go.Proofs.Ytlnhahnnjbfjdaa.Snc Go.Proofs.Ytlnhahnnjbfjdaa.RefAt Go.Proofs.Ytlnhahnnjbfjdaa.RefPut Go.Proofs.Ytlnhahnnjbfjdaa.RefEnd Go.Proofs.Ytlnhahnnjbfjdaa.Num Go.Proofs.Ytlnhahnnjbfjdaa.Evs Go.Proofs.Ytlnhahnnjbfjdaa.RefEvs Go.Proofs.Ytlnhahnnjbfjdaa.Pse Go.Proofs.Ytlnhahnnjbfjdaa.Npu Go.Proofs.Ytlnhahnnjbfjdaa.Nen
instance : EnL RefAt := ⟨fun h hk hne => RefAt.kept h hk hne, fun h hb => RefAt.below h hb, fun h hs => RefAt.mono h hs⟩
theorem _root_.Go.Proofs.Ytlnhahnnjbfjdaa.Npu.PW.rput {w W : World} {S : Nat → Prop} {g : Nat} {s : ES} (H : PW RefAt w S g s W) (hlen : s.out.length ≤ 1099511627776) (i bit : Int) :
    Calls Try.prog 65 #[.pointer (some ⟨g, 0, none⟩), .int .i64 i, .int .i64 bit] W fun e W' => e = .returned (.int .i64 (s.err i bit)) ∧ PW RefAt w S g (s.putI i bit) W' := by
  refine (ref_put_calls W _ g s i bit H.e H.ok hlen).mono ?_
  rintro e W' ⟨he, hE, hM⟩
  exact ⟨he, H.next hE hM (ES.putI_ok H.ok _ _)⟩
theorem ev_at {W : World} {ad : Addr} {l : List S87} (hC : Kd.C k87 W (some ad) l.length l) (j : Nat) (hj : j < l.length) (x : S87) (hx : rd_T87 l (j : Int) = x) :
    W.cell? (ad.add (j * 2)) = some (.int .i64 x.f0) ∧ W.cell? ⟨(ad.add (j * 2)).block, (ad.add (j * 2)).off + 1, none⟩ = some (.int .i64 x.f1) := by
  obtain ⟨ad', hA, x0, x1⟩ := at_T87 hC (j : Int) (by omega) (by omega)
  obtain rfl := Option.some.inj hA
  rw [Int.toNat_natCast, hx] at x0 x1
  exact ⟨x0, x1⟩
theorem take_ev {l : List S87} {j : Nat} (h : j < l.length) (x : S87) (hx : rd_T87 l (j : Int) = x) : l.take (j + 1) = l.take j ++ [x] := by
  have e : l[j] = x := by rw [← hx]; simp [rd_T87, List.getD_eq_getElem?_getD, List.getElem?_eq_getElem h]
  rw [List.take_succ_eq_append_getElem h, e]
end Go.Proofs.Ytlnhahnnjbfjdaa.Nre
namespace Go.Proofs.Ytlnhahnnjbfjdaa.Ned
open Go Go.RowKit Go.Proofs.YtlnhahnnjbfjdaaW.PrintWords Go.Proofs.YtlnhahnnjbfjdaaW.PrintLast Go.Proofs.YtlnhahnnjbfjdaaW.PrintMore Go.Proofs.Ytlnhahnnjbfjdaa.U Go.Proofs.Ytlnhahnnjbfjdaa.Aid Go.Proofs.Ytlnhahnnjbfjdaa.HandAid Go.Proofs.Ytlnhahnnjbfjdaa.Cod1 Go.Proofs.Ytlnhahnnjbfjdaa.Cod2 Go.Proofs.Ytlnhahnnjbfjdaa.Cod3 Go.Proofs.Ytlnhahnnjbfjdaa.Mod Go.Proofs.Ytlnhahnnjbfjdaa.Enc Go.Proofs.Ytlnhahnnjbfjdaa.Mods Go.Proofs.Ytlnhahnnjbfjdaa.EncAt Go.Proofs.Ytlnhahnnjbfjdaa.Put Go.Proofs.Ytlnhahnnjbfjdaa.End Go.Proofs.Ytlnhahnnjbfjdaa.Snc Go.Proofs.Ytlnhahnnjbfjdaa.Num Go.Proofs.Ytlnhahnnjbfjdaa.Evs Go.Proofs.Ytlnhahnnjbfjdaa.RefEvs Go.Proofs.Ytlnhahnnjbfjdaa.Pse Go.Proofs.Ytlnhahnnjbfjdaa.Npu Go.Proofs.Ytlnhahnnjbfjdaa.Nen Go.Proofs.Ytlnhahnnjbfjdaa.Dec Go.Proofs.Ytlnhahnnjbfjdaa.Get Go.Proofs.Ytlnhahnnjbfjdaa.DecNew Go.Proofs.Ytlnhahnnjbfjdaa.Bkp Go.Proofs.Ytlnhahnnjbfjdaa.Ngt Go.Proofs.Ytlnhahnnjbfjdaa.Nfo Go.Proofs.Ytlnhahnnjbfjdaa.Ndc Go.Proofs.Ytlnhahnnjbfjdaa.Nre
theorem same_n0 (l : List S23) (hn : l.length ≤ 1000000) : ∀ (r i : Nat), i + r = l.length → Ev (fun k => incunableref03_Same.l0 k l l i) true
  | 0, i, h => by
    refine ev_succ ?_
    unfold incunableref03_Same.l0
    exact ev_neg (by omega) (Ev.now _)
  | r + 1, i, h => by
    refine ev_succ ?_
    unfold incunableref03_Same.l0
    refine ev_pos (by omega) (ev_pos (by omega) (ev_pos (by omega) (ev_neg (by simp) ?_)))
    rw [show wrap64 ((i : Int) + 1) = ((i + 1 : Nat) : Int) by rw [wrap_id] <;> omega]
    exact same_n0 l hn r (i + 1) (by omega)
theorem same_n (l : List S23) (hn : l.length ≤ 1000000) : Ev (fun k => incunableref03_Same.f k l l) true := by
  unfold incunableref03_Same.f
  exact ev_pos rfl (same_n0 l hn l.length 0 (by omega))
theorem same_calls (l : List S23) (hn : l.length ≤ 1000000) (A : Option Addr) (c : Nat) (A2 : Option Addr) (c2 : Nat) (w : World) (h1 : Kd.C k23 w A l.length l) (h2 : l.length ≤ c) (h3 : Kd.C k23 w A2 l.length l) (h4 : l.length ≤ c2) :
    Calls Try.prog 20 #[.slice A l.length c, .slice A2 l.length c2] w fun e w' => e = .returned (.bool true) ∧ Below w.heap.size w w' := by
  obtain ⟨K, hK⟩ := same_n l hn
  refine (incunableref03_Same.calls K A c l A2 c2 l true w h1 h2 h3 h4 (hK K (Nat.le_refl _))).mono ?_
  rintro e W ⟨he, hd⟩
  exact ⟨he, hd.below⟩
theorem norm_bytes : ∀ (d : Nat) (l h : Int), 0 ≤ l → l ≤ h → h ≤ 4294967295 → Bytes (normE d l h).1
  | 0, _, _, _, _, _ => fun x hx => absurd hx List.not_mem_nil
  | d + 1, l, h, h0, h1, h2 => by
    unfold normE
    split
    · intro x hx
      rcases List.mem_cons.1 hx with rfl | hx
      · omega
      · exact norm_bytes d _ _ (by omega) (by omega) (by omega) x hx
    · exact fun x hx => absurd hx List.not_mem_nil
theorem putsE_bytes : ∀ (l : List S87) (s : ES), s.ok → Bytes s.out → Bytes (putsE s l).1.out
  | [], s, _, h => h
  | x :: l, s, hok, h => by
    unfold putsE
    split
    · refine putsE_bytes l _ (ES.putI_ok hok _ _) ?_
      unfold ES.putI
      split
      · rename_i hg
        simp only [ES.good, Bool.and_eq_true, Bool.or_eq_true, decide_eq_true_eq] at hg
        have hc := ES.cut_ hok (i := x.f0.toNat) (by omega) (bit := x.f1)
        intro y hy
        rcases List.mem_append.1 hy with hy | hy
        · exact h y hy
        · exact norm_bytes 4 _ _ hc.1 hc.2.1 hc.2.2 y hy
      · exact h
    · exact h
theorem endOf_bytes (low high : Int) (h0 : 0 ≤ high) (h1 : high ≤ 4294967295) : Bytes (endOf low high) := by
  intro x hx
  have hx := List.mem_of_mem_take hx
  simp only [hiBytes, List.mem_cons, List.not_mem_nil, or_false] at hx
  rcases hx with rfl | rfl | rfl | rfl <;> omega
theorem endOf_len (low high : Int) : (endOf low high).length ≤ 4 := Nat.le_trans (List.length_take_le' _ _) (Nat.le_refl _)
/-- A code of events is of bytes, and not long. -/
theorem code_bytes (s : ES) (l : List S87) (hok : s.ok) (hb : Bytes s.out) : Bytes (putsE s l).1.end_ ∧ (putsE s l).1.end_.length ≤ s.out.length + 4 * l.length + 4 := by
  have h := putsE_ok l s hok
  have e : (putsE s l).1.end_ = (putsE s l).1.out ++ endOf (putsE s l).1.low (putsE s l).1.high := rfl
  rw [e]
  constructor
  · intro y hy
    rcases List.mem_append.1 hy with hy | hy
    · exact putsE_bytes l s hok hb y hy
    · exact endOf_bytes _ _ (by have := h.l; have := h.lh; omega) h.h y hy
  · rw [List.length_append]
    have := putsE_out l s
    have := endOf_len (putsE s l).1.low (putsE s l).1.high
    omega
end Go.Proofs.Ytlnhahnnjbfjdaa.Ned
namespace Go.Proofs.Ytlnhahnnjbfjdaa.Pid
open Go Go.RowKit Go.Proofs.YtlnhahnnjbfjdaaW.PrintWords Go.Proofs.YtlnhahnnjbfjdaaW.PrintLast Go.Proofs.YtlnhahnnjbfjdaaW.PrintMore Go.Proofs.Ytlnhahnnjbfjdaa.U Go.Proofs.Ytlnhahnnjbfjdaa.Aid Go.Proofs.Ytlnhahnnjbfjdaa.HandAid Go.Proofs.Ytlnhahnnjbfjdaa.Cod1 Go.Proofs.Ytlnhahnnjbfjdaa.Cod2 Go.Proofs.Ytlnhahnnjbfjdaa.Cod3 Go.Proofs.Ytlnhahnnjbfjdaa.Mod Go.Proofs.Ytlnhahnnjbfjdaa.Enc Go.Proofs.Ytlnhahnnjbfjdaa.Mods Go.Proofs.Ytlnhahnnjbfjdaa.EncAt Go.Proofs.Ytlnhahnnjbfjdaa.Put Go.Proofs.Ytlnhahnnjbfjdaa.End Go.Proofs.Ytlnhahnnjbfjdaa.Snc Go.Proofs.Ytlnhahnnjbfjdaa.Num Go.Proofs.Ytlnhahnnjbfjdaa.Evs Go.Proofs.Ytlnhahnnjbfjdaa.RefEvs Go.Proofs.Ytlnhahnnjbfjdaa.Pse Go.Proofs.Ytlnhahnnjbfjdaa.Npu Go.Proofs.Ytlnhahnnjbfjdaa.Nen Go.Proofs.Ytlnhahnnjbfjdaa.Dec Go.Proofs.Ytlnhahnnjbfjdaa.Get Go.Proofs.Ytlnhahnnjbfjdaa.DecNew Go.Proofs.Ytlnhahnnjbfjdaa.Bkp Go.Proofs.Ytlnhahnnjbfjdaa.Ngt Go.Proofs.Ytlnhahnnjbfjdaa.Nrw Go.Proofs.Ytlnhahnnjbfjdaa.Gid Go.Proofs.Ytlnhahnnjbfjdaa.Nfo Go.Proofs.Ytlnhahnnjbfjdaa.Ned
/-- The events of an id's lowest bits, behind those that p has. -/
def idE (base id : Int) : Nat → Int → List S87
  | 0, _ => []
  | i + 1, p => ⟨base + p - 1, id / 2 ^ i % 2⟩ :: idE base id i (2 * p + id / 2 ^ i % 2)
theorem idE_len (base id : Int) : ∀ (r : Nat) (p : Int), (idE base id r p).length = r
  | 0, _ => rfl
  | r + 1, p => by
    unfold idE
    rw [List.length_cons, idE_len]
theorem idE_good (base id M : Int) (N : Nat) (h0 : 0 ≤ base) (hN : 2 * base + M - 2 ≤ 2 * (N : Int)) : ∀ (r : Nat) (p : Int), 1 ≤ p → (p + 1) * 2 ^ r ≤ M → (idE base id r p).all (goodL N) = true
  | 0, _, _, _ => rfl
  | r + 1, p, h1, hM => by
    unfold idE
    have hp : (0 : Int) < 2 ^ r := Int.pow_pos (by decide)
    have e : (p + 1) * 2 ^ (r + 1) = (2 * p + 2) * 2 ^ r := by rw [Int.pow_succ, Int.mul_comm (2 ^ r) 2, ← Int.mul_assoc]; congr 1; omega
    rw [e] at hM
    have hb : 0 ≤ id / 2 ^ r % 2 ∧ id / 2 ^ r % 2 < 2 := by omega
    have h3 : (2 * p + 2) * 1 ≤ (2 * p + 2) * 2 ^ r := Int.mul_le_mul_of_nonneg_left (by omega) (by omega)
    have h4 : (2 * p + id / 2 ^ r % 2 + 1) * 2 ^ r ≤ (2 * p + 2) * 2 ^ r := Int.mul_le_mul_of_nonneg_right (by omega) (by omega)
    rw [List.all_cons, idE_good base id M N h0 hN r _ (by omega) (by omega), Bool.and_true]
    unfold goodL
    simp only [Bool.and_eq_true, Bool.or_eq_true, decide_eq_true_eq]
    omega
theorem mod_step (id : Int) (r : Nat) : id % 2 ^ (r + 1) = id / 2 ^ r % 2 * 2 ^ r + id % 2 ^ r := by
  have hp : (0 : Int) < 2 ^ r := Int.pow_pos (by decide)
  have h1 := Int.mul_ediv_add_emod id (2 ^ r)
  have h2 : 0 ≤ id % 2 ^ r := Int.emod_nonneg _ (by omega)
  have h3 : id % 2 ^ r < 2 ^ r := Int.emod_lt_of_pos _ hp
  have h4 : id = 2 ^ (r + 1) * (id / 2 ^ r / 2) + (id / 2 ^ r % 2 * 2 ^ r + id % 2 ^ r) := by
    have h5 : id / 2 ^ r = 2 * (id / 2 ^ r / 2) + id / 2 ^ r % 2 := by omega
    have h6 : 2 ^ r * (id / 2 ^ r) = 2 ^ (r + 1) * (id / 2 ^ r / 2) + id / 2 ^ r % 2 * 2 ^ r := by
      conv => lhs; rw [h5]
      rw [Int.mul_add, Int.pow_succ, Int.mul_assoc, Int.mul_comm (2 ^ r) (id / 2 ^ r % 2)]
    omega
  have h7 : 0 ≤ id / 2 ^ r % 2 * 2 ^ r + id % 2 ^ r ∧ id / 2 ^ r % 2 * 2 ^ r + id % 2 ^ r < 2 ^ (r + 1) := by
    rw [Int.pow_succ]
    have h8 : id / 2 ^ r % 2 = 0 ∨ id / 2 ^ r % 2 = 1 := by omega
    rcases h8 with h8 | h8 <;> rw [h8] <;> omega
  conv => lhs; rw [h4]
  rw [Int.add_comm, Int.add_mul_emod_self_left]
  exact Int.emod_eq_of_lt h7.1 h7.2
theorem idL_fol (base id : Int) : ∀ (r : Nat) (p : Int) (d e : DS), Fol d (idE base id r p) e → idL base r d p = (e, p * 2 ^ r + id % 2 ^ r, 0)
  | 0, p, d, e, h => by
    obtain rfl : d = e := h
    show (d, p, 0) = _
    rw [Int.pow_zero, Int.mul_one, Int.emod_one, Int.add_zero]
  | r + 1, p, d, e, h => by
    unfold idE at h
    obtain ⟨c, hg, h⟩ := h
    simp only at hg
    unfold idL
    rw [hg]
    simp only [if_true]
    rw [idL_fol base id r _ c e h, mod_step, Int.pow_succ]
    congr 2
    rw [Int.add_mul, Int.mul_comm (2 ^ r) 2, ← Int.mul_assoc, Int.mul_comm 2 p, Int.add_assoc]
/-- An id whose events a decoder tells is the id that is told. -/
theorem idD_fol (base id k : Int) (h0 : 0 ≤ id) (h1 : id < 2 ^ k.toNat) (d e : DS) (h : Fol d (idE base id k.toNat 1) e) : idD base k d = (e, id, 0) := by
  have h2 := idL_fol base id k.toNat 1 d e h
  unfold idD
  rw [h2]
  simp only [if_true]
  rw [Int.emod_eq_of_lt h0 h1, Int.one_mul]
  congr 2
  omega
/-- Whether a deed is done, of a model of N contexts. -/
def okN (N base : Int) (nn : Bool) (n : Int) : Prop := okNum nn n = true ∧ hasRoom N base 48
instance (N base : Int) (nn : Bool) (n : Int) : Decidable (okN N base nn n) := by unfold okN; infer_instance
def okI (N base k id : Int) : Prop := (0 ≤ k ∧ k ≤ 10) ∧ (0 ≤ id ∧ id < 2 ^ k.toNat) ∧ hasRoom N base (2 ^ k.toNat - 1)
instance (N base k id : Int) : Decidable (okI N base k id) := by unfold okI; infer_instance
/-- Put's answer, and PutId's. -/
def putN (base : Int) (nn : Bool) (n : Int) (s : ES) : ES × Int := if okN s.st.length base nn n then ((putsE s (evAll base nn n)).1, 0) else (s, 2)
def putI (base k id : Int) (s : ES) : ES × Int := if okI s.st.length base k id then ((putsE s (idE base id k.toNat 1)).1, 0) else (s, 2)
theorem putN_good {base : Int} {nn : Bool} {n : Int} {s : ES} (h : okN s.st.length base nn n) : (evAll base nn n).all (goodL s.st.length) = true := by
  have h2 := h.2
  unfold hasRoom at h2
  exact ev_all_good base nn n h.1 s.st.length h2.1 (by omega)
theorem putI_goodE {base k id : Int} {s : ES} (h : okI s.st.length base k id) : (idE base id k.toNat 1).all (goodL s.st.length) = true := by
  have h2 := h.2.2
  unfold hasRoom at h2
  exact idE_good base id (2 * 2 ^ k.toNat) s.st.length h2.1 (by omega) k.toNat 1 (by decide) (Int.le_refl _)
theorem putN_len (base : Int) (nn : Bool) (n : Int) (s : ES) : (putN base nn n s).1.st.length = s.st.length ∧ (putN base nn n s).1.out.length ≤ s.out.length + 240 := by
  unfold putN
  split
  · rename_i h
    have h1 := putsE_out (evAll base nn n) s
    have h2 := evAll_len base nn n h.1
    exact ⟨putsE_len _ _, by show (putsE s (evAll base nn n)).1.out.length ≤ _; omega⟩
  · exact ⟨rfl, Nat.le_add_right _ _⟩
theorem putI_len (base k id : Int) (s : ES) : (putI base k id s).1.st.length = s.st.length ∧ (putI base k id s).1.out.length ≤ s.out.length + 240 := by
  unfold putI
  split
  · rename_i h
    have h1 := putsE_out (idE base id k.toNat 1) s
    rw [idE_len] at h1
    have h2 := h.1.2
    exact ⟨putsE_len _ _, by show (putsE s (idE base id k.toNat 1)).1.out.length ≤ _; omega⟩
  · exact ⟨rfl, Nat.le_add_right _ _⟩
/-- A deed: its events, whether it is done. -/
def evD (x : S55) : List S87 := if x.f3 = true then idE x.f0 x.f2 x.f1.toNat 1 else evAll x.f0 x.f4.f0 x.f4.f1
def okD (N : Int) (x : S55) : Prop := if x.f3 = true then okI N x.f0 x.f1 x.f2 else okN N x.f0 x.f4.f0 x.f4.f1
def evDs (l : List S55) : List S87 := l.flatMap evD
theorem evDs_app (l : List S55) (x : S55) : evDs (l ++ [x]) = evDs l ++ evD x := by
  unfold evDs
  rw [List.flatMap_append, List.flatMap_cons, List.flatMap_nil, List.append_nil]
theorem evD_good {N : Nat} {x : S55} (h : okD N x) (s : ES) (hs : s.st.length = N) : (putsE s (evD x)).2 = 0 := by
  refine putsE_good _ _ ?_
  unfold okD at h
  unfold evD
  subst hs
  split
  · rename_i h1
    rw [if_pos h1] at h
    exact putI_goodE h
  · rename_i h1
    rw [if_neg h1] at h
    exact putN_good h
/-- What a decoder has for a deed whose events it tells. -/
theorem numR_fol {N : Nat} {base : Int} {nn : Bool} {n : Int} {d e : DS} (h : okN N base nn n) (hd : d.st.length = N) (hf : Fol d (evAll base nn n) e) : numR base d = (e, (nn, n), 0) := by
  unfold numR
  subst hd
  rw [if_pos h.2]
  exact numD_fol base nn n h.1 d e hf
theorem idR_fol {N : Nat} {base k id : Int} {d e : DS} (h : okI N base k id) (hd : d.st.length = N) (hf : Fol d (idE base id k.toNat 1) e) : idR base k d = (e, id, 0) := by
  unfold idR
  subst hd
  rw [if_pos h.1, if_pos h.2.2]
  exact idD_fol base id k h.2.1.1 h.2.1.2 d e hf
theorem fol_len_st : ∀ {l : List S87} {d e : DS}, Fol d l e → e.st.length = d.st.length
  | [], d, e, h => by obtain rfl : d = e := h; rfl
  | x :: l, d, e, h => by
    obtain ⟨c, hg, h⟩ := h
    rw [fol_len_st h]
    have := getI_len d x.f0
    rw [hg] at this
    exact this
end Go.Proofs.Ytlnhahnnjbfjdaa.Pid
