import Derived.Test.YtpnmedmghncpiaaAid
import Derived.Test.YtpnmedmghncpiaaHandAid
import Derived.Test.YtpnmedmghncpiaaCod1
import Derived.Test.YtpnmedmghncpiaaCod2
import Derived.Test.YtpnmedmghncpiaaCod3
import Derived.Test.YtpnmedmghncpiaaMod
import Derived.Test.YtpnmedmghncpiaaEnc
import Derived.Test.YtpnmedmghncpiaaMods
import Derived.Test.YtpnmedmghncpiaaEncAt
import Derived.Test.YtpnmedmghncpiaaPut
import Derived.Test.YtpnmedmghncpiaaEnd
import Derived.Test.YtpnmedmghncpiaaEncode
import Derived.Test.YtpnmedmghncpiaaDec
-- needs: Aid HandAid Cod1 Cod2 Cod3 Mod Enc Mods EncAt Put End Encode Dec
namespace Go.Proofs.Ytpnmedmghncpiaa.Get
open Go Go.RowKit Go.Proofs.YtpnmedmghncpiaaW.PrintWords Go.Proofs.YtpnmedmghncpiaaW.PrintLast Go.Proofs.YtpnmedmghncpiaaW.PrintMore Go.Proofs.Ytpnmedmghncpiaa.Aid Go.Proofs.Ytpnmedmghncpiaa.HandAid Go.Proofs.Ytpnmedmghncpiaa.Cod1 Go.Proofs.Ytpnmedmghncpiaa.Cod2 Go.Proofs.Ytpnmedmghncpiaa.Cod3 Go.Proofs.Ytpnmedmghncpiaa.Mod Go.Proofs.Ytpnmedmghncpiaa.Enc Go.Proofs.Ytpnmedmghncpiaa.Mods Go.Proofs.Ytpnmedmghncpiaa.EncAt Go.Proofs.Ytpnmedmghncpiaa.Put Go.Proofs.Ytpnmedmghncpiaa.End Go.Proofs.Ytpnmedmghncpiaa.Encode Go.Proofs.Ytpnmedmghncpiaa.Dec
set_option linter.unusedVariables false
set_option linter.unusedSimpArgs false
theorem exec_load_row {P : Program} {o : Oper} {a : Act} {w : World} (ty : TypeId) (x : Operand) (ho : o.op = .load ty x)
    (g : Nat) (hx : a.eval x = .pointer (some ⟨g, 0, none⟩)) (t : TypeId) (cs : Array Value) (fr : Nat × Nat) (d : TypeDesc) (hg : w.heap[g]? = some (.cells cs t fr))
    (hu : P.underlying ty = some d) (hd : (match d with | .struct _ | .array _ _ => true | _ => false) = true) (hi : (P.info? ty).map (·.size) = some cs.size) : (execOp a.eval o).run P w = .ok (.value (.agg cs)) w := by
  unfold execOp
  simp only [ho, hx, Instr.loadAt, Instr.sureAddr, Sem.run_bind, Sem.run_pure, Result.andThen_ok, run_loadVar_row w g t ty cs fr d hg hu hd hi]
theorem exec_store_row {P : Program} {o : Oper} {a : Act} {w : World} (ty : TypeId) (x y : Operand) (ho : o.op = .store ty x y)
    (g : Nat) (cells : Array Value) (hx : a.eval x = .pointer (some ⟨g, 0, none⟩)) (hy : a.eval y = .agg cells)
    (t : TypeId) (old : Array Value) (hg : w.heap[g]? = some (.cells old t (0, 0))) (hi : (P.info? ty).map (·.size) = some cells.size)
    (hold : old.size = cells.size) (h1 : cells.all (·.oneCell') = true) : (execOp a.eval o).run P w = .ok .skip (w.setRow g cells) := by
  unfold execOp
  simp only [ho, hx, hy, Instr.storeAt, Instr.sureAddr, Sem.run_bind, Sem.run_pure, Result.andThen_ok, run_storeVar_row w g t ty old cells hg hi hold h1]
theorem info42 {row : Array Value} (h : row.size = 42) : (Try.prog.info? 68).map (·.size) = some row.size := by rw [h]; kernel_rfl
theorem dec42_size (kind : Int) (v : Value) (low high : Int) (vc : Value) (a value be : Int) (ended real : Bool) : (dec42 kind v low high vc a value be ended real).size = 42 := rfl
theorem one42 (kind : Int) (A : Option Addr) (n c : Nat) (low high : Int) (Ac : Option Addr) (nc cc : Nat) (a value be : Int) (ended real : Bool) : (dec42 kind (.slice A n c) low high (.slice Ac nc cc) a value be ended real).all (·.oneCell') = true := by simp [dec42, Value.oneCell']
def z42 : Array Value := #[.int .i64 0, .slice none 0 0, .int .i64 0, .int .i64 0, .int .i64 0, .int .i64 0, .int .i64 0, .int .i64 0, .int .i64 0, .int .i64 0, .int .i64 0, .int .i64 0, .int .i64 0, .int .i64 0, .int .i64 0, .int .i64 0, .int .i64 0, .int .i64 0, .int .i64 0, .int .i64 0, .int .i64 0, .int .i64 0, .int .i64 0, .int .i64 0, .int .i64 0, .int .i64 0, .int .i64 0, .int .i64 0, .int .i64 0, .int .i64 0, .int .i64 0, .int .i64 0, .int .i64 0, .int .i64 0, .int .u64 0, .int .u64 0, .slice none 0 0, .int .i64 0, .int .u64 0, .int .i64 0, .bool false, .bool false]
theorem z42_def : z42 = #[.int .i64 0, .slice none 0 0, .int .i64 0, .int .i64 0, .int .i64 0, .int .i64 0, .int .i64 0, .int .i64 0, .int .i64 0, .int .i64 0, .int .i64 0, .int .i64 0, .int .i64 0, .int .i64 0, .int .i64 0, .int .i64 0, .int .i64 0, .int .i64 0, .int .i64 0, .int .i64 0, .int .i64 0, .int .i64 0, .int .i64 0, .int .i64 0, .int .i64 0, .int .i64 0, .int .i64 0, .int .i64 0, .int .i64 0, .int .i64 0, .int .i64 0, .int .i64 0, .int .i64 0, .int .i64 0, .int .u64 0, .int .u64 0, .slice none 0 0, .int .i64 0, .int .u64 0, .int .i64 0, .bool false, .bool false] := rfl
theorem set_back {st : List Int} {i : Nat} (y : Int) (hi : i < st.length) : (st.set i y).set i (rd st i) = st := by
  rw [List.set_set]
  apply List.ext_getElem?
  intro k
  rw [List.getElem?_set]
  by_cases hk : i = k
  · subst hk
    rw [if_pos rfl, if_pos hi, List.getElem?_eq_getElem hi]
    simp [rd, List.getD_eq_getElem?_getD, List.getElem?_eq_getElem hi]
  · rw [if_neg hk]
theorem setRow_size (W : World) (g : Nat) (cs : Array Value) : (W.setRow g cs).heap.size = W.heap.size := by
  simp [World.setRow]
theorem mods_setRow {w W : World} {S : Nat → Prop} (h : Mods w W S) {g : Nat} (hg : S g) (cs : Array Value) : Mods w (W.setRow g cs) S :=
  h.then_ (S2 := fun k => k = g) ⟨rfl, rfl, rfl, by rw [setRow_size]; exact Nat.le_refl _, fun i _ hn => setRow_other _ _ _ _ hn⟩ (fun k hk => by rw [hk]; exact .inl hg)
theorem dec_setRow {W : World} {S : Nat → Prop} {g : Nat} {kind : Int} {A : Option Addr} {c : Nat} {st : List Int} {low high : Int} {vc : Value} {code : List Int} {a : Nat} {value : Int} {ended : Bool} (h : DecRow W S g kind A c st low high vc code a value ended) {st' : List Int} (hst : st'.length = st.length) (kind' low' high' : Int) (a' : Nat) (value' : Int) (ended' : Bool) : DecRow (W.setRow g (dec42 kind' (.slice A st'.length c) low' high' vc a' value' ((a' - code.length : Nat) : Int) ended' true)) S g kind' A c st low' high' vc code a' value' ended' :=
  ⟨hst ▸ setRow_heap W g _ _ _ _ h.b, Kd.R_mono (Kd.R_step (Kd.R_types h.s h.b (by decide)) fun k hk _ => setRow_other _ _ _ _ hk.2) (fun _ hk => hk.1), Kd.R_mono (Kd.R_step (Kd.R_types h.o h.b (by decide)) fun k hk _ => setRow_other _ _ _ _ hk.2) (fun _ hk => hk.1), h.g⟩
/-- What a Get that takes a bit leaves. -/
def GetPost (w : World) (S : Nat → Prop) (g : Nat) (kind : Int) (b c : Nat) (st : List Int) (low high mid : Int) (vc : Value) (code : List Int) (a : Nat) (value : Int) (i : Nat) (bit : Int) (e : Ending) (w' : World) : Prop :=
  (∃ l h n, normE 4 (cutL low mid bit) (cutH high mid bit) = (n, l, h) ∧ ((a + n.length - code.length > 4 ∧ e = .returned (.tuple #[.int .i64 0, .int .i64 6]) ∧ DecRow w' S g kind (some ⟨b, 0, none⟩) c st low high vc code a value true) ∨ (¬ a + n.length - code.length > 4 ∧ e = .returned (.tuple #[.int .i64 bit, .int .i64 0]) ∧ DecRow w' S g kind (some ⟨b, 0, none⟩) c (st.set i (after kind (rd st i) bit)) l h vc code (a + n.length) (shV code n.length value a) false))) ∧ Mods w w' S
set_option maxHeartbeats 4000000 in
set_option maxRecDepth 100000 in
theorem get_row0 (w : World) (S : Nat → Prop) (g : Nat) (kind : Int) (b c : Nat) (st : List Int) (low high mid : Int) (vc : Value) (code : List Int) (a : Nat) (value : Int) (i : Nat) (hE : DecRow w S g kind (some ⟨b, 0, none⟩) c st low high vc code a value false) (hSb : ∀ k, S k → k < w.heap.size) (hi : i < st.length) (hn : st.length ≤ 8192) (hs : okState kind (rd st i)) (hl0 : 0 ≤ low) (hlh : low ≤ high) (hh : high ≤ 4294967295) (hmid : midOf low high (likely kind (rd st i)) = mid) (hm0 : 0 ≤ mid) (hm1 : mid ≤ 4294967295) (hI0 : PutInv [] (cutL low mid 0) (cutH high mid 0) 4 (cutL low mid 0) (cutH high mid 0) []) (hv0 : 0 ≤ value) (hv1 : value ≤ 4294967295) (hby : Bytes code) (hlen : code.length ≤ 1099511627776) (ha : a - code.length ≤ 4) (hvb : ¬ value ≤ mid) :
    Calls Try.prog 34 #[.pointer (some ⟨g, 0, none⟩), .int .i64 i] w (GetPost w S g kind b c st low high mid vc code a value i 0) := by
  have HE := Aside0.mk hE
  have hSg : S g := hE.g
  obtain ⟨Ac, cc, hvc⟩ := Kd.R_slice hE.o
  subst hvc
  have h2 := hE.c41
  have k40 := hE.c40
  have k1 := hE.iv.s
  have HMID := Aside0.mk (hmid ▸ mid_calls w g kind (some ⟨b, 0, none⟩) st.length c low high i (rd st i) hE.iv ⟨_, rfl, by obtain ⟨b', hA, hc, _⟩ := hE.cell hi; cases hA; rw [add_plain]; exact hc⟩ hi hn hs hl0 hlh hh)
  have HI := Aside0.mk hI0
  have HBY := Aside0.mk hby
  have HSB := Aside0.mk hSb
  clear hE hmid hI0 hby hSb
  have hi1 : (0 : Int) ≤ (i : Int) := by omega
  have hi2 : (i : Int) < (st.length : Int) := by omega
  go_enter Try.func34, Try.ntmps34
  go_wp2_with (first
    | (go_at_call 62; refine (dec_none _ _ _ h2).mono ?_; rintro e w' ⟨rfl, rfl⟩)
    | (go_at_call 51; refine HMID.out.mono ?_; rintro e w3 ⟨rfl, hb3⟩; have HE3 := Aside0.mk (HE.out.below hb3); have HK3 := Aside0.mk ((Mods.refl w S).below hb3); clear hb3; have k38 := HE3.out.c38))
  clear h2 k40 k1 k38
  obtain ⟨row, hrow⟩ : ∃ row, (dec42 kind (.slice (some ⟨b, 0, none⟩) st.length c) low high (.slice Ac code.length cc) a value ((a - code.length : Nat) : Int) false true) = row := ⟨_, rfl⟩
  have hsz : row.size = 42 := by rw [← hrow]; rfl
  have hone : row.all (·.oneCell') = true := by rw [← hrow]; exact one42 _ _ _ _ _ _ _ _ _ _ _ _ _ _
  have p0 : w3.drew.heap[g]? = some (.cells row 68 (0, 0)) := by rw [← hrow]; exact HE3.out.b
  have p1 := HE3.out.drew.iv.s
  have p2 : w3.drew.cell? ⟨b, i, none⟩ = some (.int .i64 (rd st i)) := by
    obtain ⟨b3, hA3, hc3, _⟩ := HE3.out.cell hi
    cases hA3
    exact hc3
  have HROW := Aside0.mk hrow
  have HE3 := Aside0.mk HE3.out.drew
  have HK3 := Aside0.mk HK3.out.drew
  clear hrow
  refine start_ (n := 15) (S := fun w' => w'.heap[g]? = some (.cells row 68 (0, 0)) ∧ w'.cell? ⟨g, 1, none⟩ = some (.slice (some ⟨b, 0, none⟩) st.length c) ∧ w'.cell? ⟨b, i, none⟩ = some (.int .i64 (rd st i))) (ds := []) #[false, false, false, false, false, false, false, false, false, false, false, false, false, false, false] (by kernel_rfl) rfl rfl ⟨p0, p1, p2⟩ (fun hHeld => ?_)
  generalize w3.drew = wd at p0 p1 p2 HE3 HK3 hHeld ⊢
  refine pure_ (i := 0) (N := some 43) (v := ?_) (a' := ?_) #[true, false, false, false, false, false, false, false, false, false, false, false, false, false, false] rfl rfl (by kernel_rfl) (fun _ _ _ h => h) (Or.inl ⟨by rfl, ?_⟩) ?_ ?_
  rotate_left
  · intro w'
    go_simp
    with_reducible rfl
  rotate_left
  · simp only [Act.put, List.setIfInBounds_toArray, List.set_cons_zero, List.set_cons_succ, i64_w, i32_w]
    rfl
  refine pure_ (i := 1) (N := some 44) (v := ?_) (a' := ?_) #[true, true, false, false, false, false, false, false, false, false, false, false, false, false, false] rfl rfl (by kernel_rfl) (fun _ _ _ h => h) (Or.inl ⟨by rfl, ?_⟩) ?_ ?_
  rotate_left
  · intro w'
    go_simp
    with_reducible rfl
  rotate_left
  · simp only [Act.put, List.setIfInBounds_toArray, List.set_cons_zero, List.set_cons_succ, i64_w, i32_w]
    rfl
  refine pure_ (i := 3) (N := some 46) (v := ?_) (a' := ?_) #[true, true, false, true, false, false, false, false, false, false, false, false, false, false, false] rfl rfl (by kernel_rfl) (fun _ _ _ h => h) (Or.inl ⟨by rfl, ?_⟩) ?_ ?_
  rotate_left
  · intro w'
    go_simp
    with_reducible rfl
  rotate_left
  · simp only [Act.put, List.setIfInBounds_toArray, List.set_cons_zero, List.set_cons_succ, i64_w, i32_w]
    rfl
  refine pure_ (i := 4) (N := some 47) (v := ?_) (a' := ?_) #[true, true, false, true, true, false, false, false, false, false, false, false, false, false, false] rfl rfl (by kernel_rfl) (fun _ _ _ h => h) (Or.inl ⟨by rfl, ?_⟩) ?_ ?_
  rotate_left
  · intro w'
    go_simp
    with_reducible rfl
  rotate_left
  · simp only [Act.put, List.setIfInBounds_toArray, List.set_cons_zero, List.set_cons_succ, i64_w, i32_w]
    rfl
  refine pure_ (i := 5) (N := some 48) (v := ?_) (a' := ?_) #[true, true, false, true, true, true, false, false, false, false, false, false, false, false, false] rfl rfl (by kernel_rfl) (fun _ _ _ h => h) (Or.inl ⟨by rfl, ?_⟩) ?_ ?_
  rotate_left
  · intro w'
    go_simp
    with_reducible rfl
  rotate_left
  · simp only [Act.put, List.setIfInBounds_toArray, List.set_cons_zero, List.set_cons_succ, i64_w, i32_w]
    rfl
  refine pure_ (i := 6) (N := some 49) (v := ?_) (a' := ?_) #[true, true, false, true, true, true, true, false, false, false, false, false, false, false, false] rfl rfl (by kernel_rfl) (fun _ _ _ h => h) (Or.inl ⟨by rfl, ?_⟩) ?_ ?_
  rotate_left
  · intro w'
    go_simp
    with_reducible rfl
  rotate_left
  · simp only [Act.put, List.setIfInBounds_toArray, List.set_cons_zero, List.set_cons_succ, i64_w, i32_w]
    rfl
  refine pure_ (i := 7) (N := some 50) (v := ?_) (a' := ?_) #[true, true, false, true, true, true, true, true, false, false, false, false, false, false, false] rfl rfl (by kernel_rfl) (fun _ _ _ h => h) (Or.inl ⟨by rfl, ?_⟩) ?_ ?_
  rotate_left
  · intro w'
    go_simp
    with_reducible rfl
  rotate_left
  · simp only [Act.put, List.setIfInBounds_toArray, List.set_cons_zero, List.set_cons_succ, i64_w, i32_w]
    rfl
  refine pure_ (i := 9) (N := some 52) (v := ?_) (a' := ?_) #[true, true, false, true, true, true, true, true, false, true, false, false, false, false, false] rfl rfl (by kernel_rfl) (fun _ _ _ h => h) (Or.inl ⟨by rfl, ?_⟩) ?_ ?_
  rotate_left
  · intro w'
    go_simp
    with_reducible rfl
  rotate_left
  · simp only [Act.put, List.setIfInBounds_toArray, List.set_cons_zero, List.set_cons_succ, i64_w, i32_w]
    rfl
  refine take_ (i := 2) (N := some 45) (v := ?_) (a' := ?_) #[true, true, true, true, true, true, true, true, false, true, false, false, false, false, false] rfl rfl (by kernel_rfl) (fun _ _ _ h => h) (Or.inl ⟨by rfl, ?_⟩) hHeld ?_ ?_
  rotate_left
  · rintro w' ⟨s0, s1, s2⟩
    refine exec_load_row _ (.tmp 44) ?_ g ?_ 68 row (0, 0) _ s0 Try.underlying68 rfl (info42 hsz)
    · rfl
    · rfl
  rotate_left
  · simp only [Act.put, List.setIfInBounds_toArray, List.set_cons_zero, List.set_cons_succ, i64_w, i32_w]
    rfl
  refine take_ (i := 8) (N := some 51) (v := ?_) (a' := ?_) #[true, true, true, true, true, true, true, true, true, true, false, false, false, false, false] rfl rfl (by kernel_rfl) (fun _ _ _ h => h) (Or.inl ⟨by rfl, ?_⟩) hHeld ?_ ?_
  rotate_left
  · rintro w' ⟨s0, s1, s2⟩
    go_simp
    with_reducible rfl
  rotate_left
  · simp only [Act.put, List.setIfInBounds_toArray, List.set_cons_zero, List.set_cons_succ, i64_w, i32_w]
    rfl
  refine pure_ (i := 10) (N := some 53) (v := ?_) (a' := ?_) #[true, true, true, true, true, true, true, true, true, true, true, false, false, false, false] rfl rfl (by kernel_rfl) (fun _ _ _ h => h) (Or.inl ⟨by rfl, ?_⟩) ?_ ?_
  rotate_left
  · intro w'
    go_simp
    with_reducible rfl
  rotate_left
  · simp only [Act.put, List.setIfInBounds_toArray, List.set_cons_zero, List.set_cons_succ, i64_w, i32_w]
    rfl
  refine take_ (i := 11) (N := some 54) (v := ?_) (a' := ?_) #[true, true, true, true, true, true, true, true, true, true, true, true, false, false, false] rfl rfl (by kernel_rfl) (fun _ _ _ h => h) (Or.inl ⟨by rfl, ?_⟩) hHeld ?_ ?_
  rotate_left
  · rintro w' ⟨s0, s1, s2⟩
    go_simp
    with_reducible rfl
  rotate_left
  · simp only [Act.put, List.setIfInBounds_toArray, List.set_cons_zero, List.set_cons_succ, i64_w, i32_w]
    rfl
  refine one_ (i := 12) (N := some 8) #[true, true, true, true, true, true, true, true, true, true, true, true, true, false, false] rfl rfl (by kernel_rfl) (by decide) (fun K hK => ?_)
  refine value_ (w1 := ?_) (v := ?_) (by rfl) rfl ?_ ?_
  rotate_left 2
  · go_simp
    constructor
    · rfl
    · rfl
  refine hK.out _ _ ⟨blk_alloc p0 _, pw_cell_below (below_alloc (Below.refl _ _) _) p1, pw_cell_below (below_alloc (Below.refl _ _) _) p2⟩ (fun hHeld => ?_)
  clear hK K
  refine norm_ (a' := ?_) ?_ ?_
  rotate_left
  · show Act.put _ (some 8) _ = _
    simp only [Act.put, List.setIfInBounds_toArray, List.set_cons_zero, List.set_cons_succ, i64_w, i32_w]
    rfl
  refine one_ (i := 13) (N := none) #[true, true, true, true, true, true, true, true, true, true, true, true, true, true, false] rfl rfl (by kernel_rfl) (by decide) (fun K hK => ?_)
  refine skip_ (w1 := ?_) (by rfl) rfl ?_ ?_
  rotate_left
  · refine exec_store_row _ (.tmp 8) (.tmp 45) ?_ wd.heap.size row ?_ ?_ 68 _ (heap_new wd _) (info42 hsz) ?_ hone
    · rfl
    · rfl
    · rfl
    · exact hsz.symm
  refine hK.out _ _ ⟨blk_below p0 (below_setRow (below_alloc (Below.refl _ _) _) (Nat.le_refl _) _), pw_cell_below (below_setRow (below_alloc (Below.refl _ _) _) (Nat.le_refl _) _) p1, pw_cell_below (below_setRow (below_alloc (Below.refl _ _) _) (Nat.le_refl _) _) p2⟩ (fun hHeld => ?_)
  clear hK K
  refine pure_ (i := 14) (N := some 9) (v := ?_) (a' := ?_) #[true, true, true, true, true, true, true, true, true, true, true, true, true, true, true] rfl rfl (by kernel_rfl) (fun _ _ _ h => h) (Or.inl ⟨by rfl, ?_⟩) ?_ ?_
  rotate_left
  · intro w'
    go_simp
    with_reducible rfl
  rotate_left
  · simp only [Act.put, List.setIfInBounds_toArray, List.set_cons_zero, List.set_cons_succ, i64_w, i32_w]
    rfl
  refine done_ (by kernel_rfl) ?_

  rw [← z42_def]
  obtain ⟨q, hq⟩ : ∃ q, wd.heap.size = q := ⟨_, rfl⟩
  have HQ0 := Aside0.mk (setRow_heap (wd.alloc (.cells z42 68)) wd.heap.size z42 row 68 (0, 0) (heap_new wd _))
  have HB0 := Aside0.mk (below_setRow (below_alloc (Below.refl wd.heap.size wd) (.cells z42 68)) (Nat.le_refl _) row)
  generalize hW5 : (wd.alloc (.cells z42 68)).setRow wd.heap.size row = w5 at HQ0 HB0 ⊢
  rw [hq] at HQ0 ⊢
  have HE5 := Aside0.mk (HE3.out.below HB0.out)
  have HK5 := Aside0.mk (HK3.out.below HB0.out)
  have HQS := Aside0.mk (show ¬ S q from fun hk => by have h1 := HSB.out q hk; have h2 := HK3.out.size; omega)
  clear hW5 hq HB0 HE3 HK3 p0 p1 p2
  have HT := Aside0.mk (take_calls w5 g kind st.length c low high i (rd st i) mid 0 ⟨b, 0, none⟩ HE5.out.iv)
  go_wp2_with (go_at_call 50; obtain ⟨b3, hA3, hc3, hf3, hne3⟩ := HE5.out.cell hi; cases hA3; refine (HT.out (by rw [add_plain]; exact hc3) (by rw [add_plain]; exact hf3) hne3 hi hn hs (by decide) hm0 hm1).mono ?_; rintro e w4 ⟨rfl, w4', hb4, hw4⟩; rw [add_plain] at hw4; have HE4 := Aside0.mk (show DecRow w4 S g kind (some ⟨b, 0, none⟩) c (st.set i (after kind (rd st i) 0)) (cutL low mid 0) (cutH high mid 0) (.slice Ac code.length cc) code a value false from hw4 ▸ (((HE5.out.cut 0 mid).below (by rw [cutW_size]; exact hb4)).setst hi _)); have hsb : S b := HE5.out.s.1 b (by simp [Value.ownBlock]); have HK4 := Aside0.mk (show Mods w5 w4 S from hw4 ▸ ((((Mods.refl w5 S).then_ (cut_kept 0 mid HE5.out.g) (fun _ h => .inl h)).below (by rw [cutW_size]; exact hb4)).setCell (.inl hsb) _)); clear hb4 hw4 hc3 hf3 hne3)
  clear HT HE5
  obtain ⟨st', hst'⟩ : ∃ st' : List Int, st.set i (after kind (rd st i) 0) = st' := ⟨_, rfl⟩
  have HST := Aside0.mk hst'
  have HSL := Aside0.mk (show st'.length = st.length by rw [← hst']; exact List.length_set)
  rw [hst'] at HE4
  clear hst'
  go_loopg [] 4 (fun d wr => ∃ (l h : Int) (n : List Int), Aside0 (DecRow wr S g kind (some ⟨b, 0, none⟩) c st' l h (.slice Ac code.length cc) code (a + n.length) (shV code n.length value a) false) ∧ Aside0 (Mods w5 wr S) ∧ Aside0 (PutInv [] (cutL low mid 0) (cutH high mid 0) d l h n))
  case atStart => exact ⟨_, _, [], HE4, HK4, HI⟩
  clear HE4 HK4 HI
  case round =>
    obtain ⟨l, h, n, HE6, HK6, HP⟩ := hrel
    have hp0 := HP.out.l0
    have hp1 := HP.out.lh
    have hp2 := HP.out.h0
    have hp3 := HP.out.len
    rw [List.length_nil] at hp3
    have hs6 := same_calls wr g l h HE6.out.iv.l HE6.out.iv.h hp0 (by omega)
    by_cases cx : l / 16777216 = h / 16777216
    · rw [decide_eq_true cx] at hs6
      have HSA := Aside0.mk hs6
      clear hs6
      obtain ⟨d', hd', hP'⟩ := HP.out.step cx
      have HP' := Aside0.mk hP'
      have HD := Aside0.mk hd'
      have hv := shV_range HBY.out n.length value a hv0 hv1
      have HV := Aside0.mk hv
      have hap : a + n.length ≤ 2199023255552 := by omega
      clear hd' hP' cx hv
      go_wp2_with (first
        | (go_at_call 52; refine HSA.out.mono ?_; rintro e w6 ⟨rfl, m6, hw6⟩; have HE7 := Aside0.mk (show DecRow w6 S g kind (some ⟨b, 0, none⟩) c st' l h (.slice Ac code.length cc) code (a + n.length) (shV code n.length value a) false from hw6 ▸ HE6.out.drewN m6); have HK7 := Aside0.mk (show Mods w5 w6 S from hw6 ▸ HK6.out.drewN m6); clear hw6; have HLO := Aside0.mk (lose_calls w6 g l h HE7.out.iv.l HE7.out.iv.h HE7.out.iv.f hp0 (by omega) (by omega) hp2))
        | (go_at_call 53; refine HLO.out.mono ?_; rintro e w7 ⟨rfl, hw7⟩; have HE8 := Aside0.mk (show DecRow w7 S g kind (some ⟨b, 0, none⟩) c st' (l % 16777216 * 256) (h % 16777216 * 256 + 255) (.slice Ac code.length cc) code (a + n.length) (shV code n.length value a) false from hw7 ▸ HE7.out.lost _ _); have HK8 := Aside0.mk (show Mods w5 w7 S from hw7 ▸ ((HK7.out.setCell (.inl hSg) _).setCell (.inl hSg) _)); clear hw7)
        | (go_at_call 63; refine (shift_row _ S g kind _ c st' _ _ _ code _ _ false HE8.out HV.out.1 HV.out.2 HBY.out hlen hap).mono ?_; rintro e w8 ⟨rfl, hE9, hK9⟩; have HE9 := Aside0.mk hE9; have HK9 := Aside0.mk (HK8.out.then_ hK9 (fun _ h => .inl h)); clear hE9 hK9))
      go_roundg d'
      case measure => have := HD.out; omega
      case rel =>
        refine ⟨_, _, _, ⟨?_⟩, HK9, HP'⟩
        have h9 := HE9.out
        rw [← shV_succ] at h9
        rw [List.length_append, List.length_cons, List.length_nil, Nat.zero_add]
        exact h9
    · rw [decide_eq_false cx] at hs6
      have HSA := Aside0.mk hs6
      clear hs6
      have HCC := Aside0.mk (HP.out.done cx)
      clear cx
      obtain ⟨be, hbe⟩ : ∃ be : Nat, a + n.length - code.length = be := ⟨_, rfl⟩
      have HBE := Aside0.mk hbe
      clear hbe
      have HN := Aside0.mk (show normE 4 (cutL low mid 0) (cutH high mid 0) = (n, l, h) from by
        have h1 := HCC.out
        rw [List.nil_append] at h1
        exact Prod.ext h1.1.symm h1.2)
      by_cases hb4 : (be : Int) > 4
      · have HB4 := Aside0.mk hb4
        go_wp2_with (first
          | (go_at_call 52; refine HSA.out.mono ?_; rintro e w6 ⟨rfl, m6, hw6⟩; have HE7 := Aside0.mk (show DecRow w6 S g kind (some ⟨b, 0, none⟩) c st' l h (.slice Ac code.length cc) code (a + n.length) (shV code n.length value a) false from hw6 ▸ HE6.out.drewN m6); have HK7 := Aside0.mk (show Mods w5 w6 S from hw6 ▸ HK6.out.drewN m6); clear hw6; have k39 := HE7.out.c39; rw [HBE.out] at k39; have HQ7 := Aside0.mk (blk_mods HQ0.out HK7.out HQS.out))
          | (with_reducible refine wpList_load_row rfl _ _ rfl _ rfl _ _ _ _ HQ7.out Try.underlying68 rfl (info42 hsz) ?_)
          | (with_reducible refine wpList_store_row rfl _ _ _ rfl _ row rfl rfl _ _ HE7.out.b (info42 hsz) ((dec42_size _ _ _ _ _ _ _ _ _ _).trans hsz.symm) hone ?_; have HE8 := Aside0.mk (show DecRow (w6.setRow g row) S g kind (some ⟨b, 0, none⟩) c st' low high (.slice Ac code.length cc) code a value false from HROW.out ▸ dec_setRow (st' := st) HE7.out HSL.out.symm kind low high a value false); have HK8 := Aside0.mk (mods_setRow HK7.out hSg row); generalize w6.setRow g row = w8 at HE8 HK8 ⊢; have q1 := HE8.out.iv.s; rw [HSL.out] at q1; obtain ⟨b8, hA8, q2, q3, q4⟩ := HE8.out.cell (i := i) (by rw [HSL.out]; exact hi); cases hA8; have q5 := HE8.out.fz 40; have q6 := HE8.out.c40))
        go_ret2
        refine ⟨⟨l, h, n, HN.out, .inl ⟨by rw [HBE.out]; have := HB4.out; omega, rfl, ?_⟩⟩, (HK5.out.then_ HK8.out (fun _ h => .inl h)).setCell (.inl (HE8.out.s.1 b (by simp [Value.ownBlock]))) _ |>.setCell (.inl hSg) _⟩
        have h9 := HE8.out.setst (i := i) (by rw [HSL.out]; exact hi) (rd st i)
        rw [← HST.out, set_back _ hi] at h9
        exact h9.put 40 (.bool true) rfl
      · have HB4 := Aside0.mk hb4
        go_wp2_with (go_at_call 52; refine HSA.out.mono ?_; rintro e w6 ⟨rfl, m6, hw6⟩; have HE7 := Aside0.mk (show DecRow w6 S g kind (some ⟨b, 0, none⟩) c st' l h (.slice Ac code.length cc) code (a + n.length) (shV code n.length value a) false from hw6 ▸ HE6.out.drewN m6); have HK7 := Aside0.mk (show Mods w5 w6 S from hw6 ▸ HK6.out.drewN m6); clear hw6; have k39 := HE7.out.c39; rw [HBE.out] at k39)
        go_ret2
        refine ⟨⟨l, h, n, HN.out, .inr ⟨by rw [HBE.out]; have := HB4.out; omega, rfl, ?_⟩⟩, HK5.out.then_ HK7.out (fun _ h => .inl h)⟩
        rw [HST.out]
        exact HE7.out
set_option maxHeartbeats 4000000 in
set_option maxRecDepth 100000 in
theorem get_row1 (w : World) (S : Nat → Prop) (g : Nat) (kind : Int) (b c : Nat) (st : List Int) (low high mid : Int) (vc : Value) (code : List Int) (a : Nat) (value : Int) (i : Nat) (hE : DecRow w S g kind (some ⟨b, 0, none⟩) c st low high vc code a value false) (hSb : ∀ k, S k → k < w.heap.size) (hi : i < st.length) (hn : st.length ≤ 8192) (hs : okState kind (rd st i)) (hl0 : 0 ≤ low) (hlh : low ≤ high) (hh : high ≤ 4294967295) (hmid : midOf low high (likely kind (rd st i)) = mid) (hm0 : 0 ≤ mid) (hm1 : mid ≤ 4294967295) (hI0 : PutInv [] (cutL low mid 1) (cutH high mid 1) 4 (cutL low mid 1) (cutH high mid 1) []) (hv0 : 0 ≤ value) (hv1 : value ≤ 4294967295) (hby : Bytes code) (hlen : code.length ≤ 1099511627776) (ha : a - code.length ≤ 4) (hvb : value ≤ mid) :
    Calls Try.prog 34 #[.pointer (some ⟨g, 0, none⟩), .int .i64 i] w (GetPost w S g kind b c st low high mid vc code a value i 1) := by
  have HE := Aside0.mk hE
  have hSg : S g := hE.g
  obtain ⟨Ac, cc, hvc⟩ := Kd.R_slice hE.o
  subst hvc
  have h2 := hE.c41
  have k40 := hE.c40
  have k1 := hE.iv.s
  have HMID := Aside0.mk (hmid ▸ mid_calls w g kind (some ⟨b, 0, none⟩) st.length c low high i (rd st i) hE.iv ⟨_, rfl, by obtain ⟨b', hA, hc, _⟩ := hE.cell hi; cases hA; rw [add_plain]; exact hc⟩ hi hn hs hl0 hlh hh)
  have HI := Aside0.mk hI0
  have HBY := Aside0.mk hby
  have HSB := Aside0.mk hSb
  clear hE hmid hI0 hby hSb
  have hi1 : (0 : Int) ≤ (i : Int) := by omega
  have hi2 : (i : Int) < (st.length : Int) := by omega
  go_enter Try.func34, Try.ntmps34
  go_wp2_with (first
    | (go_at_call 62; refine (dec_none _ _ _ h2).mono ?_; rintro e w' ⟨rfl, rfl⟩)
    | (go_at_call 51; refine HMID.out.mono ?_; rintro e w3 ⟨rfl, hb3⟩; have HE3 := Aside0.mk (HE.out.below hb3); have HK3 := Aside0.mk ((Mods.refl w S).below hb3); clear hb3; have k38 := HE3.out.c38))
  clear h2 k40 k1 k38
  obtain ⟨row, hrow⟩ : ∃ row, (dec42 kind (.slice (some ⟨b, 0, none⟩) st.length c) low high (.slice Ac code.length cc) a value ((a - code.length : Nat) : Int) false true) = row := ⟨_, rfl⟩
  have hsz : row.size = 42 := by rw [← hrow]; rfl
  have hone : row.all (·.oneCell') = true := by rw [← hrow]; exact one42 _ _ _ _ _ _ _ _ _ _ _ _ _ _
  have p0 : w3.drew.heap[g]? = some (.cells row 68 (0, 0)) := by rw [← hrow]; exact HE3.out.b
  have p1 := HE3.out.drew.iv.s
  have p2 : w3.drew.cell? ⟨b, i, none⟩ = some (.int .i64 (rd st i)) := by
    obtain ⟨b3, hA3, hc3, _⟩ := HE3.out.cell hi
    cases hA3
    exact hc3
  have HROW := Aside0.mk hrow
  have HE3 := Aside0.mk HE3.out.drew
  have HK3 := Aside0.mk HK3.out.drew
  clear hrow
  refine start_ (n := 15) (S := fun w' => w'.heap[g]? = some (.cells row 68 (0, 0)) ∧ w'.cell? ⟨g, 1, none⟩ = some (.slice (some ⟨b, 0, none⟩) st.length c) ∧ w'.cell? ⟨b, i, none⟩ = some (.int .i64 (rd st i))) (ds := []) #[false, false, false, false, false, false, false, false, false, false, false, false, false, false, false] (by kernel_rfl) rfl rfl ⟨p0, p1, p2⟩ (fun hHeld => ?_)
  generalize w3.drew = wd at p0 p1 p2 HE3 HK3 hHeld ⊢
  refine pure_ (i := 0) (N := some 43) (v := ?_) (a' := ?_) #[true, false, false, false, false, false, false, false, false, false, false, false, false, false, false] rfl rfl (by kernel_rfl) (fun _ _ _ h => h) (Or.inl ⟨by rfl, ?_⟩) ?_ ?_
  rotate_left
  · intro w'
    go_simp
    with_reducible rfl
  rotate_left
  · simp only [Act.put, List.setIfInBounds_toArray, List.set_cons_zero, List.set_cons_succ, i64_w, i32_w]
    rfl
  refine pure_ (i := 1) (N := some 44) (v := ?_) (a' := ?_) #[true, true, false, false, false, false, false, false, false, false, false, false, false, false, false] rfl rfl (by kernel_rfl) (fun _ _ _ h => h) (Or.inl ⟨by rfl, ?_⟩) ?_ ?_
  rotate_left
  · intro w'
    go_simp
    with_reducible rfl
  rotate_left
  · simp only [Act.put, List.setIfInBounds_toArray, List.set_cons_zero, List.set_cons_succ, i64_w, i32_w]
    rfl
  refine pure_ (i := 3) (N := some 46) (v := ?_) (a' := ?_) #[true, true, false, true, false, false, false, false, false, false, false, false, false, false, false] rfl rfl (by kernel_rfl) (fun _ _ _ h => h) (Or.inl ⟨by rfl, ?_⟩) ?_ ?_
  rotate_left
  · intro w'
    go_simp
    with_reducible rfl
  rotate_left
  · simp only [Act.put, List.setIfInBounds_toArray, List.set_cons_zero, List.set_cons_succ, i64_w, i32_w]
    rfl
  refine pure_ (i := 4) (N := some 47) (v := ?_) (a' := ?_) #[true, true, false, true, true, false, false, false, false, false, false, false, false, false, false] rfl rfl (by kernel_rfl) (fun _ _ _ h => h) (Or.inl ⟨by rfl, ?_⟩) ?_ ?_
  rotate_left
  · intro w'
    go_simp
    with_reducible rfl
  rotate_left
  · simp only [Act.put, List.setIfInBounds_toArray, List.set_cons_zero, List.set_cons_succ, i64_w, i32_w]
    rfl
  refine pure_ (i := 5) (N := some 48) (v := ?_) (a' := ?_) #[true, true, false, true, true, true, false, false, false, false, false, false, false, false, false] rfl rfl (by kernel_rfl) (fun _ _ _ h => h) (Or.inl ⟨by rfl, ?_⟩) ?_ ?_
  rotate_left
  · intro w'
    go_simp
    with_reducible rfl
  rotate_left
  · simp only [Act.put, List.setIfInBounds_toArray, List.set_cons_zero, List.set_cons_succ, i64_w, i32_w]
    rfl
  refine pure_ (i := 6) (N := some 49) (v := ?_) (a' := ?_) #[true, true, false, true, true, true, true, false, false, false, false, false, false, false, false] rfl rfl (by kernel_rfl) (fun _ _ _ h => h) (Or.inl ⟨by rfl, ?_⟩) ?_ ?_
  rotate_left
  · intro w'
    go_simp
    with_reducible rfl
  rotate_left
  · simp only [Act.put, List.setIfInBounds_toArray, List.set_cons_zero, List.set_cons_succ, i64_w, i32_w]
    rfl
  refine pure_ (i := 7) (N := some 50) (v := ?_) (a' := ?_) #[true, true, false, true, true, true, true, true, false, false, false, false, false, false, false] rfl rfl (by kernel_rfl) (fun _ _ _ h => h) (Or.inl ⟨by rfl, ?_⟩) ?_ ?_
  rotate_left
  · intro w'
    go_simp
    with_reducible rfl
  rotate_left
  · simp only [Act.put, List.setIfInBounds_toArray, List.set_cons_zero, List.set_cons_succ, i64_w, i32_w]
    rfl
  refine pure_ (i := 9) (N := some 52) (v := ?_) (a' := ?_) #[true, true, false, true, true, true, true, true, false, true, false, false, false, false, false] rfl rfl (by kernel_rfl) (fun _ _ _ h => h) (Or.inl ⟨by rfl, ?_⟩) ?_ ?_
  rotate_left
  · intro w'
    go_simp
    with_reducible rfl
  rotate_left
  · simp only [Act.put, List.setIfInBounds_toArray, List.set_cons_zero, List.set_cons_succ, i64_w, i32_w]
    rfl
  refine take_ (i := 2) (N := some 45) (v := ?_) (a' := ?_) #[true, true, true, true, true, true, true, true, false, true, false, false, false, false, false] rfl rfl (by kernel_rfl) (fun _ _ _ h => h) (Or.inl ⟨by rfl, ?_⟩) hHeld ?_ ?_
  rotate_left
  · rintro w' ⟨s0, s1, s2⟩
    refine exec_load_row _ (.tmp 44) ?_ g ?_ 68 row (0, 0) _ s0 Try.underlying68 rfl (info42 hsz)
    · rfl
    · rfl
  rotate_left
  · simp only [Act.put, List.setIfInBounds_toArray, List.set_cons_zero, List.set_cons_succ, i64_w, i32_w]
    rfl
  refine take_ (i := 8) (N := some 51) (v := ?_) (a' := ?_) #[true, true, true, true, true, true, true, true, true, true, false, false, false, false, false] rfl rfl (by kernel_rfl) (fun _ _ _ h => h) (Or.inl ⟨by rfl, ?_⟩) hHeld ?_ ?_
  rotate_left
  · rintro w' ⟨s0, s1, s2⟩
    go_simp
    with_reducible rfl
  rotate_left
  · simp only [Act.put, List.setIfInBounds_toArray, List.set_cons_zero, List.set_cons_succ, i64_w, i32_w]
    rfl
  refine pure_ (i := 10) (N := some 53) (v := ?_) (a' := ?_) #[true, true, true, true, true, true, true, true, true, true, true, false, false, false, false] rfl rfl (by kernel_rfl) (fun _ _ _ h => h) (Or.inl ⟨by rfl, ?_⟩) ?_ ?_
  rotate_left
  · intro w'
    go_simp
    with_reducible rfl
  rotate_left
  · simp only [Act.put, List.setIfInBounds_toArray, List.set_cons_zero, List.set_cons_succ, i64_w, i32_w]
    rfl
  refine take_ (i := 11) (N := some 54) (v := ?_) (a' := ?_) #[true, true, true, true, true, true, true, true, true, true, true, true, false, false, false] rfl rfl (by kernel_rfl) (fun _ _ _ h => h) (Or.inl ⟨by rfl, ?_⟩) hHeld ?_ ?_
  rotate_left
  · rintro w' ⟨s0, s1, s2⟩
    go_simp
    with_reducible rfl
  rotate_left
  · simp only [Act.put, List.setIfInBounds_toArray, List.set_cons_zero, List.set_cons_succ, i64_w, i32_w]
    rfl
  refine one_ (i := 12) (N := some 8) #[true, true, true, true, true, true, true, true, true, true, true, true, true, false, false] rfl rfl (by kernel_rfl) (by decide) (fun K hK => ?_)
  refine value_ (w1 := ?_) (v := ?_) (by rfl) rfl ?_ ?_
  rotate_left 2
  · go_simp
    constructor
    · rfl
    · rfl
  refine hK.out _ _ ⟨blk_alloc p0 _, pw_cell_below (below_alloc (Below.refl _ _) _) p1, pw_cell_below (below_alloc (Below.refl _ _) _) p2⟩ (fun hHeld => ?_)
  clear hK K
  refine norm_ (a' := ?_) ?_ ?_
  rotate_left
  · show Act.put _ (some 8) _ = _
    simp only [Act.put, List.setIfInBounds_toArray, List.set_cons_zero, List.set_cons_succ, i64_w, i32_w]
    rfl
  refine one_ (i := 13) (N := none) #[true, true, true, true, true, true, true, true, true, true, true, true, true, true, false] rfl rfl (by kernel_rfl) (by decide) (fun K hK => ?_)
  refine skip_ (w1 := ?_) (by rfl) rfl ?_ ?_
  rotate_left
  · refine exec_store_row _ (.tmp 8) (.tmp 45) ?_ wd.heap.size row ?_ ?_ 68 _ (heap_new wd _) (info42 hsz) ?_ hone
    · rfl
    · rfl
    · rfl
    · exact hsz.symm
  refine hK.out _ _ ⟨blk_below p0 (below_setRow (below_alloc (Below.refl _ _) _) (Nat.le_refl _) _), pw_cell_below (below_setRow (below_alloc (Below.refl _ _) _) (Nat.le_refl _) _) p1, pw_cell_below (below_setRow (below_alloc (Below.refl _ _) _) (Nat.le_refl _) _) p2⟩ (fun hHeld => ?_)
  clear hK K
  refine pure_ (i := 14) (N := some 9) (v := ?_) (a' := ?_) #[true, true, true, true, true, true, true, true, true, true, true, true, true, true, true] rfl rfl (by kernel_rfl) (fun _ _ _ h => h) (Or.inl ⟨by rfl, ?_⟩) ?_ ?_
  rotate_left
  · intro w'
    go_simp
    with_reducible rfl
  rotate_left
  · simp only [Act.put, List.setIfInBounds_toArray, List.set_cons_zero, List.set_cons_succ, i64_w, i32_w]
    rfl
  refine done_ (by kernel_rfl) ?_

  rw [← z42_def]
  obtain ⟨q, hq⟩ : ∃ q, wd.heap.size = q := ⟨_, rfl⟩
  have HQ0 := Aside0.mk (setRow_heap (wd.alloc (.cells z42 68)) wd.heap.size z42 row 68 (0, 0) (heap_new wd _))
  have HB0 := Aside0.mk (below_setRow (below_alloc (Below.refl wd.heap.size wd) (.cells z42 68)) (Nat.le_refl _) row)
  generalize hW5 : (wd.alloc (.cells z42 68)).setRow wd.heap.size row = w5 at HQ0 HB0 ⊢
  rw [hq] at HQ0 ⊢
  have HE5 := Aside0.mk (HE3.out.below HB0.out)
  have HK5 := Aside0.mk (HK3.out.below HB0.out)
  have HQS := Aside0.mk (show ¬ S q from fun hk => by have h1 := HSB.out q hk; have h2 := HK3.out.size; omega)
  clear hW5 hq HB0 HE3 HK3 p0 p1 p2
  have HT := Aside0.mk (take_calls w5 g kind st.length c low high i (rd st i) mid 1 ⟨b, 0, none⟩ HE5.out.iv)
  go_wp2_with (go_at_call 50; obtain ⟨b3, hA3, hc3, hf3, hne3⟩ := HE5.out.cell hi; cases hA3; refine (HT.out (by rw [add_plain]; exact hc3) (by rw [add_plain]; exact hf3) hne3 hi hn hs (by decide) hm0 hm1).mono ?_; rintro e w4 ⟨rfl, w4', hb4, hw4⟩; rw [add_plain] at hw4; have HE4 := Aside0.mk (show DecRow w4 S g kind (some ⟨b, 0, none⟩) c (st.set i (after kind (rd st i) 1)) (cutL low mid 1) (cutH high mid 1) (.slice Ac code.length cc) code a value false from hw4 ▸ (((HE5.out.cut 1 mid).below (by rw [cutW_size]; exact hb4)).setst hi _)); have hsb : S b := HE5.out.s.1 b (by simp [Value.ownBlock]); have HK4 := Aside0.mk (show Mods w5 w4 S from hw4 ▸ ((((Mods.refl w5 S).then_ (cut_kept 1 mid HE5.out.g) (fun _ h => .inl h)).below (by rw [cutW_size]; exact hb4)).setCell (.inl hsb) _)); clear hb4 hw4 hc3 hf3 hne3)
  clear HT HE5
  obtain ⟨st', hst'⟩ : ∃ st' : List Int, st.set i (after kind (rd st i) 1) = st' := ⟨_, rfl⟩
  have HST := Aside0.mk hst'
  have HSL := Aside0.mk (show st'.length = st.length by rw [← hst']; exact List.length_set)
  rw [hst'] at HE4
  clear hst'
  go_loopg [] 4 (fun d wr => ∃ (l h : Int) (n : List Int), Aside0 (DecRow wr S g kind (some ⟨b, 0, none⟩) c st' l h (.slice Ac code.length cc) code (a + n.length) (shV code n.length value a) false) ∧ Aside0 (Mods w5 wr S) ∧ Aside0 (PutInv [] (cutL low mid 1) (cutH high mid 1) d l h n))
  case atStart => exact ⟨_, _, [], HE4, HK4, HI⟩
  clear HE4 HK4 HI
  case round =>
    obtain ⟨l, h, n, HE6, HK6, HP⟩ := hrel
    have hp0 := HP.out.l0
    have hp1 := HP.out.lh
    have hp2 := HP.out.h0
    have hp3 := HP.out.len
    rw [List.length_nil] at hp3
    have hs6 := same_calls wr g l h HE6.out.iv.l HE6.out.iv.h hp0 (by omega)
    by_cases cx : l / 16777216 = h / 16777216
    · rw [decide_eq_true cx] at hs6
      have HSA := Aside0.mk hs6
      clear hs6
      obtain ⟨d', hd', hP'⟩ := HP.out.step cx
      have HP' := Aside0.mk hP'
      have HD := Aside0.mk hd'
      have hv := shV_range HBY.out n.length value a hv0 hv1
      have HV := Aside0.mk hv
      have hap : a + n.length ≤ 2199023255552 := by omega
      clear hd' hP' cx hv
      go_wp2_with (first
        | (go_at_call 52; refine HSA.out.mono ?_; rintro e w6 ⟨rfl, m6, hw6⟩; have HE7 := Aside0.mk (show DecRow w6 S g kind (some ⟨b, 0, none⟩) c st' l h (.slice Ac code.length cc) code (a + n.length) (shV code n.length value a) false from hw6 ▸ HE6.out.drewN m6); have HK7 := Aside0.mk (show Mods w5 w6 S from hw6 ▸ HK6.out.drewN m6); clear hw6; have HLO := Aside0.mk (lose_calls w6 g l h HE7.out.iv.l HE7.out.iv.h HE7.out.iv.f hp0 (by omega) (by omega) hp2))
        | (go_at_call 53; refine HLO.out.mono ?_; rintro e w7 ⟨rfl, hw7⟩; have HE8 := Aside0.mk (show DecRow w7 S g kind (some ⟨b, 0, none⟩) c st' (l % 16777216 * 256) (h % 16777216 * 256 + 255) (.slice Ac code.length cc) code (a + n.length) (shV code n.length value a) false from hw7 ▸ HE7.out.lost _ _); have HK8 := Aside0.mk (show Mods w5 w7 S from hw7 ▸ ((HK7.out.setCell (.inl hSg) _).setCell (.inl hSg) _)); clear hw7)
        | (go_at_call 63; refine (shift_row _ S g kind _ c st' _ _ _ code _ _ false HE8.out HV.out.1 HV.out.2 HBY.out hlen hap).mono ?_; rintro e w8 ⟨rfl, hE9, hK9⟩; have HE9 := Aside0.mk hE9; have HK9 := Aside0.mk (HK8.out.then_ hK9 (fun _ h => .inl h)); clear hE9 hK9))
      go_roundg d'
      case measure => have := HD.out; omega
      case rel =>
        refine ⟨_, _, _, ⟨?_⟩, HK9, HP'⟩
        have h9 := HE9.out
        rw [← shV_succ] at h9
        rw [List.length_append, List.length_cons, List.length_nil, Nat.zero_add]
        exact h9
    · rw [decide_eq_false cx] at hs6
      have HSA := Aside0.mk hs6
      clear hs6
      have HCC := Aside0.mk (HP.out.done cx)
      clear cx
      obtain ⟨be, hbe⟩ : ∃ be : Nat, a + n.length - code.length = be := ⟨_, rfl⟩
      have HBE := Aside0.mk hbe
      clear hbe
      have HN := Aside0.mk (show normE 4 (cutL low mid 1) (cutH high mid 1) = (n, l, h) from by
        have h1 := HCC.out
        rw [List.nil_append] at h1
        exact Prod.ext h1.1.symm h1.2)
      by_cases hb4 : (be : Int) > 4
      · have HB4 := Aside0.mk hb4
        go_wp2_with (first
          | (go_at_call 52; refine HSA.out.mono ?_; rintro e w6 ⟨rfl, m6, hw6⟩; have HE7 := Aside0.mk (show DecRow w6 S g kind (some ⟨b, 0, none⟩) c st' l h (.slice Ac code.length cc) code (a + n.length) (shV code n.length value a) false from hw6 ▸ HE6.out.drewN m6); have HK7 := Aside0.mk (show Mods w5 w6 S from hw6 ▸ HK6.out.drewN m6); clear hw6; have k39 := HE7.out.c39; rw [HBE.out] at k39; have HQ7 := Aside0.mk (blk_mods HQ0.out HK7.out HQS.out))
          | (with_reducible refine wpList_load_row rfl _ _ rfl _ rfl _ _ _ _ HQ7.out Try.underlying68 rfl (info42 hsz) ?_)
          | (with_reducible refine wpList_store_row rfl _ _ _ rfl _ row rfl rfl _ _ HE7.out.b (info42 hsz) ((dec42_size _ _ _ _ _ _ _ _ _ _).trans hsz.symm) hone ?_; have HE8 := Aside0.mk (show DecRow (w6.setRow g row) S g kind (some ⟨b, 0, none⟩) c st' low high (.slice Ac code.length cc) code a value false from HROW.out ▸ dec_setRow (st' := st) HE7.out HSL.out.symm kind low high a value false); have HK8 := Aside0.mk (mods_setRow HK7.out hSg row); generalize w6.setRow g row = w8 at HE8 HK8 ⊢; have q1 := HE8.out.iv.s; rw [HSL.out] at q1; obtain ⟨b8, hA8, q2, q3, q4⟩ := HE8.out.cell (i := i) (by rw [HSL.out]; exact hi); cases hA8; have q5 := HE8.out.fz 40; have q6 := HE8.out.c40))
        go_ret2
        refine ⟨⟨l, h, n, HN.out, .inl ⟨by rw [HBE.out]; have := HB4.out; omega, rfl, ?_⟩⟩, (HK5.out.then_ HK8.out (fun _ h => .inl h)).setCell (.inl (HE8.out.s.1 b (by simp [Value.ownBlock]))) _ |>.setCell (.inl hSg) _⟩
        have h9 := HE8.out.setst (i := i) (by rw [HSL.out]; exact hi) (rd st i)
        rw [← HST.out, set_back _ hi] at h9
        exact h9.put 40 (.bool true) rfl
      · have HB4 := Aside0.mk hb4
        go_wp2_with (go_at_call 52; refine HSA.out.mono ?_; rintro e w6 ⟨rfl, m6, hw6⟩; have HE7 := Aside0.mk (show DecRow w6 S g kind (some ⟨b, 0, none⟩) c st' l h (.slice Ac code.length cc) code (a + n.length) (shV code n.length value a) false from hw6 ▸ HE6.out.drewN m6); have HK7 := Aside0.mk (show Mods w5 w6 S from hw6 ▸ HK6.out.drewN m6); clear hw6; have k39 := HE7.out.c39; rw [HBE.out] at k39)
        go_ret2
        refine ⟨⟨l, h, n, HN.out, .inr ⟨by rw [HBE.out]; have := HB4.out; omega, rfl, ?_⟩⟩, HK5.out.then_ HK7.out (fun _ h => .inl h)⟩
        rw [HST.out]
        exact HE7.out
/-- A decoder in memory. -/
def DecAt (W : World) (S : Nat → Prop) (g : Nat) (s : DS) : Prop := ∃ A c vc, DecRow W S g s.kind A c s.st s.low s.high vc s.code s.a s.value s.ended
theorem DecAt.kept {W W' : World} {S S' : Nat → Prop} {g : Nat} {s : DS} (h : DecAt W S g s) (hk : Mods W W' S') (hne : ∀ k, S k → ¬ S' k) : DecAt W' S g s := by
  obtain ⟨A, c, vo, h⟩ := h
  exact ⟨A, c, vo, h.kept hk hne⟩
theorem DecAt.below {W W' : World} {S : Nat → Prop} {g : Nat} {s : DS} (h : DecAt W S g s) (hb : Below W.heap.size W W') : DecAt W' S g s := by
  obtain ⟨A, c, vo, h⟩ := h
  exact ⟨A, c, vo, h.below hb⟩
theorem DecAt.mono {W : World} {S S' : Nat → Prop} {g : Nat} {s : DS} (h : DecAt W S g s) (hs : ∀ k, S k → S' k) : DecAt W S' g s := by
  obtain ⟨A, c, vo, h⟩ := h
  exact ⟨A, c, vo, h.mono hs⟩
theorem get_end (w : World) (g : Nat) (i : Nat) (n : Nat) (A : Option Addr) (c : Nat) (hi : i < n) (h1 : w.cell? ⟨g, 1, none⟩ = some (.slice A n c)) (h2 : w.cell? ⟨g, 41, none⟩ = some (.bool true)) (h3 : w.cell? ⟨g, 40, none⟩ = some (.bool true)) :
    Calls Try.prog 34 #[.pointer (some ⟨g, 0, none⟩), .int .i64 i] w fun e w' => e = .returned (.tuple #[.int .i64 0, .int .i64 6]) ∧ w = w' := by
  have hi1 : (0 : Int) ≤ (i : Int) := by omega
  have hi2 : (i : Int) < (n : Int) := by omega
  go_enter Try.func34, Try.ntmps34
  go_wp2_with (go_at_call 62; refine (dec_none _ _ _ h2).mono ?_; rintro e w' ⟨rfl, rfl⟩)
  go_ret2
  exact ⟨rfl, rfl⟩
theorem get_bad (w : World) (g : Nat) (i : Int) (n : Nat) (A : Option Addr) (c : Nat) (hi : ¬ (0 ≤ i ∧ i < n)) (h1 : w.cell? ⟨g, 1, none⟩ = some (.slice A n c)) (h2 : w.cell? ⟨g, 41, none⟩ = some (.bool true)) :
    Calls Try.prog 34 #[.pointer (some ⟨g, 0, none⟩), .int .i64 i] w fun e w' => e = .returned (.tuple #[.int .i64 0, .int .i64 2]) ∧ w = w' := by
  have hi' : i < 0 ∨ (i ≥ n ∧ ¬ i < 0) := by omega
  clear hi
  rcases hi' with h | ⟨h, h0⟩
  · go_enter Try.func34, Try.ntmps34
    go_wp2_with (go_at_call 62; refine (dec_none _ _ _ h2).mono ?_; rintro e w' ⟨rfl, rfl⟩)
    go_ret2
    exact ⟨rfl, rfl⟩
  · go_enter Try.func34, Try.ntmps34
    go_wp2_with (go_at_call 62; refine (dec_none _ _ _ h2).mono ?_; rintro e w' ⟨rfl, rfl⟩)
    go_ret2
    exact ⟨rfl, rfl⟩
theorem get_nil (w : World) (i : Int) : Calls Try.prog 34 #[.pointer none, .int .i64 i] w fun e w' => e = .returned (.tuple #[.int .i64 0, .int .i64 7]) ∧ w = w' := by
  go_enter Try.func34, Try.ntmps34
  go_wp2_with (go_at_call 62; refine (dec_none_nil _).mono ?_; rintro e w' ⟨rfl, rfl⟩)
  go_ret2
  exact ⟨rfl, rfl⟩
theorem get_calls (w : World) (S : Nat → Prop) (g : Nat) (s : DS) (i : Int) (hE : DecAt w S g s) (hS : ∀ k, S k → k < w.heap.size) (hok : s.ok) :
    Calls Try.prog 34 #[.pointer (some ⟨g, 0, none⟩), .int .i64 i] w fun e w' => e = .returned (.tuple #[.int .i64 (s.getI i).2.1, .int .i64 (s.getI i).2.2]) ∧ DecAt w' S g (s.getI i).1 ∧ Mods w w' S := by
  obtain ⟨A, c, vo, hR⟩ := hE
  unfold DS.getI
  by_cases hi : 0 ≤ i ∧ i < s.st.length
  · rw [if_pos hi]
    obtain ⟨j, rfl⟩ : ∃ j : Nat, i = (j : Int) := ⟨i.toNat, by omega⟩
    rw [Int.toNat_natCast]
    have hj : j < s.st.length := by omega
    by_cases he : s.ended = true
    · rw [if_pos he]
      have h40 := hR.c40
      rw [he] at h40
      refine (get_end w g j s.st.length A c hj hR.iv.s hR.c41 h40).mono ?_
      rintro e w' ⟨rfl, rfl⟩
      exact ⟨rfl, ⟨A, c, vo, hR⟩, Mods.refl _ _⟩
    · rw [if_neg he]
      have hef : s.ended = false := by simpa using he
      obtain ⟨b, rfl, _⟩ := hR.cell hj
      have hm := DS.mid_ hok hj
      have hc := DS.cut_ hok hj
      have hl := hok.l
      have hh := hok.h
      have hI : PutInv [] (cutL s.low (s.mid j) (s.bit j)) (cutH s.high (s.mid j) (s.bit j)) 4 (cutL s.low (s.mid j) (s.bit j)) (cutH s.high (s.mid j) (s.bit j)) [] := ⟨hc.1, hc.2.1, hc.2.2, by rw [show (256 : Int) ^ 4 = 4294967296 from rfl]; omega, rfl, rfl, Nat.le_refl _⟩
      have key : Calls Try.prog 34 #[.pointer (some ⟨g, 0, none⟩), .int .i64 j] w (GetPost w S g s.kind b c s.st s.low s.high (s.mid j) vo s.code s.a s.value j (s.bit j)) := by
        rw [hef] at hR
        by_cases hv : s.value ≤ s.mid j
        · have hb : s.bit j = 1 := if_pos hv
          rw [hb] at hI ⊢
          exact get_row1 w S g s.kind b c s.st s.low s.high (s.mid j) vo s.code s.a s.value j hR hS hj hok.m.2.1 (DS.at_ hok hj) hl hok.lh hh rfl (by omega) (by omega) hI hok.v0 hok.v1 hok.by_ hok.len hok.be hv
        · have hb : s.bit j = 0 := if_neg hv
          rw [hb] at hI ⊢
          exact get_row0 w S g s.kind b c s.st s.low s.high (s.mid j) vo s.code s.a s.value j hR hS hj hok.m.2.1 (DS.at_ hok hj) hl hok.lh hh rfl (by omega) (by omega) hI hok.v0 hok.v1 hok.by_ hok.len hok.be hv
      refine key.mono ?_
      rintro e w' ⟨⟨l, h, n, hn, hq⟩, hk⟩
      have hn' : s.norm j = (n, l, h) := hn
      rw [hn']
      rcases hq with ⟨hb, rfl, hD⟩ | ⟨hb, rfl, hD⟩
      · rw [if_pos hb]
        exact ⟨rfl, ⟨_, c, vo, hD⟩, hk⟩
      · rw [if_neg hb]
        refine ⟨rfl, ⟨some ⟨b, 0, none⟩, c, vo, ?_⟩, hk⟩
        have e1 : s.next j = ⟨s.kind, s.st.set j (after s.kind (rd s.st j) (s.bit j)), l, h, s.code, s.a + n.length, shV s.code n.length s.value s.a, false⟩ := by
          unfold DS.next
          rw [hn']
        rw [e1]
        exact hD
  · rw [if_neg hi]
    refine (get_bad w g i s.st.length A c hi hR.iv.s hR.c41).mono ?_
    rintro e w' ⟨rfl, rfl⟩
    exact ⟨rfl, ⟨A, c, vo, hR⟩, Mods.refl _ _⟩
end Go.Proofs.Ytpnmedmghncpiaa.Get
