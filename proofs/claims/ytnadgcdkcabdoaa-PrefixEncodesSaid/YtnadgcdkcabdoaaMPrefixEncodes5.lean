import Derived.Test.YtnadgcdkcabdoaaMPrefixEncodes1
import Derived.Test.YtnadgcdkcabdoaaMPrefixEncodes0
import Derived.SizedLaws
import Derived.ChangeSlices
import Derived.ChangeArms
import Derived.Test.YtnadgcdkcabdoaaMPrefixEncodes3
import Derived.Test.YtnadgcdkcabdoaaMPrefixEncodes2
import Derived.Test.YtnadgcdkcabdoaaMPrefixEncodes4
set_option linter.unusedVariables false
set_option linter.unusedSimpArgs false
namespace Go.Proofs.Ytnadgcdkcabdoaa.Opn
open Go Go.RowKit Go.Proofs.YtnadgcdkcabdoaaW.PrintWords Go.Proofs.YtnadgcdkcabdoaaW.PrintLast Go.Proofs.YtnadgcdkcabdoaaW.PrintMore Go.ChangeShapes Go.WideShapes
/-- The cells that the form reads at type t (with fuel N at the most) tell an element of the kind d, of which Wf holds. -/
structure OpensTo (P : Program) (N : Nat) {α : Type} (t : TypeId) (d : Kd α) (Wf : α → Prop) : Prop where
  sz : P.cellsOf t = d.sz
  op : ∀ {H : Type} {enc : TypeId × Value → H} {w : World} {fuel : Nat} {cs : List Value} {x : DataW H × List MemPlace}, fuel ≤ N → DataW.trod enc P w 0 (fun _ => true) true fuel t cs = some x → (∀ n ∈ x.1.weights P t, n ≤ reachBytes) → ∃ a : α, d.K w a cs ∧ Wf a
section
variable {P : Program} {N : Nat} {α β : Type} {t e : TypeId} {d : Kd α} {d' : Kd β} {Wf Wf2 : α → Prop} {Wf' : β → Prop}
theorem o_int {k : IntKind} (ht : P.underlying t = some (.int k)) (hc : P.cellsOf t = 1) : OpensTo P N t (Kd.int k) (fun n => (Lit.int k n).wf = true) := ⟨hc, fun _ hx _ => by
  obtain ⟨n, rfl, rfl, hw⟩ := DataW.trod_int ht hx
  exact ⟨n, rfl, hw⟩⟩
theorem o_bool (ht : P.underlying t = some .bool) (hc : P.cellsOf t = 1) : OpensTo P N t Kd.bool (fun _ => True) := ⟨hc, fun _ hx _ => by
  obtain ⟨n, rfl, rfl⟩ := DataW.trod_bool ht hx
  exact ⟨n, rfl, trivial⟩⟩
theorem o_iso {f : β → α} (g : α → β) (hg : ∀ a, f (g a) = a) (h : OpensTo P N t d Wf) : OpensTo P N t (Kd.iso d f) (fun x => Wf (f x)) := ⟨h.sz, fun hf hx hw => by
  obtain ⟨a, hk, hwf⟩ := h.op hf hx hw
  refine ⟨g a, ?_, ?_⟩
  · show d.K _ (f (g a)) _
    rw [hg]
    exact hk
  · rw [hg]
    exact hwf⟩
theorem pick_list {Q : Nat → α → Prop} : ∀ n : Nat, (∀ i, i < n → ∃ p, Q i p) → ∃ xs : List α, xs.length = n ∧ ∀ i p, xs[i]? = some p → Q i p
  | 0, _ => ⟨[], rfl, fun i p h => by simp at h⟩
  | n + 1, h => by
    obtain ⟨xs, hl, hq⟩ := pick_list n (fun i hi => h i (by omega))
    obtain ⟨p, hp⟩ := h n (by omega)
    refine ⟨xs ++ [p], by simp [hl], fun i q hi => ?_⟩
    rcases Nat.lt_or_ge i n with c | c
    · rw [List.getElem?_append_left (by omega)] at hi
      exact hq i q hi
    · rw [List.getElem?_append_right (by omega)] at hi
      obtain rfl : i = n := by
        have := (List.getElem?_eq_some_iff.1 hi).1
        simp at this
        omega
      simp [hl] at hi
      subst hi
      exact hp
theorem add_add' (a : Addr) (i j : Nat) : (a.add i).add j = a.add (i + j) := by
  unfold Addr.add
  by_cases h1 : i = 0 <;> by_cases h2 : j = 0 <;> simp [h1, h2, Nat.add_assoc]
theorem weights_all {H : Type} {e : TypeId} : ∀ {l : List (DataW H)} {y : DataW H}, y ∈ l → ∀ n ∈ y.weights P e, n ∈ DataW.weightsAll P e l
  | x :: l, y, hy, n, hn => by
    unfold DataW.weightsAll
    rcases List.mem_cons.1 hy with rfl | hy
    · exact List.mem_append.2 (.inl hn)
    · exact List.mem_append.2 (.inr (weights_all hy n hn))
theorem o_slice (hu : P.underlying t = some (.slice e)) (hc : P.cellsOf t = 1) (he : OpensTo P N e d Wf) {B : Nat} (hB : P.bytesOf e = B) :
    OpensTo P (N + 1) t (Kd.slice e d) (fun l => l.length * B ≤ 140737488351232 ∧ ∀ x ∈ l, Wf x) := ⟨hc, fun {H enc w fuel cs x} hf hx hw => by
  rcases DataW.trod_slice hu hx with ⟨rfl, rfl⟩ | ⟨a, len, cap, elems, rest, n, hfn, rfl, rfl, _, hl, hm, hlen, hel, _, _⟩
  · exact ⟨[], ⟨none, 0, rfl, Nat.le_refl _, Kd.C_nil d w⟩, by simp, fun x hx => by simp at hx⟩
  · have hq : ∀ i, i < len → ∃ p : α, (∃ cs', w.cells? 0 (a.add (i * P.cellsOf e)) (P.cellsOf e) = some cs' ∧ d.K w p cs') ∧ Wf p := by
      intro i hi
      have h1 := hel i hi
      obtain ⟨y, hy⟩ : ∃ y, elems[i]? = some y := ⟨_, List.getElem?_eq_getElem (by omega)⟩
      rw [hy, Option.bind_eq_some_iff] at h1
      obtain ⟨cs', hcs, h2⟩ := h1
      obtain ⟨p, hk, hwf⟩ := he.op (by omega) h2 (fun m hm' => hw m (by
        unfold DataW.weights
        rw [hu]
        refine List.mem_cons.2 (.inr (List.mem_append.2 (.inl (weights_all (y := y.1) ?_ m hm'))))
        exact List.mem_map.2 ⟨y, List.mem_of_getElem? hy, rfl⟩))
      exact ⟨p, ⟨cs', hcs, hk⟩, hwf⟩
    obtain ⟨xs, hxl, hxs⟩ := pick_list len hq
    have hcap : cap ≤ 9223372036854775807 := by simpa [maxLen] using hm
    refine ⟨xs, ⟨some a, cap, by rw [hxl], by omega, rfl, by omega, fun _ => ⟨a, rfl, fun j p hj => ?_⟩⟩, ?_, fun x hx => ?_⟩
    · obtain ⟨⟨cs', hcs, hk⟩, _⟩ := hxs j p hj
      obtain ⟨_, hl2, hcell⟩ := World.cells?_some hcs
      refine ⟨cs', d.K_len hk, hk, fun i u hi => ?_⟩
      have h3 := hcell i (by rw [← hl2]; exact (List.getElem?_eq_some_iff.1 hi).1)
      rw [add_add', he.sz, hi] at h3
      exact h3
    · have h4 := hw ((elems.length + rest.length) * P.bytesOf e) (by
        unfold DataW.weights
        rw [hu]
        simp)
      have h5 : len * B ≤ (elems.length + rest.length) * B := Nat.mul_le_mul_right _ (by omega)
      rw [hB] at h4
      rw [hxl]
      exact Nat.le_trans h5 h4
    · obtain ⟨i, hi⟩ := List.getElem?_of_mem hx
      exact (hxs i x hi).2⟩
/-- The same for a struct's fields from offset o on. -/
structure OpensF (P : Program) (N : Nat) {α : Type} (fs : List Field) (o : Nat) (d : Kd α) (Wf : α → Prop) : Prop where
  op : ∀ {H : Type} {enc : TypeId × Value → H} {w : World} {fuel : Nat} {cs : List Value} {xs : List (DataW H × List MemPlace)}, fuel ≤ N → cs.length = o + d.sz → xs.length = fs.length →
    (∀ (i : Nat) (f : Field), fs[i]? = some f → DataW.trod enc P w 0 (fun _ => true) true fuel f.type ((cs.drop f.offset).take (P.cellsOf f.type)) = xs[i]?) →
    (∀ n ∈ DataW.weightsEach P (fs.map (·.type)) (xs.map (·.1)), n ≤ reachBytes) → ∃ a : α, d.K w a (cs.drop o) ∧ Wf a
theorem f_one {f : Field} {o : Nat} (ho : f.offset = o) (h : OpensTo P N f.type d Wf) : OpensF P N [f] o d Wf := ⟨by
  intro H enc w fuel cs xs hf hl hxl hx hw
  match xs, hxl with
  | [x], _ =>
    have h1 := hx 0 f rfl
    rw [ho, h.sz, List.take_of_length_le (by rw [List.length_drop]; omega)] at h1
    exact h.op hf h1 (fun n hn => hw n (by simp [DataW.weightsEach, hn]))⟩
theorem f_cons {f : Field} {fs : List Field} {o : Nat} (ho : f.offset = o) (h : OpensTo P N f.type d Wf) (hs : OpensF P N fs (o + d.sz) d' Wf') : OpensF P N (f :: fs) o (Kd.pair d d') (fun x => Wf x.1 ∧ Wf' x.2) := ⟨by
  intro H enc w fuel cs xs hf hl hxl hx hw
  match xs, hxl with
  | x :: xs, hxl =>
    have hl' : cs.length = o + (d.sz + d'.sz) := hl
    have h1 := hx 0 f rfl
    rw [ho, h.sz] at h1
    obtain ⟨a, hk, hwf⟩ := h.op hf h1 (fun n hn => hw n (by simp [DataW.weightsEach, hn]))
    obtain ⟨b, hk', hwf'⟩ := hs.op (xs := xs) hf (by rw [hl']; omega) (by simpa using hxl) (fun i g hg => by simpa using hx (i + 1) g (by simpa using hg)) (fun n hn => hw n (by
      simp only [List.map_cons, DataW.weightsEach]
      exact List.mem_append.2 (.inr hn)))
    refine ⟨(a, b), ⟨_, _, ?_, hk, hk'⟩, hwf, hwf'⟩
    rw [← List.drop_drop, List.take_append_drop]⟩
theorem o_struct {fs : Array Field} (hu : P.underlying t = some (.struct fs)) (hc : P.cellsOf t = d.sz) (h : OpensF P N fs.toList 0 d Wf) : OpensTo P (N + 1) t d Wf := ⟨hc, fun {H enc w fuel cs x} hf hx hw => by
  obtain ⟨xs, n, hfn, rfl, hl, hxl, hel⟩ := DataW.trod_struct hu hx
  have := h.op (xs := xs) (cs := cs) (w := w) (enc := enc) (fuel := n) (by omega) (by rw [hl, hc, Nat.zero_add]) (by simpa using hxl) (fun i f hf' => hel i f (by simpa using hf')) (fun m hm => hw m (by
    unfold DataW.weights
    rw [hu]
    exact hm))
  simpa using this⟩
/-- A row's argument that is read whole: at whatever fuel. -/
theorem open_arg {H : Type} {enc : TypeId × Value → H} {W : World} {v : Value} {x : DataW H} {p : List MemPlace} {ts : List TypeId} {ds : List (DataW H)} {j : Nat} (ho : ∀ n, OpensTo P (n + N) t d Wf)
    (h : DataW.Trod enc P W 0 (fun _ => true) true t v x p) (hsz : (DataW.weightsEach P ts ds).all (· ≤ reachBytes) = true) (ht : ts[j]? = some t) (hd : ds[j]? = some x) : ∃ a : α, d.K W a v.cells.toList ∧ Wf a := by
  obtain ⟨fuel, hf⟩ := h
  refine (ho fuel).op (by omega) hf (fun n hn => ?_)
  have := List.all_eq_true.1 hsz n (DataW.weights_mem_each ht hd n hn)
  simpa using this
end
end Go.Proofs.Ytnadgcdkcabdoaa.Opn
namespace Go.Proofs.Ytnadgcdkcabdoaa.U
open Go.RowKit Go.Proofs.YtnadgcdkcabdoaaW.PrintWords Go.Proofs.YtnadgcdkcabdoaaW.PrintLast Go.Proofs.YtnadgcdkcabdoaaW.PrintMore
attribute [local go_sem] max2_int min2_int max_two min_two max_three min_three max_four min_four   -- for this text's walks alone
def prefix_Complete.f (k : Nat) (l0 : List (S32)) : Option (Bool × Int) := (prefix_Valid.f k l0).bind fun t315 => (if t315 = true then ((prefix_weight.f k l0).bind fun bt316 => (some ((bt316.1 == 32768), 0))) else (some (false, 20)))
theorem prefix_Complete.mono : ∀ a0 k, LeO (prefix_Complete.f k a0) (prefix_Complete.f (k + 1) a0) := by
 intro a0 k; unfold prefix_Complete.f
 repeat' first
  | (with_reducible exact prefix_Valid.mono _ _)
  | (with_reducible exact prefix_weight.mono _ _)
  | (with_reducible exact LeO.refl _)
  | (with_reducible exact LeO.none _)
  | (with_reducible refine LeO.ite ?_ ?_)
  | (with_reducible refine LeO.bind ?_ (fun _ => ?_))
  | exact prefix_Valid.mono _ _
  | exact prefix_weight.mono _ _
  | exact LeO.none _
  | refine LeO.ite ?_ ?_
  | refine LeO.bind ?_ (fun _ => ?_)
set_option maxHeartbeats 8000000 in
set_option maxRecDepth 100000 in
theorem prefix_Complete.calls (k : Nat) (A0 : Option Addr) (c0 : Nat) (l0 : List (S32)) (r1 : Bool) (r2 : Int) (w : World) (hr0 : Kd.C k32 w A0 l0.length l0) (hc0 : l0.length ≤ c0) (h : prefix_Complete.f k l0 = some (r1, r2)) :
    Calls Try.prog 22 #[.slice A0 l0.length c0] w fun e w' => e = .returned (.tuple #[.bool r1, .int .i64 r2]) ∧ Below w.heap.size w w' := by
 have HR0 := Aside0.mk hr0; have HC0 := Aside0.mk hc0; clear hr0 hc0; have HB := Aside0.mk (Below.refl w.heap.size w); have H : ((prefix_Valid.f k l0).bind fun t315 => (if t315 = true then ((prefix_weight.f k l0).bind fun bt316 => (some ((bt316.1 == 32768), 0))) else (some (false, 20)))) = some (r1, r2) := h; clear h; replace H := Option.bind_eq_some_iff.mp H; obtain ⟨t315, A20, H⟩ := H; replace H : (if t315 = true then ((prefix_weight.f k l0).bind fun bt316 => (some ((bt316.1 == 32768), 0))) else (some (false, 20))) = some (r1, r2) := H; have A2 := Aside0.mk A20; clear A20; by_cases c3 : t315 = true
 (· subst c3; (have H1 : ((prefix_weight.f k l0).bind fun bt316 => (some ((bt316.1 == 32768), 0))) = some (r1, r2) := by rw [if_pos rfl] at H; exact H); clear H; have H := H1; clear H1; replace H := Option.bind_eq_some_iff.mp H; obtain ⟨⟨t316, t317, t318⟩, A40, H⟩ := H; replace H : (some ((t316 == 32768), 0)) = some (r1, r2) := H; have A4 := Aside0.mk A40; clear A40; simp only [Option.some.injEq, Prod.mk.injEq] at H; obtain ⟨rfl, rfl⟩ := H; go_enter Try.func22, Try.ntmps22; go_wp2_with (first | ((with_reducible refine gate_callee (f := 23) rfl ?_); refine goesL_ (some 8) rfl rfl Try.func23 (by kernel_rfl) rfl #[.slice A0 l0.length c0] rfl (by (try simp only [List.map_toArray, List.map_cons, List.map_nil]); first | done | rfl | (simp only [List.length_drop, List.length_take]; rfl)) ?_; (with_reducible refine (prefix_Valid.calls k _ _ l0 true _ ?side1 ?side2 A2.out).mono ?_); (case side1 => repeat (first | exact HR0.out | (with_reducible refine Kd.C_alloc ?_ _) | (with_reducible refine Kd.C_drewN ?_ _) | (with_reducible refine Kd.C_drew ?_))); (case side2 => exact HC0.out); rintro e w5 ⟨rfl, hb⟩; refine ⟨_, rfl, ?_⟩; have n0_ := Aside0.mk (below_step (by repeat (first | (with_reducible first | exact HB.out | apply below_alloc | apply pw_below_drewN | apply below_drew1) | exact HB.out)) hb); clear HB; have HB := n0_; clear n0_; (try clear hb); (try clear hb2); (try clear hk); (try clear hi)) | ((with_reducible refine gate_callee (f := 46) rfl ?_); refine goesL_ (some 12) rfl rfl Try.func46 (by kernel_rfl) rfl #[.slice A0 l0.length c0] rfl (by (try simp only [List.map_toArray, List.map_cons, List.map_nil]); first | done | rfl | (simp only [List.length_drop, List.length_take]; rfl)) ?_; (with_reducible refine (prefix_weight.calls k _ _ l0 t316 t317 t318 _ ?side1 ?side2 A4.out).mono ?_); (case side1 => repeat (first | exact (Kd.C_below HR0.out HB.out) | (with_reducible refine Kd.C_alloc ?_ _) | (with_reducible refine Kd.C_drewN ?_ _) | (with_reducible refine Kd.C_drew ?_))); (case side2 => exact HC0.out); rintro e w6 ⟨rfl, hb⟩; refine ⟨_, rfl, ?_⟩; have n0_ := Aside0.mk (below_step (by repeat (first | (with_reducible first | exact HB.out | apply below_alloc | apply pw_below_drewN | apply below_drew1) | exact HB.out)) hb); clear HB; have HB := n0_; clear n0_; (try clear hb); (try clear hb2); (try clear hk); (try clear hi))); go_ret2; (exact ⟨by first | rfl | (simp [errW_none, errW_some] <;> rfl) | (simp [*, errW_none, errW_some] <;> rfl), by repeat (first | (with_reducible first | exact HB.out | apply below_alloc | apply pw_below_drewN | apply below_drew1) | exact HB.out)⟩))
 (· replace c3 := Bool.eq_false_iff.mpr c3; subst c3; (have H1 : (some (false, 20)) = some (r1, r2) := by rw [if_neg (show ¬ (false = true) by decide)] at H; exact H); clear H; have H := H1; clear H1; simp only [Option.some.injEq, Prod.mk.injEq] at H; obtain ⟨rfl, rfl⟩ := H; go_enter Try.func22, Try.ntmps22; go_wp2_with (first | ((with_reducible refine gate_callee (f := 23) rfl ?_); refine goesL_ (some 8) rfl rfl Try.func23 (by kernel_rfl) rfl #[.slice A0 l0.length c0] rfl (by (try simp only [List.map_toArray, List.map_cons, List.map_nil]); first | done | rfl | (simp only [List.length_drop, List.length_take]; rfl)) ?_; (with_reducible refine (prefix_Valid.calls k _ _ l0 false _ ?side1 ?side2 A2.out).mono ?_); (case side1 => repeat (first | exact HR0.out | (with_reducible refine Kd.C_alloc ?_ _) | (with_reducible refine Kd.C_drewN ?_ _) | (with_reducible refine Kd.C_drew ?_))); (case side2 => exact HC0.out); rintro e w7 ⟨rfl, hb⟩; refine ⟨_, rfl, ?_⟩; have n0_ := Aside0.mk (below_step (by repeat (first | (with_reducible first | exact HB.out | apply below_alloc | apply pw_below_drewN | apply below_drew1) | exact HB.out)) hb); clear HB; have HB := n0_; clear n0_; (try clear hb); (try clear hb2); (try clear hk); (try clear hi))); go_ret2; (exact ⟨by first | rfl | (simp [errW_none, errW_some] <;> rfl) | (simp [*, errW_none, errW_some] <;> rfl), by repeat (first | (with_reducible first | exact HB.out | apply below_alloc | apply pw_below_drewN | apply below_drew1) | exact HB.out)⟩))
end Go.Proofs.Ytnadgcdkcabdoaa.U
namespace Go.Proofs.Ytnadgcdkcabdoaa.U
open Go.RowKit Go.Proofs.YtnadgcdkcabdoaaW.PrintWords Go.Proofs.YtnadgcdkcabdoaaW.PrintLast Go.Proofs.YtnadgcdkcabdoaaW.PrintMore
attribute [local go_sem] max2_int min2_int max_two min_two max_three min_three max_four min_four   -- for this text's walks alone
def incunableref04_Complete.f (k : Nat) (l0 : List (S32)) : Option (Bool) := (incunableref04_share.f k l0).bind fun bt259 => (some (bt259.1 == 32768))
theorem incunableref04_Complete.mono : ∀ a0 k, LeO (incunableref04_Complete.f k a0) (incunableref04_Complete.f (k + 1) a0) := by
 intro a0 k; unfold incunableref04_Complete.f
 repeat' first
  | (with_reducible exact incunableref04_share.mono _ _)
  | (with_reducible exact LeO.refl _)
  | (with_reducible exact LeO.none _)
  | (with_reducible refine LeO.ite ?_ ?_)
  | (with_reducible refine LeO.bind ?_ (fun _ => ?_))
  | exact incunableref04_share.mono _ _
  | exact LeO.none _
  | refine LeO.ite ?_ ?_
  | refine LeO.bind ?_ (fun _ => ?_)
set_option maxHeartbeats 8000000 in
set_option maxRecDepth 100000 in
theorem incunableref04_Complete.calls (k : Nat) (A0 : Option Addr) (c0 : Nat) (l0 : List (S32)) (r : Bool) (w : World) (hr0 : Kd.C k32 w A0 l0.length l0) (hc0 : l0.length ≤ c0) (h : incunableref04_Complete.f k l0 = some r) :
    Calls Try.prog 21 #[.slice A0 l0.length c0] w fun e w' => e = .returned (.bool r) ∧ Below w.heap.size w w' := by
 have HR0 := Aside0.mk hr0; have HC0 := Aside0.mk hc0; clear hr0 hc0; have HB := Aside0.mk (Below.refl w.heap.size w); have H : ((incunableref04_share.f k l0).bind fun bt259 => (some (bt259.1 == 32768))) = some r := h; clear h; replace H := Option.bind_eq_some_iff.mp H; obtain ⟨⟨t259, t260, t261⟩, A20, H⟩ := H; replace H : (some (t259 == 32768)) = some r := H; have A2 := Aside0.mk A20; clear A20; obtain rfl := Option.some.inj H; go_enter Try.func21, Try.ntmps21; go_wp2_with (first | ((with_reducible refine gate_callee (f := 45) rfl ?_); refine goesL_ (some 8) rfl rfl Try.func45 (by kernel_rfl) rfl #[.slice A0 l0.length c0] rfl (by (try simp only [List.map_toArray, List.map_cons, List.map_nil]); first | done | rfl | (simp only [List.length_drop, List.length_take]; rfl)) ?_; (with_reducible refine (incunableref04_share.calls k _ _ l0 t259 t260 t261 _ ?side1 ?side2 A2.out).mono ?_); (case side1 => repeat (first | exact HR0.out | (with_reducible refine Kd.C_alloc ?_ _) | (with_reducible refine Kd.C_drewN ?_ _) | (with_reducible refine Kd.C_drew ?_))); (case side2 => exact HC0.out); rintro e w3 ⟨rfl, hb⟩; refine ⟨_, rfl, ?_⟩; have n0_ := Aside0.mk (below_step (by repeat (first | (with_reducible first | exact HB.out | apply below_alloc | apply pw_below_drewN | apply below_drew1) | exact HB.out)) hb); clear HB; have HB := n0_; clear n0_; (try clear hb); (try clear hb2); (try clear hk); (try clear hi))); go_ret
 (exact ⟨by first | rfl | (simp [errW_none, errW_some] <;> rfl) | (simp [*, errW_none, errW_some] <;> rfl), by repeat (first | (with_reducible first | exact HB.out | apply below_alloc | apply pw_below_drewN | apply below_drew1) | exact HB.out)⟩)
end Go.Proofs.Ytnadgcdkcabdoaa.U
namespace Go.Proofs.Ytnadgcdkcabdoaa.Tab
open Go Go.RowKit Go.Proofs.YtnadgcdkcabdoaaW.PrintWords Go.Proofs.YtnadgcdkcabdoaaW.PrintLast Go.Proofs.YtnadgcdkcabdoaaW.PrintMore Go.Proofs.Ytnadgcdkcabdoaa.Aid Go.Proofs.Ytnadgcdkcabdoaa.U
abbrev Ln := S32
theorem drop_rdL {l : List Ln} {i : Nat} (h : i < l.length) : l.drop i = rd_T32 l (i : Int) :: l.drop (i + 1) := by
  rw [List.drop_eq_getElem_cons h]
  simp [rd_T32, List.getD_eq_getElem?_getD, List.getElem?_eq_getElem h]
theorem rdL_mem {l : List Ln} {i : Nat} (h : i < l.length) : rd_T32 l (i : Int) ∈ l := by
  have h1 := drop_rdL h
  exact List.mem_of_mem_drop (h1 ▸ List.mem_cons_self)
/-- A line in range. -/
def lineB (x : Ln) : Bool := decide (0 ≤ x.f0 ∧ x.f0 ≤ 15 ∧ 0 ≤ x.f1 ∧ x.f1 ≤ 20 ∧ -1048576 ≤ x.f2 ∧ x.f2 ≤ 1048576 ∧ 0 ≤ x.f3 ∧ x.f3 ≤ 2 ∧ (x.f3 = 2 → x.f1 = 0 ∧ x.f2 = 0))
theorem right_eq (x : Ln) : incunableref04_right.f x.f0 x.f1 x.f2 x.f3 = some (lineB x) := by
  unfold incunableref04_right.f lineB
  repeat' split
  all_goals first
    | (congr 1; symm; apply decide_eq_false; omega)
    | (congr 1; symm; apply decide_eq_true; omega)
    | (congr 1; by_cases h : x.f2 = 0
       · rw [beq_iff_eq.2 h]; symm; apply decide_eq_true; omega
       · rw [beq_eq_false_iff_ne.2 h]; symm; apply decide_eq_false; omega)
theorem isLine_eq (x : Ln) : prefix_isLine.f x.f0 x.f1 x.f2 x.f3 = some (lineB x) := right_eq x
/-- What a line takes of 2^15. -/
def wS (x : Ln) : Int := if x.f0 = 0 then 0 else 2 ^ (15 - x.f0).toNat
def uS (x : Ln) : Int := if x.f0 = 0 then 0 else 1
def nS (x : Ln) : Int := if x.f0 = 0 then 0 else if x.f3 = 2 then 1 else 0
def sumI (f : Ln → Int) : List Ln → Int
  | [] => 0
  | x :: l => f x + sumI f l
theorem shl1 : ∀ n, n < 16 → shl .i64 1 (n : Nat) = 2 ^ n := by decide
theorem shl_w {x : Ln} (h : lineB x = true) : shl .i64 1 (wrap64 (15 - x.f0)) = 2 ^ (15 - x.f0).toNat := by
  have h1 := of_decide_eq_true h
  rw [wrap_id (by omega) (by omega)]
  obtain ⟨n, hn⟩ : ∃ n : Nat, 15 - x.f0 = n := ⟨(15 - x.f0).toNat, by omega⟩
  rw [hn, Int.toNat_natCast]
  exact shl1 n (by omega)
theorem pow15 : ∀ n, n < 16 → (1 : Int) ≤ 2 ^ n ∧ (2 : Int) ^ n ≤ 32768 := by decide
theorem wS_range {x : Ln} (h : lineB x = true) : 0 ≤ wS x ∧ wS x ≤ 32768 := by
  have h1 := of_decide_eq_true h
  unfold wS
  split
  · omega
  · have := pow15 (15 - x.f0).toNat (by omega); omega
theorem share_loop (t : List Ln) (hn : t.length ≤ 64) (hv : ∀ x ∈ t, lineB x = true) : ∀ (d i : Nat) (a b c : Int), i + d = t.length → 0 ≤ a → a ≤ 32768 * i → 0 ≤ b → b ≤ i → 0 ≤ c → c ≤ i →
    Ev (fun k => incunableref04_share.l0 k a b c t (t.length : Int) (i : Int)) (a + sumI wS (t.drop i), b + sumI uS (t.drop i), c + sumI nS (t.drop i))
  | 0, i, a, b, c, hd, _, _, _, _, _, _ => by
    refine ev_succ ?_
    simp only [incunableref04_share.l0]
    refine ev_eq (ev_neg (by omega) (Ev.now _)) ?_
    rw [List.drop_of_length_le (by omega)]
    simp [sumI]
  | d + 1, i, a, b, c, hd, h1, h2, h3, h4, h5, h6 => by
    have hi : i < t.length := by omega
    have hl := hv _ (rdL_mem hi)
    have hl2 := of_decide_eq_true hl
    have hw := wS_range hl
    rw [drop_rdL hi]
    obtain ⟨x, hx⟩ : ∃ x, rd_T32 t (i : Int) = x := ⟨_, rfl⟩
    refine ev_succ ?_
    simp only [incunableref04_share.l0, incunableref04_used.f, Option.bind_some, hx]
    rw [hx] at hl hl2 hw
    refine ev_pos (by omega) (ev_pos (by omega) (ev_pos (by omega) ?_))
    rw [wrap_id (n := (i : Int) + 1) (by omega) (by omega)]
    by_cases c0 : x.f0 = 0
    · refine ev_neg (by rw [c0]; decide) ?_
      refine ev_eq (share_loop t hn hv d (i + 1) a b c (by omega) h1 (by omega) h3 (by omega) h5 (by omega)) ?_
      simp [sumI, wS, uS, nS, c0]
    · refine ev_pos (by simp; omega) (ev_pos (by rw [wrap_id (by omega) (by omega)]; omega) ?_)
      rw [shl_w hl]
      have hwe : wS x = 2 ^ (15 - x.f0).toNat := if_neg c0
      rw [← hwe, wrap_id (n := a + wS x) (by omega) (by omega), wrap_id (n := b + 1) (by omega) (by omega), wrap_id (n := c + 1) (by omega) (by omega)]
      by_cases c3 : x.f3 = 2
      · refine ev_pos c3 (ev_eq (share_loop t hn hv d (i + 1) _ _ _ (by omega) (by omega) (by omega) (by omega) (by omega) (by omega) (by omega)) ?_)
        have hu : uS x = 1 := if_neg c0
        have hns : nS x = 1 := by unfold nS; rw [if_neg c0, if_pos c3]
        simp only [sumI, hu, hns]
        simp only [Prod.mk.injEq]
        omega
      · refine ev_neg c3 (ev_eq (share_loop t hn hv d (i + 1) _ _ _ (by omega) (by omega) (by omega) (by omega) (by omega) (by omega) (by omega)) ?_)
        have hu : uS x = 1 := if_neg c0
        have hns : nS x = 0 := by unfold nS; rw [if_neg c0, if_neg c3]
        simp only [sumI, hu, hns]
        simp only [Prod.mk.injEq]
        omega
theorem weight_loop (t : List Ln) (hn : t.length ≤ 64) (hv : ∀ x ∈ t, lineB x = true) : ∀ (d i : Nat) (a b c : Int), i + d = t.length → 0 ≤ a → a ≤ 32768 * i → 0 ≤ b → b ≤ i → 0 ≤ c → c ≤ i →
    Ev (fun k => prefix_weight.l0 k a b c t (t.length : Int) (i : Int)) (a + sumI wS (t.drop i), b + sumI uS (t.drop i), c + sumI nS (t.drop i))
  | 0, i, a, b, c, hd, _, _, _, _, _, _ => by
    refine ev_succ ?_
    simp only [prefix_weight.l0]
    refine ev_eq (ev_neg (by omega) (Ev.now _)) ?_
    rw [List.drop_of_length_le (by omega)]
    simp [sumI]
  | d + 1, i, a, b, c, hd, h1, h2, h3, h4, h5, h6 => by
    have hi : i < t.length := by omega
    have hl := hv _ (rdL_mem hi)
    have hl2 := of_decide_eq_true hl
    have hw := wS_range hl
    rw [drop_rdL hi]
    obtain ⟨x, hx⟩ : ∃ x, rd_T32 t (i : Int) = x := ⟨_, rfl⟩
    refine ev_succ ?_
    simp only [prefix_weight.l0, hx]
    rw [hx] at hl hl2 hw
    refine ev_pos (by omega) (ev_pos (by omega) (ev_pos (by omega) ?_))
    rw [wrap_id (n := (i : Int) + 1) (by omega) (by omega)]
    by_cases c0 : x.f0 = 0
    · refine ev_pos c0 ?_
      refine ev_eq (weight_loop t hn hv d (i + 1) a b c (by omega) h1 (by omega) h3 (by omega) h5 (by omega)) ?_
      simp [sumI, wS, uS, nS, c0]
    · refine ev_neg c0 (ev_pos (by rw [wrap_id (by omega) (by omega)]; omega) ?_)
      rw [shl_w hl]
      have hwe : wS x = 2 ^ (15 - x.f0).toNat := if_neg c0
      rw [← hwe, wrap_id (n := a + wS x) (by omega) (by omega), wrap_id (n := b + 1) (by omega) (by omega), wrap_id (n := c + 1) (by omega) (by omega)]
      by_cases c3 : x.f3 = 2
      · refine ev_pos c3 (ev_eq (weight_loop t hn hv d (i + 1) _ _ _ (by omega) (by omega) (by omega) (by omega) (by omega) (by omega) (by omega)) ?_)
        have hu : uS x = 1 := if_neg c0
        have hns : nS x = 1 := by unfold nS; rw [if_neg c0, if_pos c3]
        simp only [sumI, hu, hns]
        simp only [Prod.mk.injEq]
        omega
      · refine ev_neg c3 (ev_eq (weight_loop t hn hv d (i + 1) _ _ _ (by omega) (by omega) (by omega) (by omega) (by omega) (by omega) (by omega)) ?_)
        have hu : uS x = 1 := if_neg c0
        have hns : nS x = 0 := by unfold nS; rw [if_neg c0, if_neg c3]
        simp only [sumI, hu, hns]
        simp only [Prod.mk.injEq]
        omega
theorem share_ev (t : List Ln) (hn : t.length ≤ 64) (hv : ∀ x ∈ t, lineB x = true) : Ev (fun k => incunableref04_share.f k t) (sumI wS t, sumI uS t, sumI nS t) := by
  unfold incunableref04_share.f
  refine ev_eq (share_loop t hn hv t.length 0 0 0 0 (by omega) (by omega) (by omega) (by omega) (by omega) (by omega) (by omega)) ?_
  simp
theorem weight_ev (t : List Ln) (hn : t.length ≤ 64) (hv : ∀ x ∈ t, lineB x = true) : Ev (fun k => prefix_weight.f k t) (sumI wS t, sumI uS t, sumI nS t) := by
  unfold prefix_weight.f
  refine ev_eq (weight_loop t hn hv t.length 0 0 0 0 (by omega) (by omega) (by omega) (by omega) (by omega) (by omega) (by omega)) ?_
  simp
/-- Which tables are valid. -/
def vldP (t : List Ln) : Prop := t.length ≤ 64 ∧ (∀ x ∈ t, lineB x = true) ∧ 1 ≤ sumI uS t ∧ sumI nS t ≤ 1 ∧ sumI wS t ≤ 32768
instance (t : List Ln) : Decidable (vldP t) := by unfold vldP; infer_instance
theorem rvalid_loop (t : List Ln) (hn : t.length ≤ 64) : ∀ (d i : Nat), i + d = t.length → (∀ x ∈ t.take i, lineB x = true) → Ev (fun k => incunableref04_Valid.l0 k t t (t.length : Int) (i : Int)) (decide (vldP t))
  | 0, i, hd, hp => by
    rw [List.take_of_length_le (by omega)] at hp
    refine ev_succ ?_
    simp only [incunableref04_Valid.l0]
    refine ev_neg (by omega) (ev_bind (share_ev t hn hp) ?_)
    dsimp only
    by_cases c1 : sumI uS t ≥ 1
    · refine ev_pos c1 ?_
      by_cases c2 : sumI nS t ≤ 1
      · refine ev_pos c2 (ev_eq (Ev.now _) ?_)
        by_cases c3 : sumI wS t ≤ 32768
        · rw [decide_eq_true c3, decide_eq_true (show vldP t from ⟨hn, hp, c1, c2, c3⟩)]
        · rw [decide_eq_false c3, decide_eq_false (fun h : vldP t => c3 h.2.2.2.2)]
      · exact ev_neg c2 (ev_eq (Ev.now _) (decide_eq_false (fun h : vldP t => c2 h.2.2.2.1)).symm)
    · exact ev_neg c1 (ev_eq (Ev.now _) (decide_eq_false (fun h : vldP t => c1 h.2.2.1)).symm)
  | d + 1, i, hd, hp => by
    have hi : i < t.length := by omega
    have hm := rdL_mem hi
    have hd1 := drop_rdL hi
    obtain ⟨x, hx⟩ : ∃ x, rd_T32 t (i : Int) = x := ⟨_, rfl⟩
    refine ev_succ ?_
    simp only [incunableref04_Valid.l0, hx, right_eq, Option.bind_some]
    rw [hx] at hm hd1
    refine ev_pos (by omega) (ev_pos (by omega) (ev_pos (by omega) ?_))
    rw [wrap_id (n := (i : Int) + 1) (by omega) (by omega)]
    by_cases c : lineB x = true
    · refine ev_pos c (rvalid_loop t hn d (i + 1) (by omega) ?_)
      intro y hy
      rw [List.take_succ_eq_append_getElem hi] at hy
      rcases List.mem_append.1 hy with hy | hy
      · exact hp y hy
      · rw [List.mem_singleton.1 hy]
        rw [List.drop_eq_getElem_cons hi] at hd1
        injection hd1 with h1 _
        rw [h1]
        exact c
    · exact ev_neg c (ev_eq (Ev.now _) (decide_eq_false (fun h : vldP t => c (h.2.1 x hm))).symm)
theorem pvalid_loop (t : List Ln) (hn : t.length ≤ 64) : ∀ (d i : Nat), i + d = t.length → (∀ x ∈ t.take i, lineB x = true) → Ev (fun k => prefix_Valid.l0 k t t (t.length : Int) (i : Int)) (decide (vldP t))
  | 0, i, hd, hp => by
    rw [List.take_of_length_le (by omega)] at hp
    refine ev_succ ?_
    simp only [prefix_Valid.l0]
    refine ev_neg (by omega) (ev_bind (weight_ev t hn hp) ?_)
    dsimp only
    by_cases c1 : sumI uS t > 0
    · refine ev_pos c1 ?_
      by_cases c2 : sumI nS t ≤ 1
      · refine ev_pos c2 (ev_eq (Ev.now _) ?_)
        by_cases c3 : sumI wS t ≤ 32768
        · rw [decide_eq_true c3, decide_eq_true (show vldP t from ⟨hn, hp, c1, c2, c3⟩)]
        · rw [decide_eq_false c3, decide_eq_false (fun h : vldP t => c3 h.2.2.2.2)]
      · exact ev_neg c2 (ev_eq (Ev.now _) (decide_eq_false (fun h : vldP t => c2 h.2.2.2.1)).symm)
    · exact ev_neg c1 (ev_eq (Ev.now _) (decide_eq_false (fun h : vldP t => c1 h.2.2.1)).symm)
  | d + 1, i, hd, hp => by
    have hi : i < t.length := by omega
    have hm := rdL_mem hi
    have hd1 := drop_rdL hi
    obtain ⟨x, hx⟩ : ∃ x, rd_T32 t (i : Int) = x := ⟨_, rfl⟩
    refine ev_succ ?_
    simp only [prefix_Valid.l0, hx, isLine_eq, Option.bind_some]
    rw [hx] at hm hd1
    refine ev_pos (by omega) (ev_pos (by omega) (ev_pos (by omega) ?_))
    rw [wrap_id (n := (i : Int) + 1) (by omega) (by omega)]
    by_cases c : lineB x = true
    · refine ev_pos c (pvalid_loop t hn d (i + 1) (by omega) ?_)
      intro y hy
      rw [List.take_succ_eq_append_getElem hi] at hy
      rcases List.mem_append.1 hy with hy | hy
      · exact hp y hy
      · rw [List.mem_singleton.1 hy]
        rw [List.drop_eq_getElem_cons hi] at hd1
        injection hd1 with h1 _
        rw [h1]
        exact c
    · exact ev_neg c (ev_eq (Ev.now _) (decide_eq_false (fun h : vldP t => c (h.2.1 x hm))).symm)
theorem rvalid_ev (t : List Ln) : Ev (fun k => incunableref04_Valid.f k t) (decide (vldP t)) := by
  unfold incunableref04_Valid.f
  by_cases c : (t.length : Int) > 64
  · exact ev_pos c (ev_eq (Ev.now _) (decide_eq_false (fun h : vldP t => by have := h.1; omega)).symm)
  · exact ev_neg c (rvalid_loop t (by omega) t.length 0 (by omega) (by simp))
theorem pvalid_ev (t : List Ln) : Ev (fun k => prefix_Valid.f k t) (decide (vldP t)) := by
  unfold prefix_Valid.f
  by_cases c : (t.length : Int) > 64
  · exact ev_pos c (ev_eq (Ev.now _) (decide_eq_false (fun h : vldP t => by have := h.1; omega)).symm)
  · exact ev_neg c (pvalid_loop t (by omega) t.length 0 (by omega) (by simp))
theorem awake_ev : Ev (fun k => incunablelaw04_Awake.f k) true := Ev.of incunablelaw04_Awake.mono (k := 40) (by kernel_rfl)
end Go.Proofs.Ytnadgcdkcabdoaa.Tab
namespace Go.Proofs.Ytnadgcdkcabdoaa.U
open Go.RowKit Go.Proofs.YtnadgcdkcabdoaaW.PrintWords Go.Proofs.YtnadgcdkcabdoaaW.PrintLast Go.Proofs.YtnadgcdkcabdoaaW.PrintMore
attribute [local go_sem] max2_int min2_int max_two min_two max_three min_three max_four min_four   -- for this text's walks alone
def prefix_Bits.f (k : Nat) (l0 : List (S32)) (a1_0 : Bool) (a1_1 : Int) : Option (List Int × Int) := (prefix_Valid.f k l0).bind fun t443 => (if t443 = true then ((prefix_codes.f k l0).bind fun t444 => ((prefix_put.f k l0 t444 a1_0 a1_1).bind fun bt447 => (some (bt447.1, bt447.2)))) else (some (([] : List Int), 20)))
theorem prefix_Bits.mono : ∀ a0 a1 a2 k, LeO (prefix_Bits.f k a0 a1 a2) (prefix_Bits.f (k + 1) a0 a1 a2) := by
 intro a0 a1 a2 k; unfold prefix_Bits.f
 repeat' first
  | (with_reducible exact prefix_Valid.mono _ _)
  | (with_reducible exact prefix_codes.mono _ _)
  | (with_reducible exact prefix_put.mono _ _ _ _ _)
  | (with_reducible exact LeO.refl _)
  | (with_reducible exact LeO.none _)
  | (with_reducible refine LeO.ite ?_ ?_)
  | (with_reducible refine LeO.bind ?_ (fun _ => ?_))
  | exact prefix_Valid.mono _ _
  | exact prefix_codes.mono _ _
  | exact prefix_put.mono _ _ _ _ _
  | exact LeO.none _
  | refine LeO.ite ?_ ?_
  | refine LeO.bind ?_ (fun _ => ?_)
def prefix_Bits.T3 : Bool × List (List Nat × List Nat) := (true, [([], []), ([], []), ([1], [1]), ([], []), ([0, 2, 3, 2], [0, 2, 3]), ([4], [4]), ([4], [4]), ([5, 4, 0, 1, 2, 3, 4, 5, 6], [5]), ([6, 7, 0, 1, 2, 3, 4, 5, 6, 7], [6])])
def prefix_Bits.B3 : List Nat := [0, 0, 2, 0, 15, 31, 31, 127, 255]
theorem prefix_Bits.tab3 : rtab .any (opsOf Try.f30 3) = prefix_Bits.T3 := by kernel_rfl
theorem prefix_Bits.bits3 : waitsOk prefix_Bits.T3.2 prefix_Bits.B3 = true := by kernel_rfl
set_option maxHeartbeats 8000000 in
set_option maxRecDepth 100000 in
theorem prefix_Bits.calls (k : Nat) (A0 : Option Addr) (c0 : Nat) (l0 : List (S32)) (a1_0 : Bool) (a1_1 : Int) (r1 : List Int) (r2 : Int) (w : World) (hr0 : Kd.C k32 w A0 l0.length l0) (hc0 : l0.length ≤ c0) (h : prefix_Bits.f k l0 a1_0 a1_1 = some (r1, r2)) :
    Calls Try.prog 30 #[.slice A0 l0.length c0, .agg #[.bool a1_0, .int .i64 a1_1]] w fun e w' => ∃ v0_ : Value, e = .returned (.tuple #[v0_, .int .i64 r2]) ∧ Kd.R (Kd.int .u8) 5 w' w.heap.size (fun _ => True) v0_ r1 ∧ Below w.heap.size w w' := by
 have hu48 := Try.underlying48; have HR0 := Aside0.mk hr0; have HC0 := Aside0.mk hc0; clear hr0 hc0; have HB := Aside0.mk (Below.refl w.heap.size w); have H : ((prefix_Valid.f k l0).bind fun t443 => (if t443 = true then ((prefix_codes.f k l0).bind fun t444 => ((prefix_put.f k l0 t444 a1_0 a1_1).bind fun bt447 => (some (bt447.1, bt447.2)))) else (some (([] : List Int), 20)))) = some (r1, r2) := h; clear h; replace H := Option.bind_eq_some_iff.mp H; obtain ⟨t443, A30, H⟩ := H; replace H : (if t443 = true then ((prefix_codes.f k l0).bind fun t444 => ((prefix_put.f k l0 t444 a1_0 a1_1).bind fun bt447 => (some (bt447.1, bt447.2)))) else (some (([] : List Int), 20))) = some (r1, r2) := H; have A3 := Aside0.mk A30; clear A30; by_cases c4 : t443 = true
 (· subst c4; (have H1 : ((prefix_codes.f k l0).bind fun t444 => ((prefix_put.f k l0 t444 a1_0 a1_1).bind fun bt447 => (some (bt447.1, bt447.2)))) = some (r1, r2) := by rw [if_pos rfl] at H; exact H); clear H; have H := H1; clear H1; replace H := Option.bind_eq_some_iff.mp H; obtain ⟨t444, A50, H⟩ := H; replace H : ((prefix_put.f k l0 t444 a1_0 a1_1).bind fun bt447 => (some (bt447.1, bt447.2))) = some (r1, r2) := H; have A5 := Aside0.mk A50; clear A50; replace H := Option.bind_eq_some_iff.mp H; obtain ⟨⟨t447, t450⟩, A60, H⟩ := H; replace H : (some (t447, t450)) = some (r1, r2) := H; have A6 := Aside0.mk A60; clear A60; simp only [Option.some.injEq, Prod.mk.injEq] at H; obtain ⟨rfl, rfl⟩ := H; go_enter Try.func30, Try.ntmps30; (try go_wp2_with (first | ((with_reducible refine gate_dst (N := 3) rfl ?_); refine box_event ?hg (N := 3) ?hd (cs := #[.bool a1_0, .int .i64 a1_1]) (t := 48) ?hr ?_; (case hd => rfl); (case hg => rfl); (case hr => first | (go_simp; done) | (go_simp; rfl)); intro gb442 hg w7 hbox hb; have n0_ := Aside0.mk (below_step (by repeat (first | (with_reducible first | exact HB.out | apply below_alloc | apply pw_below_drewN | apply below_drew1) | exact HB.out)) hb); have n1_ := Aside0.mk (hbox); have n2_ := Aside0.mk ((by rw [hg]; exact (below_size (by repeat (first | (with_reducible first | exact HB.out | apply below_alloc | apply pw_below_drewN | apply below_drew1) | exact HB.out))) : w.heap.size ≤ gb442)); have n3_ := Aside0.mk ((by rw [hg]; exact (below_size (by repeat (first | (with_reducible first | exact HB.out | apply below_alloc | apply pw_below_drewN | apply below_drew1) | exact HB.out))) : w.heap.size ≤ gb442)); clear HB; have HB := n0_; have BK442 := n1_; have GW442 := n2_; have GE442 := n3_; clear n0_ n1_ n2_ n3_; clear hb hbox hg) | ((with_reducible refine gate_callee (f := 23) rfl ?_); refine goesL_ (some 7) rfl rfl Try.func23 (by kernel_rfl) rfl #[.slice A0 l0.length c0] rfl (by (try simp only [List.map_toArray, List.map_cons, List.map_nil]); first | done | rfl | (simp only [List.length_drop, List.length_take]; rfl)) ?_; (with_reducible refine (prefix_Valid.calls k _ _ l0 true _ ?side1 ?side2 A3.out).mono ?_); (case side1 => repeat (first | exact (Kd.C_below HR0.out HB.out) | (with_reducible refine Kd.C_alloc ?_ _) | (with_reducible refine Kd.C_drewN ?_ _) | (with_reducible refine Kd.C_drew ?_))); (case side2 => exact HC0.out); rintro e w8 ⟨rfl, hb⟩; refine ⟨_, rfl, ?_⟩; have n0_ := Aside0.mk (blk_below (g := gb442) (o := .cells #[.bool a1_0, .int .i64 a1_1] 48 (0, 0)) (by (with_reducible repeat (first | refine blk_drewN ?_ _ | refine blk_drew ?_ | refine blk_alloc ?_ _)); exact BK442.out) hb); have n1_ := Aside0.mk (below_step (by repeat (first | (with_reducible first | exact HB.out | apply below_alloc | apply pw_below_drewN | apply below_drew1 | refine below_set ?_ GE442.out) | exact HB.out)) hb); clear BK442; clear HB; have BK442 := n0_; have HB := n1_; clear n0_ n1_; (try clear hb); (try clear hb2); (try clear hk); (try clear hi)))); have n0_ := Aside0.mk (blk_drew BK442.out); have n1_ := Aside0.mk (below_drew1 HB.out); clear BK442; clear HB; have BK442 := n0_; have HB := n1_; clear n0_ n1_; refine start_ (n := 9) (S := fun w' => w'.cell? ⟨gb442, 0, none⟩ = some (.bool a1_0) ∧ w'.cell? ⟨gb442, 1, none⟩ = some (.int .i64 a1_1)) (ds := []) #[false, false, false, false, false, false, false, false, false] (by kernel_rfl) rfl rfl ⟨(blk_cell BK442.out 0).trans rfl, (blk_cell BK442.out 1).trans rfl⟩ (fun hHeld => ?_); refine with_tabW prefix_Bits.tab3 prefix_Bits.bits3 (fun HT_ HW_ => ?_); generalize w8.drew = w9 at BK442 HB hHeld ⊢; refine pure_ (i := 0) (N := some 9) (v := ?_) (a' := ?_) #[true, false, false, false, false, false, false, false, false] rfl rfl (any_of HT_.out (by kernel_rfl)) (fun _ _ _ h => h) (Or.inl ⟨by rfl, ?_⟩) ?_ ?_; rotate_left; (· intro w'; go_simp; (with_reducible rfl)); rotate_left; (· simp only [Act.put, List.setIfInBounds_toArray, List.set_cons_zero, List.set_cons_succ, i64_w, i32_w]; rfl); refine pure_ (i := 1) (N := some 10) (v := ?_) (a' := ?_) #[true, true, false, false, false, false, false, false, false] rfl rfl (any_of HT_.out (by kernel_rfl)) (fun _ _ _ h => h) (Or.inl ⟨by rfl, ?_⟩) ?_ ?_; rotate_left; (· intro w'; go_simp; (with_reducible rfl)); rotate_left; (· simp only [Act.put, List.setIfInBounds_toArray, List.set_cons_zero, List.set_cons_succ, i64_w, i32_w]; rfl); refine take_ (i := 3) (N := some 12) (v := ?_) (a' := ?_) #[true, true, false, true, false, false, false, false, false] rfl rfl (take_ofW HT_.out HW_.out (by kernel_rfl)) (fun _ _ _ h => h) (Or.inl ⟨by rfl, ?_⟩) hHeld ?_ ?_; rotate_left; (· rintro w' ⟨s0, s1⟩; go_simp; (with_reducible rfl)); rotate_left; (· simp only [Act.put, List.setIfInBounds_toArray, List.set_cons_zero, List.set_cons_succ, i64_w, i32_w]; rfl); refine one_ (i := 2) (N := some 11) #[true, true, true, true, false, false, false, false, false] rfl rfl (one_of HT_.out (by kernel_rfl)) (by decide) (fun K hK => ?_); refine goes_ Try.func49 (by kernel_rfl) rfl #[.slice A0 l0.length c0] (by rfl) rfl rfl (by (try simp only [List.map_toArray, List.map_cons, List.map_nil]); first | done | rfl | (simp only [List.length_drop, List.length_take]; rfl)) ?_; (with_reducible refine (prefix_codes.calls k _ _ l0 t444 _ ?side1 ?side2 A5.out).mono ?_); (case side1 => repeat (first | exact (Kd.C_below HR0.out HB.out) | (with_reducible refine Kd.C_alloc ?_ _) | (with_reducible refine Kd.C_drewN ?_ _) | (with_reducible refine Kd.C_drew ?_))); (case side2 => exact HC0.out); rintro e w10 ⟨v445, rfl, ho0, hb⟩; refine ⟨_, rfl, ?_⟩; have n0_ := Aside0.mk (Kd.R_lower ho0 (below_size (by repeat (first | (with_reducible first | exact HB.out | apply below_alloc | apply pw_below_drewN | apply below_drew1 | refine below_set ?_ GE442.out) | exact HB.out)))); have n1_ := Aside0.mk (blk_below (g := gb442) (o := .cells #[.bool a1_0, .int .i64 a1_1] 48 (0, 0)) (by (with_reducible repeat (first | refine blk_drewN ?_ _ | refine blk_drew ?_ | refine blk_alloc ?_ _)); exact BK442.out) hb); have n2_ := Aside0.mk (below_step (by repeat (first | (with_reducible first | exact HB.out | apply below_alloc | apply pw_below_drewN | apply below_drew1 | refine below_set ?_ GE442.out) | exact HB.out)) hb); clear BK442; clear HB; have HO446 := n0_; have BK442 := n1_; have HB := n2_; clear n0_ n1_ n2_; (try clear hb); (try clear hb2); (try clear hk); (try clear hi); (try clear ho0); obtain ⟨Ao11, co11, eo11⟩ := Kd.R_slice HO446.out; (first | subst eo11 | (injection eo11 with f1_ f2_ f3_; have f4_ := f1_.symm; have f5_ := f3_.symm; clear f1_ f2_ f3_; subst f4_; subst f5_)); refine hK.out _ _ ⟨(blk_cell BK442.out 0).trans rfl, (blk_cell BK442.out 1).trans rfl⟩ (fun hHeld => ?_); clear hK K; refine norm_ (a' := ?_) ?_ ?_; rotate_left; (· show Act.put _ (some 11) _ = _; simp only [Act.put, List.setIfInBounds_toArray, List.set_cons_zero, List.set_cons_succ, i64_w, i32_w]; rfl); refine one_ (i := 4) (N := some 13) #[true, true, true, true, true, false, false, false, false] rfl rfl (one_of HT_.out (by kernel_rfl)) (by decide) (fun K hK => ?_); refine goes_ Try.func53 (by kernel_rfl) rfl #[.slice A0 l0.length c0, .slice Ao11 t444.length co11, .agg #[.bool a1_0, .int .i64 a1_1]] (by rfl) rfl rfl (by (try simp only [List.map_toArray, List.map_cons, List.map_nil]); first | done | rfl | (simp only [List.length_drop, List.length_take]; rfl)) ?_; (with_reducible refine (prefix_put.calls k _ _ l0 _ _ t444 a1_0 a1_1 t447 t450 _ ?side1 ?side2 ?side3 ?side4 A6.out).mono ?_); (case side1 => repeat (first | exact (Kd.C_below HR0.out HB.out) | (with_reducible refine Kd.C_alloc ?_ _) | (with_reducible refine Kd.C_drewN ?_ _) | (with_reducible refine Kd.C_drew ?_))); (case side2 => exact HC0.out); (case side3 => repeat (first | exact (Kd.R_reads' HO446.out).2.2 | (with_reducible refine Kd.C_alloc ?_ _) | (with_reducible refine Kd.C_drewN ?_ _) | (with_reducible refine Kd.C_drew ?_))); (case side4 => exact (Kd.R_reads' HO446.out).2.1); rintro e w12 ⟨v448, rfl, ho0, hb⟩; refine ⟨_, rfl, ?_⟩; have n0_ := Aside0.mk (Kd.R_below (by (with_reducible repeat (first | apply Kd.R_alloc | apply Kd.R_drewN | apply Kd.R_drew)); exact HO446.out) hb); have n1_ := Aside0.mk (Kd.R_lower ho0 (below_size (by repeat (first | (with_reducible first | exact HB.out | apply below_alloc | apply pw_below_drewN | apply below_drew1 | refine below_set ?_ GE442.out) | exact HB.out)))); have n2_ := Aside0.mk (blk_below (g := gb442) (o := .cells #[.bool a1_0, .int .i64 a1_1] 48 (0, 0)) (by (with_reducible repeat (first | refine blk_drewN ?_ _ | refine blk_drew ?_ | refine blk_alloc ?_ _)); exact BK442.out) hb); have n3_ := Aside0.mk (below_step (by repeat (first | (with_reducible first | exact HB.out | apply below_alloc | apply pw_below_drewN | apply below_drew1 | refine below_set ?_ GE442.out) | exact HB.out)) hb); clear HO446; clear BK442; clear HB; have HO446 := n0_; have HO449 := n1_; have BK442 := n2_; have HB := n3_; clear n0_ n1_ n2_ n3_; (try clear hb); (try clear hb2); (try clear hk); (try clear hi); (try clear ho0); refine hK.out _ _ ⟨(blk_cell BK442.out 0).trans rfl, (blk_cell BK442.out 1).trans rfl⟩ (fun hHeld => ?_); clear hK K; refine norm_ (a' := ?_) ?_ ?_; rotate_left; (· show Act.put _ (some 13) _ = _; simp only [Act.put, List.setIfInBounds_toArray, List.set_cons_zero, List.set_cons_succ, i64_w, i32_w]; rfl); refine pure_ (i := 5) (N := some 14) (v := ?_) (a' := ?_) #[true, true, true, true, true, true, false, false, false] rfl rfl (any_of HT_.out (by kernel_rfl)) (fun _ _ _ h => h) (Or.inl ⟨by rfl, ?_⟩) ?_ ?_; rotate_left; (· intro w'; go_simp; (with_reducible rfl)); rotate_left; (· simp only [Act.put, List.setIfInBounds_toArray, List.set_cons_zero, List.set_cons_succ, i64_w, i32_w]; rfl); refine pure_ (i := 6) (N := some 15) (v := ?_) (a' := ?_) #[true, true, true, true, true, true, true, false, false] rfl rfl (any_of HT_.out (by kernel_rfl)) (fun _ _ _ h => h) (Or.inl ⟨by rfl, ?_⟩) ?_ ?_; rotate_left; (· intro w'; go_simp; (with_reducible rfl)); rotate_left; (· simp only [Act.put, List.setIfInBounds_toArray, List.set_cons_zero, List.set_cons_succ, i64_w, i32_w]; rfl); refine pure_ (i := 7) (N := some 4) (v := ?_) (a' := ?_) #[true, true, true, true, true, true, true, true, false] rfl rfl (any_of HT_.out (by kernel_rfl)) (fun _ _ _ h => h) (Or.inl ⟨by rfl, ?_⟩) ?_ ?_; rotate_left; (· intro w'; go_simp; (with_reducible rfl)); rotate_left; (· simp only [Act.put, List.setIfInBounds_toArray, List.set_cons_zero, List.set_cons_succ, i64_w, i32_w]; rfl); refine pure_ (i := 8) (N := some 5) (v := ?_) (a' := ?_) #[true, true, true, true, true, true, true, true, true] rfl rfl (any_of HT_.out (by kernel_rfl)) (fun _ _ _ h => h) (Or.inl ⟨by rfl, ?_⟩) ?_ ?_; rotate_left; (· intro w'; go_simp; (with_reducible rfl)); rotate_left; (· simp only [Act.put, List.setIfInBounds_toArray, List.set_cons_zero, List.set_cons_succ, i64_w, i32_w]; rfl); refine done_ (done_of HT_.out (by kernel_rfl)) ?_; (try go_wp2); go_ret2; (exact ⟨_, by first | rfl | (simp [errW_none, errW_some] <;> rfl) | (simp [*, errW_none, errW_some] <;> rfl), by (with_reducible repeat (first | apply Kd.R_alloc | apply Kd.R_drewN | apply Kd.R_drew)); exact HO449.out, by repeat (first | (with_reducible first | exact HB.out | apply below_alloc | apply pw_below_drewN | apply below_drew1 | refine below_set ?_ GE442.out) | exact HB.out)⟩))
 (· replace c4 := Bool.eq_false_iff.mpr c4; subst c4; (have H1 : (some (([] : List Int), 20)) = some (r1, r2) := by rw [if_neg (show ¬ (false = true) by decide)] at H; exact H); clear H; have H := H1; clear H1; simp only [Option.some.injEq, Prod.mk.injEq] at H; obtain ⟨rfl, rfl⟩ := H; go_enter Try.func30, Try.ntmps30; go_wp2_with (first | ((with_reducible refine gate_dst (N := 3) rfl ?_); refine box_event ?hg (N := 3) ?hd (cs := #[.bool a1_0, .int .i64 a1_1]) (t := 48) ?hr ?_; (case hd => rfl); (case hg => rfl); (case hr => first | (go_simp; done) | (go_simp; rfl)); intro gb442 hg w13 hbox hb; have n0_ := Aside0.mk (below_step (by repeat (first | (with_reducible first | exact HB.out | apply below_alloc | apply pw_below_drewN | apply below_drew1) | exact HB.out)) hb); have n1_ := Aside0.mk (hbox); have n2_ := Aside0.mk ((by rw [hg]; exact (below_size (by repeat (first | (with_reducible first | exact HB.out | apply below_alloc | apply pw_below_drewN | apply below_drew1) | exact HB.out))) : w.heap.size ≤ gb442)); have n3_ := Aside0.mk ((by rw [hg]; exact (below_size (by repeat (first | (with_reducible first | exact HB.out | apply below_alloc | apply pw_below_drewN | apply below_drew1) | exact HB.out))) : w.heap.size ≤ gb442)); clear HB; have HB := n0_; have BK442 := n1_; have GW442 := n2_; have GE442 := n3_; clear n0_ n1_ n2_ n3_; clear hb hbox hg) | ((with_reducible refine gate_callee (f := 23) rfl ?_); refine goesL_ (some 7) rfl rfl Try.func23 (by kernel_rfl) rfl #[.slice A0 l0.length c0] rfl (by (try simp only [List.map_toArray, List.map_cons, List.map_nil]); first | done | rfl | (simp only [List.length_drop, List.length_take]; rfl)) ?_; (with_reducible refine (prefix_Valid.calls k _ _ l0 false _ ?side1 ?side2 A3.out).mono ?_); (case side1 => repeat (first | exact (Kd.C_below HR0.out HB.out) | (with_reducible refine Kd.C_alloc ?_ _) | (with_reducible refine Kd.C_drewN ?_ _) | (with_reducible refine Kd.C_drew ?_))); (case side2 => exact HC0.out); rintro e w14 ⟨rfl, hb⟩; refine ⟨_, rfl, ?_⟩; have n0_ := Aside0.mk (blk_below (g := gb442) (o := .cells #[.bool a1_0, .int .i64 a1_1] 48 (0, 0)) (by (with_reducible repeat (first | refine blk_drewN ?_ _ | refine blk_drew ?_ | refine blk_alloc ?_ _)); exact BK442.out) hb); have n1_ := Aside0.mk (below_step (by repeat (first | (with_reducible first | exact HB.out | apply below_alloc | apply pw_below_drewN | apply below_drew1 | refine below_set ?_ GE442.out) | exact HB.out)) hb); clear BK442; clear HB; have BK442 := n0_; have HB := n1_; clear n0_ n1_; (try clear hb); (try clear hb2); (try clear hk); (try clear hi))); go_ret2; (exact ⟨_, by first | rfl | (simp [errW_none, errW_some] <;> rfl) | (simp [*, errW_none, errW_some] <;> rfl), by first | exact Kd.R_nil _ _ _ _ _ | exact Kd.N_nil _ _ _ _ _ | exact Kd.V_nil _ _ _ _ _ | exact Kd.Q_nil _ _ _ _ _ | exact Kd.S_nil _ _ _ _ _, by repeat (first | (with_reducible first | exact HB.out | apply below_alloc | apply pw_below_drewN | apply below_drew1 | refine below_set ?_ GE442.out) | exact HB.out)⟩))
end Go.Proofs.Ytnadgcdkcabdoaa.U
namespace Go.Proofs.Ytnadgcdkcabdoaa.Cdx
open Go Go.RowKit Go.Proofs.YtnadgcdkcabdoaaW.PrintWords Go.Proofs.YtnadgcdkcabdoaaW.PrintLast Go.Proofs.YtnadgcdkcabdoaaW.PrintMore Go.Proofs.Ytnadgcdkcabdoaa.Aid Go.Proofs.Ytnadgcdkcabdoaa.U Go.Proofs.Ytnadgcdkcabdoaa.Tab
/-- The lowest n bits of a number, the highest first. -/
def digs (x : Int) (n : Nat) : List Int := (List.range n).map fun i => x / 2 ^ (n - 1 - i) % 2
theorem digs_len (x : Int) (n : Nat) : (digs x n).length = n := by simp [digs]
theorem digs_succ (x : Int) (n : Nat) : digs x (n + 1) = x / 2 ^ n % 2 :: digs x n := by
  unfold digs
  rw [List.range_succ_eq_map, List.map_cons, List.map_map]
  congr 1
  refine List.map_congr_left fun i hi => ?_
  simp only [Function.comp]
  rw [show n + 1 - 1 - (i + 1) = n - 1 - i by omega]
theorem and1 {x : Int} (h : 0 ≤ x) (h' : x < 9223372036854775808) : Go.bits .and .i64 x 1 = x % 2 :=
  bits_mask .i64 63 (by decide) (fun n a b => by rw [i64_w]; exact wrap_id (by omega) (by omega)) 1 (by decide) x h h'
theorem shr64 (x : Int) {m : Nat} (h : m ≤ 64) : shr .i64 x (m : Int) = x / 2 ^ m := by
  show x / 2 ^ min (m : Int).toNat 64 = x / 2 ^ m
  rw [Int.toNat_natCast, Nat.min_eq_left h]
theorem div_pos_le {x : Int} (h : 0 ≤ x) (m : Nat) : 0 ≤ x / 2 ^ m ∧ x / 2 ^ m ≤ x :=
  ⟨Int.ediv_nonneg h (Int.pow_nonneg (by decide)), Int.ediv_le_self _ h⟩
theorem pdig_loop (x : Int) (n : Nat) (hx : 0 ≤ x) (hx2 : x < 9223372036854775808) (hn : n ≤ 64) : ∀ (d i : Nat), i + d = n →
    Ev (fun k => prefix_digits.l0 k x n ((List.range n).map fun j => if j < i then x / 2 ^ (n - 1 - j) % 2 else 0) (n : Int) (i : Int)) (digs x n)
  | 0, i, hd => by
    refine ev_succ ?_
    simp only [prefix_digits.l0]
    refine ev_eq (ev_neg (by omega) (Ev.now _)) ?_
    unfold digs
    refine List.map_congr_left fun j hj => ?_
    have := List.mem_range.1 hj
    rw [if_pos (by omega)]
  | d + 1, i, hd => by
    have hi : i < n := by omega
    have hm : (n : Int) - 1 - i = ((n - 1 - i : Nat) : Int) := by omega
    have hq := div_pos_le hx (n - 1 - i)
    refine ev_succ ?_
    simp only [prefix_digits.l0]
    rw [wrap_id (n := (n : Int) - 1) (by omega) (by omega), wrap_id (n := (n : Int) - 1 - i) (by omega) (by omega), wrap_id (n := (i : Int) + 1) (by omega) (by omega), hm, shr64 x (by omega), and1 hq.1 (by omega), Int.toNat_natCast]
    refine ev_pos (by omega) (ev_pos (by omega) (ev_pos (by omega) (ev_pos (by simp; omega) ?_)))
    rw [set_range_map _ (fun j => if j < i + 1 then x / 2 ^ (n - 1 - j) % 2 else 0) i _ hi (by rw [if_pos (by omega)]; omega) (fun j hj hne => by
      by_cases c : j < i
      · rw [if_pos c, if_pos (by omega)]
      · rw [if_neg c, if_neg (by omega)])]
    exact pdig_loop x n hx hx2 hn d (i + 1) (by omega)
theorem pdig_ev (x : Int) (n : Nat) (hx : 0 ≤ x) (hx2 : x < 9223372036854775808) (hn : n ≤ 64) : Ev (fun k => prefix_digits.f k x (n : Int)) (digs x n) := by
  unfold prefix_digits.f
  refine ev_pos (by omega) (ev_pos (by rw [Int.toNat_natCast]; omega) ?_)
  simp only [Option.bind_some, Int.toNat_natCast, List.length_replicate]
  have h := pdig_loop x n hx hx2 hn n 0 (by omega)
  have e : ((List.range n).map fun j => if j < 0 then x / 2 ^ (n - 1 - j) % 2 else 0) = List.replicate n 0 := by
    rw [List.eq_replicate_iff]
    simp
  rw [e] at h
  exact h
theorem rdig_loop (x : Int) (hx : 0 ≤ x) (hx2 : x < 9223372036854775808) : ∀ (d : Nat) (acc : List Int), d ≤ 64 → acc.length + d ≤ 128 → Ev (fun k => incunableref04_digits.l0 k x acc ((d : Int) - 1)) (acc ++ digs x d)
  | 0, acc, _, _ => by
    refine ev_succ ?_
    simp only [incunableref04_digits.l0]
    exact ev_eq (ev_neg (by omega) (Ev.now _)) (by simp [digs])
  | d + 1, acc, h1, h2 => by
    have hq := div_pos_le hx d
    refine ev_succ ?_
    simp only [incunableref04_digits.l0]
    rw [show ((d + 1 : Nat) : Int) - 1 = (d : Int) by omega, wrap_id (n := (d : Int) - 1) (by omega) (by omega), shr64 x (by omega), tmod_id hq.1, show x / 2 ^ d % 2 % 256 = x / 2 ^ d % 2 by omega]
    refine ev_pos (by omega) (ev_pos (by omega) (ev_pos (by omega) ?_))
    refine ev_eq (rdig_loop x hx hx2 d _ (by omega) (by simp; omega)) ?_
    rw [digs_succ]
    simp
theorem rdig_ev (x : Int) (n : Nat) (hx : 0 ≤ x) (hx2 : x < 9223372036854775808) (hn : n ≤ 64) : Ev (fun k => incunableref04_digits.f k x (n : Int)) (digs x n) := by
  unfold incunableref04_digits.f
  rw [wrap_id (by omega) (by omega)]
  exact ev_eq (rdig_loop x hx hx2 n [] hn (by simp; omega)) (by simp)
/-- How much of 2^15 the lines in front of line i, among those of length L, take. -/
def front (L : Int) : Nat → List Ln → Int
  | _, [] => 0
  | i, x :: l => (if x.f0 < L then wS x else if x.f0 = L then (if 0 < i then wS x else 0) else 0) + front L (i - 1) l
theorem front_range {L : Int} : ∀ (t : List Ln) (i : Nat), (∀ x ∈ t, lineB x = true) → 0 ≤ front L i t ∧ front L i t ≤ sumI wS t
  | [], _, _ => by simp [front, sumI]
  | x :: l, i, h => by
    have h1 := front_range (L := L) l (i - 1) (fun y hy => h y (List.mem_cons_of_mem _ hy))
    have h2 := wS_range (h x List.mem_cons_self)
    simp only [front, sumI]
    split
    · omega
    · split
      · split <;> omega
      · omega
/-- The line's length. -/
abbrev len (t : List Ln) (i : Nat) : Int := (rd_T32 t (i : Int)).f0
theorem code_loop (t : List Ln) (i : Nat) (hi : i < t.length) (hv : vldP t) : ∀ (d q : Nat) (a : Int), q + d = t.length → 0 ≤ a → a + front (len t i) (i - q) (t.drop q) ≤ 32768 →
    Ev (fun k => incunableref04_Code.l0 k t i a t (t.length : Int) (q : Int)) (digs ((a + front (len t i) (i - q) (t.drop q)) / 2 ^ (15 - len t i).toNat) (len t i).toNat)
  | 0, q, a, hd, h0, hS => by
    have hl := of_decide_eq_true (hv.2.1 _ (rdL_mem hi))
    have ht := hv.1
    rw [List.drop_of_length_le (by omega)] at hS ⊢
    simp only [front, Int.add_zero] at hS ⊢
    refine ev_succ ?_
    simp only [incunableref04_Code.l0]
    obtain ⟨m, hm⟩ : ∃ m : Nat, len t i = m := ⟨(len t i).toNat, (Int.toNat_of_nonneg hl.1).symm⟩
    have hm2 : (rd_T32 t (i : Int)).f0 = m := hm
    rw [hm2] at hl ⊢
    rw [show len t i = (m : Int) from hm]
    rw [wrap_id (n := 15 - (m : Int)) (by omega) (by omega)]
    have e : (15 : Int) - m = ((15 - m : Nat) : Int) := by omega
    rw [e, shr64 a (by omega), Int.toNat_natCast, Int.toNat_natCast]
    have hq := div_pos_le h0 (15 - m)
    exact ev_neg (by omega) (ev_pos (by omega) (ev_pos (by omega) (ev_pos (by omega) (ev_bind (rdig_ev _ m hq.1 (by omega) (by omega)) (Ev.now _)))))
  | d + 1, q, a, hd, h0, hS => by
    have hq : q < t.length := by omega
    have ht := hv.1
    have hl := hv.2.1 _ (rdL_mem hq)
    have hl2 := of_decide_eq_true hl
    have hw := wS_range hl
    have hrest := front_range (L := len t i) (t.drop (q + 1)) (i - (q + 1)) (fun x hx => hv.2.1 x (List.mem_of_mem_drop hx))
    rw [drop_rdL hq] at hS ⊢
    simp only [front] at hS ⊢
    rw [show i - q - 1 = i - (q + 1) by omega] at hS ⊢
    obtain ⟨x, hx⟩ : ∃ x, rd_T32 t (q : Int) = x := ⟨_, rfl⟩
    obtain ⟨m, hm⟩ : ∃ m, rd_T32 t (i : Int) = m := ⟨_, rfl⟩
    rw [hx] at hl hl2 hw hS ⊢
    have ih := fun b h1 h2 => code_loop t i hi hv d (q + 1) b (by omega) h1 h2
    refine ev_succ ?_
    simp only [incunableref04_Code.l0, incunableref04_used.f, Option.bind_some, hx]
    rw [wrap_id (n := (q : Int) + 1) (by omega) (by omega)]
    refine ev_pos (by omega) (ev_pos (by omega) (ev_pos (by omega) ?_))
    by_cases c0 : x.f0 = 0
    · refine ev_neg (by rw [c0]; decide) ?_
      have hw0 : wS x = 0 := if_pos c0
      have e : (if x.f0 < len t i then wS x else if x.f0 = len t i then (if 0 < i - q then wS x else 0) else 0) = 0 := by
        rw [hw0]; repeat' split
        all_goals rfl
      rw [e, Int.zero_add] at hS ⊢
      exact ih a h0 hS
    · have hwe : wS x = 2 ^ (15 - x.f0).toNat := if_neg c0
      have hsh := shl_w hl
      rw [← hwe] at hsh
      refine ev_pos (by simp; omega) (ev_pos (by omega) (ev_pos (by omega) ?_))
      rw [hsh]
      have hlen : len t i = (rd_T32 t (i : Int)).f0 := rfl
      by_cases c1 : x.f0 < len t i
      · rw [if_pos c1] at hS ⊢
        refine ev_pos c1 (ev_pos (by rw [wrap_id (by omega) (by omega)]; omega) ?_)
        rw [wrap_id (n := a + wS x) (by omega) (by omega), ← Int.add_assoc]
        exact ih _ (by omega) (by omega)
      · rw [if_neg c1] at hS ⊢
        refine ev_neg c1 ?_
        by_cases c2 : x.f0 = len t i
        · rw [if_pos c2] at hS ⊢
          refine ev_pos c2 ?_
          by_cases c3 : (q : Int) < (i : Int)
          · rw [if_pos (by omega)] at hS ⊢
            refine ev_pos c3 (ev_pos (by rw [wrap_id (by omega) (by omega)]; omega) ?_)
            rw [wrap_id (n := a + wS x) (by omega) (by omega), ← Int.add_assoc]
            exact ih _ (by omega) (by omega)
          · rw [if_neg (by omega), Int.zero_add] at hS ⊢
            exact ev_neg c3 (ih a h0 hS)
        · rw [if_neg c2, Int.zero_add] at hS ⊢
          exact ev_neg c2 (ih a h0 hS)
/-- A line's code as a number. -/
def cnum (t : List Ln) (i : Nat) : Int := front (len t i) i t / 2 ^ (15 - len t i).toNat
theorem code_ev (t : List Ln) (i : Nat) (hi : i < t.length) (hv : vldP t) : Ev (fun k => incunableref04_Code.f k t i) (digs (cnum t i) (len t i).toNat) := by
  unfold incunableref04_Code.f
  have h := code_loop t i hi hv t.length 0 0 (by omega) (by omega) (by have := (front_range (L := len t i) t i hv.2.1).2; have := hv.2.2.2.2; simp; omega)
  simpa [cnum] using h
end Go.Proofs.Ytnadgcdkcabdoaa.Cdx
namespace Go.Proofs.Ytnadgcdkcabdoaa.Cdy
open Go Go.RowKit Go.Proofs.YtnadgcdkcabdoaaW.PrintWords Go.Proofs.YtnadgcdkcabdoaaW.PrintLast Go.Proofs.YtnadgcdkcabdoaaW.PrintMore Go.Proofs.Ytnadgcdkcabdoaa.Aid Go.Proofs.Ytnadgcdkcabdoaa.U Go.Proofs.Ytnadgcdkcabdoaa.Tab Go.Proofs.Ytnadgcdkcabdoaa.Cdx
abbrev Cd := S84
/-- The code of line i, when the lines up to length L, and of L those in front of i, have theirs. -/
def cod (t : List Ln) (j : Nat) : Cd := ⟨cnum t j, len t j⟩
def outAt (t : List Ln) (L : Int) (i : Nat) : List Cd := (List.range t.length).map fun j => if len t j ≠ 0 ∧ (len t j < L ∨ (len t j = L ∧ j < i)) then cod t j else z84
theorem front_next {L : Int} : ∀ (t : List Ln) (n : Nat), t.length ≤ n → front L n t = front (L + 1) 0 t
  | [], _, _ => by simp [front]
  | x :: l, n, h => by
    have hn : l.length + 1 ≤ n := h
    simp only [front]
    rw [front_next l (n - 1) (by omega), show (0 : Nat) - 1 = 0 from rfl]
    congr 1
    by_cases c1 : x.f0 < L
    · rw [if_pos c1, if_pos (by omega)]
    · rw [if_neg c1]
      by_cases c2 : x.f0 = L
      · rw [if_pos c2, if_pos (by omega), if_pos (by omega)]
      · rw [if_neg c2, if_neg (by omega)]
        split <;> simp
theorem front_step {L : Int} : ∀ (t : List Ln) (i : Nat), i < t.length → front L (i + 1) t = front L i t + (if len t i = L then wS (rd_T32 t (i : Int)) else 0)
  | x :: l, 0, h => by
    have hx : rd_T32 (x :: l) ((0 : Nat) : Int) = x := rfl
    simp only [front, len, hx]
    by_cases c1 : x.f0 < L
    · rw [if_pos c1, if_pos c1, if_neg (by omega)]
      simp
    · rw [if_neg c1, if_neg c1]
      by_cases c2 : x.f0 = L
      · rw [if_pos c2, if_pos c2, if_pos c2]
        simp
        omega
      · rw [if_neg c2, if_neg c2, if_neg c2]
        simp
  | x :: l, i + 1, h => by
    have h1 : i < l.length := by simpa using h
    have hx : rd_T32 (x :: l) ((i + 1 : Nat) : Int) = rd_T32 l (i : Int) := by
      simp [rd_T32, List.getD_eq_getElem?_getD]
    have hs : front L (i + 1) l = front L i l + (if len l i = L then wS (rd_T32 l (i : Int)) else 0) := front_step l i h1
    simp only [front, len, hx, Nat.add_sub_cancel]
    rw [hs]
    simp only [len]
    rw [if_pos (show 0 < i + 1 + 1 by omega), if_pos (show 0 < i + 1 by omega), Int.add_assoc]
theorem front_one : ∀ (t : List Ln), (∀ x ∈ t, lineB x = true) → front 1 0 t = 0
  | [], _ => rfl
  | x :: l, h => by
    have hl := of_decide_eq_true (h x List.mem_cons_self)
    simp only [front]
    rw [show (0 : Nat) - 1 = 0 from rfl, front_one l (fun y hy => h y (List.mem_cons_of_mem _ hy))]
    by_cases c1 : x.f0 < 1
    · rw [if_pos c1, show wS x = 0 from if_pos (by omega)]
      rfl
    · rw [if_neg c1]
      split <;> simp
theorem outAt_len (t : List Ln) (L : Int) (i : Nat) : (outAt t L i).length = t.length := by simp [outAt]
theorem outAt_next (t : List Ln) (L : Int) (n : Nat) (h : t.length ≤ n) : outAt t L n = outAt t (L + 1) 0 := by
  unfold outAt
  refine List.map_congr_left fun j hj => ?_
  have := List.mem_range.1 hj
  by_cases c : len t j ≠ 0 ∧ (len t j < L ∨ (len t j = L ∧ j < n))
  · rw [if_pos c, if_pos ⟨c.1, .inl (by omega)⟩]
  · rw [if_neg c, if_neg (by omega)]
theorem pow_half {m : Nat} (h : 1 ≤ m) : (2 : Int) ^ m = 2 * 2 ^ (m - 1) := by
  obtain ⟨k, rfl⟩ : ∃ k, m = k + 1 := ⟨m - 1, by omega⟩
  rw [Nat.add_sub_cancel, Int.pow_succ, Int.mul_comm]
mutual
theorem codes_l0 (t : List Ln) (hv : vldP t) : ∀ (e : Nat) (L : Nat) (c p : Int), L + e = 16 → 1 ≤ L → (L ≤ 15 → p = L - 1 ∧ 2 * c * 2 ^ (15 - L) = front (L : Int) 0 t ∨ p = L ∧ c * 2 ^ (15 - L) = front (L : Int) 0 t) → 0 ≤ c → 1 ≤ p →
    Ev (fun k => prefix_codes.l0 k t (outAt t L 0) (L : Int) c p) (outAt t 16 0)
  | 0, L, c, p, hL, h1, hc, h0, hp => by
    refine ev_succ ?_
    simp only [prefix_codes.l0]
    refine ev_eq (ev_neg (by omega) (Ev.now _)) ?_
    rw [show (L : Int) = 16 by omega]
  | e + 1, L, c, p, hL, h1, hc, h0, hp => by
    have hF := front_range (L := (L : Int)) t 0 hv.2.1
    have hS := hv.2.2.2.2
    have hpw := pow15 (15 - L) (by omega)
    replace hc := hc (by omega)
    have hp1 : (L : Int) - p = 0 ∨ (L : Int) - p = 1 := by omega
    refine ev_succ ?_
    simp only [prefix_codes.l0]
    rw [wrap_id (n := (L : Int) - p) (by omega) (by omega)]
    refine ev_pos (by omega) (ev_pos (by omega) ?_)
    rcases hc with ⟨hp2, hc⟩ | ⟨hp2, hc⟩
    · have hc2 : 2 * c ≤ 32768 := by
        have : 2 * c * 1 ≤ 2 * c * 2 ^ (15 - L) := Int.mul_le_mul_of_nonneg_left hpw.1 (by omega)
        omega
      have hsh : shl .i64 c ((L : Int) - p) = 2 * c := by
        rw [show (L : Int) - p = 1 by omega]
        show IntKind.i64.wrap (c * 2 ^ 1) = 2 * c
        rw [i64_w, wrap_id (by omega) (by omega)]
        omega
      rw [hsh]
      exact codes_l1 t hv e L t.length 0 (2 * c) (by omega) h1 (by omega) (by simpa using hc) (by omega)
    · have hc2 : c ≤ 32768 := by
        have : c * 1 ≤ c * 2 ^ (15 - L) := Int.mul_le_mul_of_nonneg_left hpw.1 (by omega)
        omega
      have hsh : shl .i64 c ((L : Int) - p) = c := by
        rw [show (L : Int) - p = 0 by omega]
        show IntKind.i64.wrap (c * 2 ^ 0) = c
        rw [i64_w, wrap_id (by omega) (by omega)]
        omega
      rw [hsh]
      exact codes_l1 t hv e L t.length 0 c (by omega) h1 (by omega) (by simpa using hc) (by omega)
termination_by e _ _ _ _ _ _ _ => (e, 0)
theorem codes_l1 (t : List Ln) (hv : vldP t) : ∀ (e : Nat) (L : Nat) (d i : Nat) (c : Int), L + e = 15 → 1 ≤ L → i + d = t.length → c * 2 ^ (15 - L) = front (L : Int) i t → 0 ≤ c →
    Ev (fun k => prefix_codes.l1 k t (outAt t L i) (L : Int) t (t.length : Int) (i : Int) c (L : Int)) (outAt t 16 0)
  | e, L, 0, i, c, hL, h1, hd, hc, h0 => by
    have hF := front_range (L := (L : Int)) t i hv.2.1
    have hS := hv.2.2.2.2
    have ht := hv.1
    refine ev_succ ?_
    simp only [prefix_codes.l1]
    rw [wrap_id (n := (L : Int) + 1) (by omega) (by omega), outAt_next t L i (by omega), show (L : Int) + 1 = ((L + 1 : Nat) : Int) by omega]
    refine ev_neg (by omega) (codes_l0 t hv e (L + 1) c L (by omega) (by omega) ?_ h0 (by omega))
    intro hL15
    left
    refine ⟨by omega, ?_⟩
    have h2 := front_next (L := (L : Int)) t i (by omega)
    rw [pow_half (m := 15 - L) (by omega)] at hc
    rw [show ((L + 1 : Nat) : Int) = (L : Int) + 1 by omega, ← h2, ← hc, show 15 - (L + 1) = 15 - L - 1 by omega, Int.mul_comm 2 c, Int.mul_assoc]
  | e, L, d + 1, i, c, hL, h1, hd, hc, h0 => by
    have hi : i < t.length := by omega
    have hl := hv.2.1 _ (rdL_mem hi)
    have hl2 := of_decide_eq_true hl
    have ht := hv.1
    have hS := hv.2.2.2.2
    have hF := front_range (L := (L : Int)) t (i + 1) hv.2.1
    have hpw := pow15 (15 - L) (by omega)
    have hst := front_step (L := (L : Int)) t i hi
    have hlen : len t i = (rd_T32 t (i : Int)).f0 := rfl
    refine ev_succ ?_
    simp only [prefix_codes.l1]
    rw [wrap_id (n := (i : Int) + 1) (by omega) (by omega), outAt_len]
    refine ev_pos (by omega) (ev_pos (by omega) (ev_pos (by omega) ?_))
    by_cases cL : (rd_T32 t (i : Int)).f0 = (L : Int)
    · have hwe : wS (rd_T32 t (i : Int)) = 2 ^ (15 - L) := by
        unfold wS
        rw [if_neg (by omega), cL, show (15 - (L : Int)).toNat = 15 - L by omega]
      rw [hlen, if_pos cL, hwe, ← hc] at hst
      have hc2 : c ≤ 32768 := by
        have : c * 1 ≤ c * 2 ^ (15 - L) := Int.mul_le_mul_of_nonneg_left hpw.1 (by omega)
        omega
      refine ev_pos cL (ev_pos (by omega) ?_)
      rw [wrap_id (n := c + 1) (by omega) (by omega), Int.toNat_natCast]
      have hset : (outAt t L i).set i ⟨c, (L : Int)⟩ = outAt t L (i + 1) := by
        unfold outAt
        apply List.ext_getElem
        · simp
        intro j hj1 hj2
        simp at hj1 hj2
        rw [List.getElem_set]
        simp only [List.getElem_map, List.getElem_range]
        by_cases ej : i = j
        · subst ej
          rw [if_pos rfl, if_pos ⟨by omega, .inr ⟨by omega, by omega⟩⟩]
          unfold cod cnum
          rw [hlen, cL, show (15 - (L : Int)).toNat = 15 - L by omega, ← hc, Int.mul_ediv_cancel _ (by have := hpw.1; omega)]
        · rw [if_neg ej]
          by_cases cj : len t j ≠ 0 ∧ (len t j < L ∨ (len t j = L ∧ j < i))
          · rw [if_pos cj, if_pos ⟨cj.1, by omega⟩]
          · rw [if_neg cj, if_neg (by omega)]
      rw [hset]
      exact codes_l1 t hv e L d (i + 1) (c + 1) hL h1 (by omega) (by rw [hst, Int.add_mul]; omega) (by omega)
    · rw [hlen, if_neg cL, Int.add_zero, ← hc] at hst
      refine ev_neg cL ?_
      have hset : outAt t L i = outAt t L (i + 1) := by
        unfold outAt
        refine List.map_congr_left fun j hj => ?_
        by_cases cj : len t j ≠ 0 ∧ (len t j < L ∨ (len t j = L ∧ j < i))
        · rw [if_pos cj, if_pos ⟨cj.1, by omega⟩]
        · rw [if_neg cj, if_neg (fun hn => cj ⟨hn.1, by
            rcases hn.2 with h | ⟨h, h'⟩
            · exact .inl h
            · rcases Nat.lt_or_ge j i with h'' | h''
              · exact .inr ⟨h, h''⟩
              · have : j = i := by omega
                subst this
                exact absurd h cL⟩)]
      rw [hset]
      exact codes_l1 t hv e L d (i + 1) c hL h1 (by omega) hst.symm h0
termination_by e _ d _ _ _ _ _ _ _ => (e, d + 1)
end
end Go.Proofs.Ytnadgcdkcabdoaa.Cdy
namespace Go.Proofs.Ytnadgcdkcabdoaa.Cdz
open Go Go.RowKit Go.Proofs.YtnadgcdkcabdoaaW.PrintWords Go.Proofs.YtnadgcdkcabdoaaW.PrintLast Go.Proofs.YtnadgcdkcabdoaaW.PrintMore Go.Proofs.Ytnadgcdkcabdoaa.Aid Go.Proofs.Ytnadgcdkcabdoaa.U Go.Proofs.Ytnadgcdkcabdoaa.Tab Go.Proofs.Ytnadgcdkcabdoaa.Cdx Go.Proofs.Ytnadgcdkcabdoaa.Cdy
/-- The codes of all lines. -/
def codesL (t : List Ln) : List Cd := outAt t 16 0
theorem codes_ev (t : List Ln) (hv : vldP t) : Ev (fun k => prefix_codes.f k t) (codesL t) := by
  have ht := hv.1
  unfold prefix_codes.f
  refine ev_pos (by omega) (ev_pos (by rw [Int.toNat_natCast]; omega) ?_)
  rw [Int.toNat_natCast]
  have h := codes_l0 t hv 15 1 0 1 (by omega) (by omega) (fun _ => .inr ⟨rfl, by rw [show ((1 : Nat) : Int) = 1 from rfl, front_one t hv.2.1]; simp⟩) (by omega) (by omega)
  have e : outAt t 1 0 = List.replicate t.length z84 := by
    rw [List.eq_replicate_iff]
    refine ⟨by simp [outAt], fun b hb => ?_⟩
    obtain ⟨j, hj, rfl⟩ := List.mem_map.1 hb
    have hl := of_decide_eq_true (hv.2.1 _ (rdL_mem (List.mem_range.1 hj)))
    have hlen : len t j = (rd_T32 t (j : Int)).f0 := rfl
    rw [if_neg (by omega)]
  rw [show ((1 : Nat) : Int) = 1 from rfl, e] at h
  exact h
theorem codesL_len (t : List Ln) : (codesL t).length = t.length := outAt_len t 16 0
theorem codesL_at (t : List Ln) (hv : vldP t) (i : Nat) (hi : i < t.length) : rd_T84 (codesL t) (i : Int) = if len t i = 0 then z84 else cod t i := by
  have hl := of_decide_eq_true (hv.2.1 _ (rdL_mem hi))
  have hlen : len t i = (rd_T32 t (i : Int)).f0 := rfl
  have h1 : rd_T84 (codesL t) (i : Int) = (codesL t)[i]'(by rw [codesL_len]; exact hi) := by
    unfold rd_T84
    rw [Int.toNat_natCast, List.getD_eq_getElem?_getD, List.getElem?_eq_getElem (by rw [codesL_len]; exact hi)]
    rfl
  rw [h1]
  simp only [codesL, outAt, List.getElem_map, List.getElem_range]
  by_cases c : len t i = 0
  · rw [if_pos c, if_neg (fun h => h.1 c)]
  · rw [if_neg c, if_pos ⟨c, .inl (by omega)⟩]
/-- How far a number is from a line's. -/
def dd (x : Ln) (n : Int) : Int := if x.f3 = 1 then x.f2 - n else n - x.f2
def inB (x : Ln) (nn : Bool) (n : Int) : Bool := if nn = true ∨ x.f3 = 2 then nn && (n == 0) && (x.f3 == 2) else decide (-4194304 ≤ n ∧ n ≤ 4194304 ∧ 0 ≤ dd x n ∧ dd x n < 2 ^ x.f1.toNat)
def offV (x : Ln) (nn : Bool) (n : Int) : Int := if nn = true ∨ x.f3 = 2 then 0 else dd x n
theorem shl_b : ∀ n, n < 21 → shl .i64 1 (n : Nat) = 2 ^ n := by decide
theorem shl_bits {x : Ln} (h : lineB x = true) : shl .i64 1 x.f1 = 2 ^ x.f1.toNat := by
  have h1 := of_decide_eq_true h
  obtain ⟨n, hn⟩ : ∃ n : Nat, x.f1 = n := ⟨x.f1.toNat, by omega⟩
  rw [hn, Int.toNat_natCast]
  exact shl_b n (by omega)
theorem offset_ev (x : Ln) (nn : Bool) (n : Int) (hx : lineB x = true) (hn : -9223372036854775808 ≤ n ∧ n ≤ 9223372036854775807) : ∃ v, Ev (fun k => prefix_offset.f k x.f0 x.f1 x.f2 x.f3 nn n) (v, inB x nn n) ∧ (inB x nn n = true → v = offV x nn n) := by
  have hl := of_decide_eq_true hx
  have hs := shl_bits hx
  unfold prefix_offset.f inB offV
  by_cases c : nn = true ∨ x.f3 = 2
  · rw [if_pos c, if_pos c]
    refine ⟨0, ?_, fun _ => rfl⟩
    have key : ∀ b : Bool, b = true → Ev (fun k => prefix_offset.j0 k b x.f0 x.f1 x.f2 x.f3 nn n) ((0 : Int), nn && (n == 0) && (x.f3 == 2)) := by
      intro b hb
      subst hb
      refine ev_succ ?_
      simp only [prefix_offset.j0]
      refine ev_pos trivial ?_
      by_cases cn : nn = true
      · refine ev_pos cn ?_
        by_cases c0 : n = 0
        · exact ev_pos c0 (ev_eq (Ev.now _) (by simp [cn, c0]))
        · exact ev_neg c0 (ev_eq (Ev.now _) (by simp [c0]))
      · exact ev_neg cn (ev_eq (Ev.now _) (by simp [cn]))
    by_cases cn : nn = true
    · exact ev_pos cn (key true rfl)
    · exact ev_neg cn (key _ (by rcases c with h | h; exact absurd h cn; simp [h]))
  · rw [if_neg c, if_neg c]
    have cn : ¬ nn = true := fun h => c (.inl h)
    have c3 : ¬ x.f3 = 2 := fun h => c (.inr h)
    have e3 : (x.f3 == 2) = false := by simpa using c3
    rw [e3]
    have far : ∀ b : Bool, b = decide (n < -4194304 ∨ n > 4194304) → ∃ v, Ev (fun k => prefix_offset.j1 k b x.f0 x.f1 x.f2 x.f3 nn n) (v, decide (-4194304 ≤ n ∧ n ≤ 4194304 ∧ 0 ≤ dd x n ∧ dd x n < 2 ^ x.f1.toNat)) ∧ (decide (-4194304 ≤ n ∧ n ≤ 4194304 ∧ 0 ≤ dd x n ∧ dd x n < 2 ^ x.f1.toNat) = true → v = dd x n) := by
      intro b hb
      by_cases cf : n < -4194304 ∨ n > 4194304
      · rw [decide_eq_true cf] at hb
        subst hb
        have e : decide (-4194304 ≤ n ∧ n ≤ 4194304 ∧ 0 ≤ dd x n ∧ dd x n < 2 ^ x.f1.toNat) = false := decide_eq_false (by omega)
        rw [e]
        refine ⟨0, ev_succ ?_, fun h => by simp at h⟩
        simp only [prefix_offset.j1]
        exact ev_pos trivial (Ev.now _)
      · rw [decide_eq_false cf] at hb
        subst hb
        refine ⟨dd x n, ev_succ ?_, fun _ => rfl⟩
        simp only [prefix_offset.j1]
        refine ev_neg (by decide) ?_
        rw [hs]
        by_cases c1 : x.f3 = 1
        · have hdd : dd x n = x.f2 - n := if_pos c1
          refine ev_pos c1 ?_
          rw [wrap_id (n := n - x.f2) (by omega) (by omega), wrap_id (n := -(n - x.f2)) (by omega) (by omega), show -(n - x.f2) = dd x n by omega]
          by_cases c0 : dd x n ≥ 0
          · refine ev_pos c0 (ev_pos (by omega) (ev_eq (Ev.now _) ?_))
            congr 1
            by_cases cl : dd x n < 2 ^ x.f1.toNat
            · rw [decide_eq_true cl]; symm; exact decide_eq_true ⟨by omega, by omega, c0, cl⟩
            · rw [decide_eq_false cl]; symm; exact decide_eq_false (fun h => cl h.2.2.2)
          · refine ev_neg c0 (ev_eq (Ev.now _) ?_)
            congr 1
            symm; exact decide_eq_false (fun h => c0 h.2.2.1)
        · have hdd : dd x n = n - x.f2 := if_neg c1
          refine ev_neg c1 ?_
          rw [wrap_id (n := n - x.f2) (by omega) (by omega), ← hdd]
          by_cases c0 : dd x n ≥ 0
          · refine ev_pos c0 (ev_pos (by omega) (ev_eq (Ev.now _) ?_))
            congr 1
            by_cases cl : dd x n < 2 ^ x.f1.toNat
            · rw [decide_eq_true cl]; symm; exact decide_eq_true ⟨by omega, by omega, c0, cl⟩
            · rw [decide_eq_false cl]; symm; exact decide_eq_false (fun h => cl h.2.2.2)
          · refine ev_neg c0 (ev_eq (Ev.now _) ?_)
            congr 1
            symm; exact decide_eq_false (fun h => c0 h.2.2.1)
    by_cases cl : n < -4194304
    · obtain ⟨v, hv, hw⟩ := far true (by symm; exact decide_eq_true (.inl cl))
      refine ⟨v, ev_neg cn (ev_succ ?_), hw⟩
      simp only [prefix_offset.j0]
      exact ev_neg (by decide) (ev_pos cl hv)
    · obtain ⟨v, hv, hw⟩ := far (decide (n > 4194304)) (by
        by_cases c4 : n > 4194304
        · rw [decide_eq_true c4]; symm; exact decide_eq_true (.inr c4)
        · rw [decide_eq_false c4]; symm; exact decide_eq_false (by omega))
      refine ⟨v, ev_neg cn (ev_succ ?_), hw⟩
      simp only [prefix_offset.j0]
      exact ev_neg (by decide) (ev_neg cl hv)
theorem place_ev (x : Ln) (nn : Bool) (n : Int) (hx : lineB x = true) (hn : -9223372036854775808 ≤ n ∧ n ≤ 9223372036854775807) : ∃ v, Ev (fun k => incunableref04_Place.f k x.f0 x.f1 x.f2 x.f3 nn n) (v, inB x nn n) ∧ (inB x nn n = true → v = offV x nn n) := by
  have hl := of_decide_eq_true hx
  have hs := shl_bits hx
  unfold incunableref04_Place.f inB offV
  by_cases c : nn = true ∨ x.f3 = 2
  · rw [if_pos c, if_pos c]
    refine ⟨0, ?_, fun _ => rfl⟩
    have key : Ev (fun k => incunableref04_Place.j0 k true x.f0 x.f1 x.f2 x.f3 nn n) ((0 : Int), nn && (n == 0) && (x.f3 == 2)) := by
      refine ev_succ ?_
      simp only [incunableref04_Place.j0]
      refine ev_pos trivial ?_
      by_cases c2 : x.f3 = 2
      · refine ev_pos c2 ?_
        by_cases cn : nn = true
        · exact ev_pos cn (ev_eq (Ev.now _) (by simp [cn, c2]))
        · exact ev_neg cn (ev_eq (Ev.now _) (by simp [cn]))
      · exact ev_neg c2 (ev_eq (Ev.now _) (by simp [c2]))
    by_cases c2 : x.f3 = 2
    · exact ev_pos c2 key
    · have cn : nn = true := c.resolve_right c2
      rw [cn] at key ⊢
      exact ev_neg c2 key
  · rw [if_neg c, if_neg c]
    have cn : nn = false := by cases nn; rfl; exact absurd (.inl rfl) c
    have c3 : ¬ x.f3 = 2 := fun h => c (.inr h)
    subst cn
    by_cases cf : n < -4194304 ∨ n > 4194304
    · have e : decide (-4194304 ≤ n ∧ n ≤ 4194304 ∧ 0 ≤ dd x n ∧ dd x n < 2 ^ x.f1.toNat) = false := decide_eq_false (by omega)
      rw [e]
      by_cases c1 : x.f3 = 1
      · refine ⟨wrap64 (x.f2 - n), ev_neg c3 (ev_succ ?_), fun h => by simp at h⟩
        simp only [incunableref04_Place.j0]
        refine ev_neg (by decide) (ev_pos c1 ?_)
        by_cases cl : n < -4194304
        · exact ev_pos cl (Ev.now _)
        · exact ev_neg cl (ev_pos (by omega) (Ev.now _))
      · refine ⟨wrap64 (n - x.f2), ev_neg c3 (ev_succ ?_), fun h => by simp at h⟩
        simp only [incunableref04_Place.j0]
        refine ev_neg (by decide) (ev_neg c1 ?_)
        by_cases cl : n < -4194304
        · exact ev_pos cl (Ev.now _)
        · exact ev_neg cl (ev_pos (by omega) (Ev.now _))
    · refine ⟨dd x n, ev_neg c3 (ev_succ ?_), fun _ => rfl⟩
      simp only [incunableref04_Place.j0]
      refine ev_neg (by decide) ?_
      rw [hs]
      by_cases c1 : x.f3 = 1
      · have hdd : dd x n = x.f2 - n := if_pos c1
        refine ev_pos c1 (ev_neg (by omega) (ev_neg (by omega) ?_))
        rw [wrap_id (n := x.f2 - n) (by omega) (by omega), ← hdd]
        by_cases c0 : dd x n ≥ 0
        · refine ev_pos c0 (ev_pos (by omega) (ev_eq (Ev.now _) ?_))
          congr 1
          by_cases cl : dd x n < 2 ^ x.f1.toNat
          · rw [decide_eq_true cl]; symm; exact decide_eq_true ⟨by omega, by omega, c0, cl⟩
          · rw [decide_eq_false cl]; symm; exact decide_eq_false (fun h => cl h.2.2.2)
        · refine ev_neg c0 (ev_eq (Ev.now _) ?_)
          congr 1
          symm; exact decide_eq_false (fun h => c0 h.2.2.1)
      · have hdd : dd x n = n - x.f2 := if_neg c1
        refine ev_neg c1 (ev_neg (by omega) (ev_neg (by omega) ?_))
        rw [wrap_id (n := n - x.f2) (by omega) (by omega), ← hdd]
        by_cases c0 : dd x n ≥ 0
        · refine ev_pos c0 (ev_pos (by omega) (ev_eq (Ev.now _) ?_))
          congr 1
          by_cases cl : dd x n < 2 ^ x.f1.toNat
          · rw [decide_eq_true cl]; symm; exact decide_eq_true ⟨by omega, by omega, c0, cl⟩
          · rw [decide_eq_false cl]; symm; exact decide_eq_false (fun h => cl h.2.2.2)
        · refine ev_neg c0 (ev_eq (Ev.now _) ?_)
          congr 1
          symm; exact decide_eq_false (fun h => c0 h.2.2.1)
/-- The line by which a number is coded, among the first i: one more than its place; 0: none. -/
def pick (t : List Ln) (nn : Bool) (n : Int) : Nat → Option Nat
  | 0 => none
  | i + 1 => if inB (rd_T32 t (i : Int)) nn n = true ∧ (rd_T32 t (i : Int)).f0 > 0 ∧ (∀ b, pick t nn n i = some b → (rd_T32 t (i : Int)).f0 + (rd_T32 t (i : Int)).f1 < (rd_T32 t (b : Int)).f0 + (rd_T32 t (b : Int)).f1) then some i else pick t nn n i
theorem pick_lt (t : List Ln) (nn : Bool) (n : Int) : ∀ i b, pick t nn n i = some b → b < i ∧ inB (rd_T32 t (b : Int)) nn n = true ∧ (rd_T32 t (b : Int)).f0 > 0
  | 0, b, h => by simp [pick] at h
  | i + 1, b, h => by
    unfold pick at h
    split at h
    · rename_i hc
      injection h with h
      subst h
      exact ⟨Nat.lt_succ_self _, hc.1, hc.2.1⟩
    · have := pick_lt t nn n i b h
      exact ⟨by omega, this.2⟩
def enc (o : Option Nat) : Int := match o with | none => -1 | some b => (b : Int)
def encD (t : List Ln) (nn : Bool) (n : Int) (o : Option Nat) : Int := match o with | none => 0 | some b => offV (rd_T32 t (b : Int)) nn n
end Go.Proofs.Ytnadgcdkcabdoaa.Cdz
namespace Go.Proofs.Ytnadgcdkcabdoaa.Cdb
open Go Go.RowKit Go.Proofs.YtnadgcdkcabdoaaW.PrintWords Go.Proofs.YtnadgcdkcabdoaaW.PrintLast Go.Proofs.YtnadgcdkcabdoaaW.PrintMore Go.Proofs.Ytnadgcdkcabdoaa.Aid Go.Proofs.Ytnadgcdkcabdoaa.U Go.Proofs.Ytnadgcdkcabdoaa.Tab Go.Proofs.Ytnadgcdkcabdoaa.Cdx Go.Proofs.Ytnadgcdkcabdoaa.Cdy Go.Proofs.Ytnadgcdkcabdoaa.Cdz
theorem sb_loop (l l' : List Int) (hn : l.length ≤ 9223372036854775807) (he : l.length = l'.length) : ∀ (d i : Nat), i + d = l.length → Ev (fun k => incunableref02_SameBytes.l0 k l l' (l.length : Int) (i : Int)) (decide (l.drop i = l'.drop i))
  | 0, i, hd => by
    refine ev_succ ?_
    simp only [incunableref02_SameBytes.l0]
    refine ev_neg (by omega) (ev_eq (Ev.now _) ?_)
    rw [List.drop_of_length_le (by omega), List.drop_of_length_le (by omega)]
    rfl
  | d + 1, i, hd => by
    have h1 : i < l.length := by omega
    have h2 : i < l'.length := by omega
    refine ev_succ ?_
    simp only [incunableref02_SameBytes.l0]
    rw [wrap_id (n := (i : Int) + 1) (by omega) (by omega)]
    refine ev_pos (by omega) (ev_pos (by omega) (ev_pos (by omega) (ev_pos (by omega) ?_)))
    rw [drop_rd h1, drop_rd h2]
    by_cases c : rd l i = rd l' i
    · refine ev_pos c (ev_eq (sb_loop l l' hn he d (i + 1) (by omega)) ?_)
      simp [c]
    · exact ev_neg c (ev_eq (Ev.now _) (by simp [c]))
theorem sb_ev (l l' : List Int) (hn : l.length ≤ 9223372036854775807) : Ev (fun k => incunableref02_SameBytes.f k l l') (decide (l = l')) := by
  unfold incunableref02_SameBytes.f
  by_cases c : (l.length : Int) = (l'.length : Int)
  · refine ev_pos c (ev_eq (sb_loop l l' hn (by omega) l.length 0 (by omega)) (by simp))
  · refine ev_neg c (ev_eq (Ev.now _) ?_)
    symm
    exact decide_eq_false (fun h => c (by rw [h]))
theorem sb_true (l : List Int) (hn : l.length ≤ 9223372036854775807) : Ev (fun k => incunableref02_SameBytes.f k l l) true := ev_eq (sb_ev l l hn) (decide_eq_true rfl)
abbrev wf64 (n : Int) : Prop := -9223372036854775808 ≤ n ∧ n ≤ 9223372036854775807
theorem line_loop (t : List Ln) (hv : vldP t) (nn : Bool) (n : Int) (hn : wf64 n) : ∀ (d i : Nat), i + d = t.length →
    Ev (fun k => prefix_line.l0 k t (enc (pick t nn n i)) (encD t nn n (pick t nn n i)) t (t.length : Int) (i : Int) nn n) (enc (pick t nn n t.length), encD t nn n (pick t nn n t.length))
  | 0, i, hd => by
    refine ev_succ ?_
    simp only [prefix_line.l0]
    refine ev_neg (by omega) (ev_eq (Ev.now _) ?_)
    rw [show i = t.length by omega]
  | d + 1, i, hd => by
    have hi : i < t.length := by omega
    have ht := hv.1
    have hl := hv.2.1 _ (rdL_mem hi)
    have hl2 := of_decide_eq_true hl
    obtain ⟨v, hve, hvi⟩ := offset_ev _ nn n hl hn
    have ih := line_loop t hv nn n hn d (i + 1) (by omega)
    have hlt := pick_lt t nn n i
    refine ev_succ ?_
    simp only [prefix_line.l0]
    rw [wrap_id (n := (i : Int) + 1) (by omega) (by omega)]
    refine ev_pos (by omega) (ev_pos (by omega) (ev_pos (by omega) (ev_bind hve ?_)))
    dsimp only
    have stay : ¬ (inB (rd_T32 t (i : Int)) nn n = true ∧ (rd_T32 t (i : Int)).f0 > 0 ∧ (∀ b, pick t nn n i = some b → (rd_T32 t (i : Int)).f0 + (rd_T32 t (i : Int)).f1 < (rd_T32 t (b : Int)).f0 + (rd_T32 t (b : Int)).f1)) →
        Ev (fun k => prefix_line.l0 k t (enc (pick t nn n i)) (encD t nn n (pick t nn n i)) t (t.length : Int) ((i : Int) + 1) nn n) (enc (pick t nn n t.length), encD t nn n (pick t nn n t.length)) := fun h => by
      have e : pick t nn n (i + 1) = pick t nn n i := if_neg h
      rw [e] at ih
      exact ih
    have take : (inB (rd_T32 t (i : Int)) nn n = true ∧ (rd_T32 t (i : Int)).f0 > 0 ∧ (∀ b, pick t nn n i = some b → (rd_T32 t (i : Int)).f0 + (rd_T32 t (i : Int)).f1 < (rd_T32 t (b : Int)).f0 + (rd_T32 t (b : Int)).f1)) →
        Ev (fun k => prefix_line.l0 k t (i : Int) v t (t.length : Int) ((i : Int) + 1) nn n) (enc (pick t nn n t.length), encD t nn n (pick t nn n t.length)) := fun h => by
      have e : pick t nn n (i + 1) = some i := if_pos h
      rw [e] at ih
      rw [hvi h.1]
      exact ih
    by_cases c1 : inB (rd_T32 t (i : Int)) nn n = true
    · refine ev_pos c1 ?_
      by_cases c2 : (rd_T32 t (i : Int)).f0 > 0
      · refine ev_pos c2 ?_
        cases hp : pick t nn n i with
        | none =>
          rw [hp] at take
          exact ev_pos (show enc none < 0 by decide) (take ⟨c1, c2, fun b hb => by simp at hb⟩)
        | some b =>
          rw [hp] at take stay
          have hb := hlt b hp
          have hbl := of_decide_eq_true (hv.2.1 _ (rdL_mem (show b < t.length by omega)))
          show Ev (fun k => if (b : Int) < 0 then _ else _) _
          refine ev_neg (by omega) (ev_pos (show (0 : Int) ≤ (b : Int) by omega) (ev_pos (show (b : Int) < (t.length : Int) by omega) ?_))
          show Ev (fun k => if wrap64 ((rd_T32 t (i : Int)).f0 + (rd_T32 t (i : Int)).f1) < wrap64 ((rd_T32 t (b : Int)).f0 + (rd_T32 t (b : Int)).f1) then _ else _) _
          rw [wrap_id (n := (rd_T32 t (i : Int)).f0 + (rd_T32 t (i : Int)).f1) (by omega) (by omega), wrap_id (n := (rd_T32 t (b : Int)).f0 + (rd_T32 t (b : Int)).f1) (by omega) (by omega)]
          by_cases c3 : (rd_T32 t (i : Int)).f0 + (rd_T32 t (i : Int)).f1 < (rd_T32 t (b : Int)).f0 + (rd_T32 t (b : Int)).f1
          · exact ev_pos c3 (take ⟨c1, c2, fun b' hb' => by injection hb' with hb'; subst hb'; exact c3⟩)
          · exact ev_neg c3 (stay (fun h => c3 (h.2.2 b rfl)))
      · exact ev_neg c2 (stay (fun h => c2 h.2.1))
    · exact ev_neg c1 (stay (fun h => c1 h.1))
theorem line_ev (t : List Ln) (hv : vldP t) (nn : Bool) (n : Int) (hn : wf64 n) : Ev (fun k => prefix_line.f k t nn n) (enc (pick t nn n t.length), encD t nn n (pick t nn n t.length)) := by
  unfold prefix_line.f
  exact line_loop t hv nn n hn t.length 0 (by omega)
/-- A number's bits. -/
def bitsR (t : List Ln) (nn : Bool) (n : Int) : Option (List Int) := (pick t nn n t.length).map fun b => digs (cnum t b) (len t b).toNat ++ digs (offV (rd_T32 t (b : Int)) nn n) (rd_T32 t (b : Int)).f1.toNat
theorem pow20 : ∀ n, n < 21 → (2 : Int) ^ n ≤ 1048576 := by decide
theorem offV_range {x : Ln} {nn : Bool} {n : Int} (hl : lineB x = true) (h : inB x nn n = true) : 0 ≤ offV x nn n ∧ offV x nn n ≤ 1048576 := by
  have h2 := of_decide_eq_true hl
  unfold offV inB at *
  by_cases c : nn = true ∨ x.f3 = 2
  · rw [if_pos c]; omega
  · rw [if_neg c] at h ⊢
    have h1 := of_decide_eq_true h
    have := pow20 x.f1.toNat (by omega)
    omega
theorem cnum_range (t : List Ln) (hv : vldP t) (i : Nat) : 0 ≤ cnum t i ∧ cnum t i ≤ 32768 := by
  have hF := front_range (L := len t i) t i hv.2.1
  have := div_pos_le hF.1 (15 - len t i).toNat
  have := hv.2.2.2.2
  unfold cnum
  omega
theorem put_ev (t : List Ln) (hv : vldP t) (nn : Bool) (n : Int) (hn : wf64 n) : Ev (fun k => prefix_put.f k t (codesL t) nn n) (match bitsR t nn n with | none => ([], 5) | some b => (b, 0)) := by
  have ht := hv.1
  unfold prefix_put.f bitsR
  refine ev_bind (line_ev t hv nn n hn) ?_
  dsimp only
  cases hp : pick t nn n t.length with
  | none => exact ev_pos (show enc none < 0 by decide) (Ev.now _)
  | some b =>
    have hb := pick_lt t nn n _ b hp
    have hl := hv.2.1 _ (rdL_mem hb.1)
    have hbl := of_decide_eq_true hl
    have ho := offV_range hl hb.2.1
    have hc := cnum_range t hv b
    have hlen : len t b = (rd_T32 t (b : Int)).f0 := rfl
    have hat := codesL_at t hv b hb.1
    rw [if_neg (by omega)] at hat
    refine ev_neg (show ¬ ((b : Int) < 0) by omega) (ev_pos (show (0 : Int) ≤ (b : Int) by omega) (ev_pos (show (b : Int) < ((codesL t).length : Int) by rw [codesL_len]; omega) ?_))
    show Ev (fun k => (prefix_digits.f k (rd_T84 (codesL t) (b : Int)).f0 (rd_T84 (codesL t) (b : Int)).f1).bind _) _
    rw [hat]
    have h1 := pdig_ev (cnum t b) (len t b).toNat hc.1 (by omega) (by omega)
    rw [Int.toNat_of_nonneg (show 0 ≤ len t b by omega)] at h1
    refine ev_bind h1 (ev_pos (show (b : Int) < (t.length : Int) by omega) ?_)
    have h2 := pdig_ev (offV (rd_T32 t (b : Int)) nn n) (rd_T32 t (b : Int)).f1.toNat ho.1 (by omega) (by omega)
    rw [Int.toNat_of_nonneg (show 0 ≤ (rd_T32 t (b : Int)).f1 by omega)] at h2
    refine ev_bind h2 (ev_pos ?_ (Ev.now _))
    rw [digs_len, digs_len]
    omega
theorem rbits_loop (t : List Ln) (hv : vldP t) (nn : Bool) (n : Int) (hn : wf64 n) : ∀ (d i : Nat), i + d = t.length →
    Ev (fun k => incunableref04_Bits.l0 k t (enc (pick t nn n i)) t (t.length : Int) (i : Int) nn n) (match bitsR t nn n with | none => ([], false) | some b => (b, true))
  | 0, i, hd => by
    have ht := hv.1
    refine ev_succ ?_
    simp only [incunableref04_Bits.l0]
    refine ev_neg (by omega) ?_
    rw [show i = t.length by omega]
    unfold bitsR
    cases hp : pick t nn n t.length with
    | none => exact ev_pos (show enc none < 0 by decide) (Ev.now _)
    | some b =>
      have hb := pick_lt t nn n _ b hp
      have hl := hv.2.1 _ (rdL_mem hb.1)
      have hbl := of_decide_eq_true hl
      have ho := offV_range hl hb.2.1
      obtain ⟨v, hve, hvi⟩ := place_ev _ nn n hl hn
      have hve2 := hvi hb.2.1
      subst hve2
      refine ev_neg (show ¬ ((b : Int) < 0) by omega) (ev_pos (show (0 : Int) ≤ (b : Int) by omega) (ev_pos (show (b : Int) < (t.length : Int) by omega) ?_))
      refine ev_bind hve (ev_bind (code_ev t b hb.1 hv) ?_)
      have h2 := rdig_ev (offV (rd_T32 t (b : Int)) nn n) (rd_T32 t (b : Int)).f1.toNat ho.1 (by omega) (by omega)
      rw [Int.toNat_of_nonneg (show 0 ≤ (rd_T32 t (b : Int)).f1 by omega)] at h2
      refine ev_bind h2 (ev_pos ?_ (Ev.now _))
      have hlen : len t b = (rd_T32 t (b : Int)).f0 := rfl
      rw [digs_len, digs_len]
      omega
  | d + 1, i, hd => by
    have hi : i < t.length := by omega
    have ht := hv.1
    have hl := hv.2.1 _ (rdL_mem hi)
    have hl2 := of_decide_eq_true hl
    obtain ⟨v, hve, hvi⟩ := place_ev _ nn n hl hn
    have ih := rbits_loop t hv nn n hn d (i + 1) (by omega)
    have hlt := pick_lt t nn n i
    refine ev_succ ?_
    simp only [incunableref04_Bits.l0, incunableref04_used.f, Option.bind_some]
    rw [wrap_id (n := (i : Int) + 1) (by omega) (by omega)]
    refine ev_pos (by omega) (ev_pos (by omega) (ev_pos (by omega) (ev_bind hve ?_)))
    dsimp only
    have stay : ¬ (inB (rd_T32 t (i : Int)) nn n = true ∧ (rd_T32 t (i : Int)).f0 > 0 ∧ (∀ b, pick t nn n i = some b → (rd_T32 t (i : Int)).f0 + (rd_T32 t (i : Int)).f1 < (rd_T32 t (b : Int)).f0 + (rd_T32 t (b : Int)).f1)) →
        Ev (fun k => incunableref04_Bits.l0 k t (enc (pick t nn n i)) t (t.length : Int) ((i : Int) + 1) nn n) (match bitsR t nn n with | none => ([], false) | some b => (b, true)) := fun h => by
      have e : pick t nn n (i + 1) = pick t nn n i := if_neg h
      rw [e] at ih
      exact ih
    have take : (inB (rd_T32 t (i : Int)) nn n = true ∧ (rd_T32 t (i : Int)).f0 > 0 ∧ (∀ b, pick t nn n i = some b → (rd_T32 t (i : Int)).f0 + (rd_T32 t (i : Int)).f1 < (rd_T32 t (b : Int)).f0 + (rd_T32 t (b : Int)).f1)) →
        Ev (fun k => incunableref04_Bits.l0 k t (i : Int) t (t.length : Int) ((i : Int) + 1) nn n) (match bitsR t nn n with | none => ([], false) | some b => (b, true)) := fun h => by
      have e : pick t nn n (i + 1) = some i := if_pos h
      rw [e] at ih
      exact ih
    by_cases c2 : (rd_T32 t (i : Int)).f0 > 0
    · refine ev_pos (decide_eq_true c2) ?_
      by_cases c1 : inB (rd_T32 t (i : Int)) nn n = true
      · refine ev_pos c1 ?_
        cases hp : pick t nn n i with
        | none =>
          rw [hp] at take
          exact ev_pos (show enc none < 0 by decide) (take ⟨c1, c2, fun b hb => by simp at hb⟩)
        | some b =>
          rw [hp] at take stay
          have hb := hlt b hp
          have hbl := of_decide_eq_true (hv.2.1 _ (rdL_mem (show b < t.length by omega)))
          show Ev (fun k => if (b : Int) < 0 then _ else _) _
          refine ev_neg (by omega) (ev_pos (show (0 : Int) ≤ (b : Int) by omega) (ev_pos (show (b : Int) < (t.length : Int) by omega) ?_))
          show Ev (fun k => if wrap64 ((rd_T32 t (i : Int)).f0 + (rd_T32 t (i : Int)).f1) < wrap64 ((rd_T32 t (b : Int)).f0 + (rd_T32 t (b : Int)).f1) then _ else _) _
          rw [wrap_id (n := (rd_T32 t (i : Int)).f0 + (rd_T32 t (i : Int)).f1) (by omega) (by omega), wrap_id (n := (rd_T32 t (b : Int)).f0 + (rd_T32 t (b : Int)).f1) (by omega) (by omega)]
          by_cases c3 : (rd_T32 t (i : Int)).f0 + (rd_T32 t (i : Int)).f1 < (rd_T32 t (b : Int)).f0 + (rd_T32 t (b : Int)).f1
          · exact ev_pos c3 (take ⟨c1, c2, fun b' hb' => by injection hb' with hb'; subst hb'; exact c3⟩)
          · exact ev_neg c3 (stay (fun h => c3 (h.2.2 b rfl)))
      · exact ev_neg c1 (stay (fun h => c1 h.1))
    · exact ev_neg (by simpa using c2) (stay (fun h => c2 h.2.1))
theorem rbits_ev (t : List Ln) (hv : vldP t) (nn : Bool) (n : Int) (hn : wf64 n) : Ev (fun k => incunableref04_Bits.f k t nn n) (match bitsR t nn n with | none => ([], false) | some b => (b, true)) := by
  unfold incunableref04_Bits.f
  exact rbits_loop t hv nn n hn t.length 0 (by omega)
theorem bitsR_len {t : List Ln} {nn : Bool} {n : Int} {b : List Int} (hv : vldP t) (h : bitsR t nn n = some b) : b.length ≤ 35 := by
  unfold bitsR at h
  cases hp : pick t nn n t.length with
  | none => rw [hp] at h; simp at h
  | some j =>
    rw [hp] at h
    simp only [Option.map_some, Option.some.injEq] at h
    have hb := pick_lt t nn n _ j hp
    have hbl := of_decide_eq_true (hv.2.1 _ (rdL_mem hb.1))
    have hlen : len t j = (rd_T32 t (j : Int)).f0 := rfl
    rw [← h, List.length_append, digs_len, digs_len]
    omega
end Go.Proofs.Ytnadgcdkcabdoaa.Cdb
namespace Go.Proofs.Ytnadgcdkcabdoaa.Ckp
open Go Go.RowKit Go.Proofs.YtnadgcdkcabdoaaW.PrintWords Go.Proofs.YtnadgcdkcabdoaaW.PrintLast Go.Proofs.YtnadgcdkcabdoaaW.PrintMore Go.Proofs.Ytnadgcdkcabdoaa.Aid Go.Proofs.Ytnadgcdkcabdoaa.U Go.Proofs.Ytnadgcdkcabdoaa.Tab Go.Proofs.Ytnadgcdkcabdoaa.Cdx Go.Proofs.Ytnadgcdkcabdoaa.Cdy Go.Proofs.Ytnadgcdkcabdoaa.Cdz Go.Proofs.Ytnadgcdkcabdoaa.Cdb
def gb (c p v : Int) : Int := if p < c then v else 0
theorem gb_step {c p : Int} (v : Int) (h : p ≠ c) : gb (c + 1) p v = gb c p v := by
  unfold gb
  by_cases h1 : p < c
  · rw [if_pos h1, if_pos (by omega)]
  · rw [if_neg h1, if_neg (by omega)]
theorem gb_out {c p : Int} (v : Int) (h : c ≤ p) : gb c p v = 0 := if_neg (by omega)
theorem gb_in {c p : Int} (v : Int) (h : p < c) : gb c p v = v := if_pos h
/-- The byte j of the first c bits, packed. -/
def packByte (l : List Int) (c j : Int) : Int :=
  gb c (8 * j) (rd l (8 * j)) * 128 + gb c (8 * j + 1) (rd l (8 * j + 1)) * 64 + gb c (8 * j + 2) (rd l (8 * j + 2)) * 32 + gb c (8 * j + 3) (rd l (8 * j + 3)) * 16 +
  gb c (8 * j + 4) (rd l (8 * j + 4)) * 8 + gb c (8 * j + 5) (rd l (8 * j + 5)) * 4 + gb c (8 * j + 6) (rd l (8 * j + 6)) * 2 + gb c (8 * j + 7) (rd l (8 * j + 7))
def packUpTo (l : List Int) (c : Int) (m : Nat) : List Int := (List.range m).map fun (j : Nat) => packByte l c (j : Int)
/-- A list of bits. -/
def Bits (l : List Int) : Prop := ∀ x ∈ l, 0 ≤ x ∧ x ≤ 1
theorem bits_rd {l : List Int} (h : Bits l) (i : Int) (h0 : 0 ≤ i) : 0 ≤ rd l i ∧ rd l i ≤ 1 := by
  by_cases c : i < l.length
  · exact h _ (rd_mem h0 c)
  · rw [rd_nonneg_out (by omega)]; omega
theorem packByte_zero (l : List Int) (j : Int) (h : 0 ≤ j) : packByte l 0 j = 0 := by
  unfold packByte
  simp (disch := omega) only [gb_out]
  omega
theorem packByte_far (l : List Int) (c j : Int) (h : c < 8 * j ∨ 8 * j + 8 ≤ c) : packByte l (c + 1) j = packByte l c j := by
  unfold packByte
  simp (disch := omega) only [gb_step]
/-- One more bit: what stands there is a number with zeros behind, to which the bit is added. -/
theorem packByte_step (l : List Int) (hl : Bits l) (c j t : Int) (hj : 0 ≤ j) (hc : c = 8 * j + t) (h0 : 0 ≤ t) (h1 : t ≤ 7) :
    packByte l (c + 1) j = packByte l c j + rd l c * 2 ^ (7 - t).toNat ∧ 0 ≤ packByte l c j ∧ packByte l c j < 256 ∧ packByte l c j % 2 ^ (8 - t).toNat = 0 ∧ rd l c * 2 ^ (7 - t).toNat < 2 ^ (8 - t).toNat ∧ rd l c * 2 ^ (7 - t).toNat < 256 ∧ packByte l c j + rd l c * 2 ^ (7 - t).toNat < 256 := by
  have b0 := bits_rd hl (8 * j) (by omega)
  have b1 := bits_rd hl (8 * j + 1) (by omega)
  have b2 := bits_rd hl (8 * j + 2) (by omega)
  have b3 := bits_rd hl (8 * j + 3) (by omega)
  have b4 := bits_rd hl (8 * j + 4) (by omega)
  have b5 := bits_rd hl (8 * j + 5) (by omega)
  have b6 := bits_rd hl (8 * j + 6) (by omega)
  have b7 := bits_rd hl (8 * j + 7) (by omega)
  have ht : t = 0 ∨ t = 1 ∨ t = 2 ∨ t = 3 ∨ t = 4 ∨ t = 5 ∨ t = 6 ∨ t = 7 := by omega
  rcases ht with rfl | rfl | rfl | rfl | rfl | rfl | rfl | rfl <;> subst hc <;> unfold packByte <;>
    simp (disch := omega) only [gb_out, gb_in, Int.add_zero] <;> simp <;> omega
theorem packUpTo_len (l : List Int) (c : Int) (m : Nat) : (packUpTo l c m).length = m := by simp [packUpTo]
theorem packUpTo_rd (l : List Int) (c : Int) (m : Nat) (i : Int) (h0 : 0 ≤ i) (h : i < m) : rd (packUpTo l c m) i = packByte l c i := by
  obtain ⟨j, rfl⟩ : ∃ j : Nat, i = (j : Int) := ⟨i.toNat, by omega⟩
  exact rd_range_map _ (by omega)
theorem packUpTo_step (l : List Int) (hl : Bits l) (c : Int) (m : Nat) (h0 : 0 ≤ c) (h : c / 8 < m) :
    (packUpTo l c m).set (c / 8).toNat (packByte l c (c / 8) + rd l c * 2 ^ (7 - c % 8).toNat) = packUpTo l (c + 1) m := by
  refine set_range_map _ _ _ _ (by omega) ?_ ?_
  · have := (packByte_step l hl c (c / 8) (c % 8) (by omega) (by omega) (by omega) (by omega)).1
    rw [← this, show ((c / 8).toNat : Int) = c / 8 by omega]
  · intro j h1 h2
    rw [packByte_far l c j (by omega)]
theorem packUpTo_zero (l : List Int) (m : Nat) : packUpTo l 0 m = List.replicate m 0 := by
  apply List.ext_getElem
  · simp [packUpTo]
  intro j h1 h2
  simp [packUpTo, packByte_zero]
theorem bits_Pack_loop (l : List Int) (hl : Bits l) (hn : l.length ≤ 140737488351232) (m : Nat) (hm : (m : Int) = (l.length + 7) / 8) : ∀ (d : Nat) (i : Int), i + d = l.length → 0 ≤ i → Ev (fun k => bits_Pack.l0 k (packUpTo l i m) l (l.length : Int) i) (packUpTo l l.length m, 0)
  | 0, i, hd, h0 => by
    refine ev_succ ?_
    simp only [bits_Pack.l0]
    refine ev_eq (ev_neg (by omega) (Ev.now _)) ?_
    rw [show i = l.length by omega]
  | d + 1, i, hd, h0 => by
    refine ev_succ ?_
    simp only [bits_Pack.l0]
    have hb := bits_rd hl i h0
    simp (disch := omega) only [wrap_id, tmod_id, tdiv_id]
    refine ev_pos (by omega) (ev_pos (by omega) (ev_pos (by omega) (ev_neg (by omega) (ev_pos (by omega) (ev_pos (by rw [packUpTo_len]; omega) (ev_pos (by omega) ?_))))))
    rw [packUpTo_rd _ _ _ _ (by omega) (by omega)]
    have hs := packByte_step l hl i (i / 8) (i % 8) (by omega) (by omega) (by omega) (by omega)
    rw [shl_u8 hb.1 (by omega) (by omega) hs.2.2.2.2.2.1]
    rw [or_add (8 - i % 8).toNat hs.2.1 hs.2.2.2.1 hs.2.2.1 (Int.mul_nonneg hb.1 (Int.pow_nonneg (by decide))) hs.2.2.2.2.1 hs.2.2.2.2.2.1]
    rw [packUpTo_step l hl i m h0 (by omega)]
    exact bits_Pack_loop l hl hn m hm d (i + 1) (by omega) (by omega)
theorem bits_Pack_ev (l : List Int) (hl : Bits l) (hn : l.length ≤ 140737488351232) : Ev (fun k => bits_Pack.f k l) (packUpTo l l.length ((l.length + 7) / 8), 0) := by
  unfold bits_Pack.f
  simp (disch := omega) only [wrap_id, tmod_id, tdiv_id]
  refine ev_pos (by omega) (ev_pos (by omega) ?_)
  rw [show (((l.length : Int) + 7) / 8).toNat = (l.length + 7) / 8 by omega, ← packUpTo_zero l]
  exact bits_Pack_loop l hl hn _ (by omega) l.length 0 (by omega) (by omega)
theorem packed_loop (l : List Int) (hl : Bits l) (hn : l.length ≤ 140737488351232) (m : Nat) (hm : (m : Int) = (l.length + 7) / 8) : ∀ (d : Nat) (i : Int), i + d = l.length → 0 ≤ i → Ev (fun k => incunableref04_Packed.l0 k (packUpTo l i m) l (l.length : Int) i) (packUpTo l l.length m)
  | 0, i, hd, h0 => by
    refine ev_succ ?_
    simp only [incunableref04_Packed.l0]
    refine ev_eq (ev_neg (by omega) (Ev.now _)) ?_
    rw [show i = l.length by omega]
  | d + 1, i, hd, h0 => by
    refine ev_succ ?_
    simp only [incunableref04_Packed.l0]
    have hb := bits_rd hl i h0
    simp (disch := omega) only [wrap_id, tmod_id, tdiv_id]
    refine ev_pos (by omega) (ev_pos (by omega) (ev_pos (by omega) (ev_pos (by omega) (ev_pos (by rw [packUpTo_len]; omega) (ev_pos (by omega) ?_)))))
    rw [packUpTo_rd _ _ _ _ (by omega) (by omega)]
    have hs := packByte_step l hl i (i / 8) (i % 8) (by omega) (by omega) (by omega) (by omega)
    rw [shl_u8 hb.1 (by omega) (by omega) hs.2.2.2.2.2.1]
    rw [Int.emod_eq_of_lt (Int.add_nonneg hs.2.1 (Int.mul_nonneg hb.1 (Int.pow_nonneg (by decide)))) hs.2.2.2.2.2.2]
    rw [packUpTo_step l hl i m h0 (by omega)]
    exact packed_loop l hl hn m hm d (i + 1) (by omega) (by omega)
theorem packed_ev (l : List Int) (hl : Bits l) (hn : l.length ≤ 140737488351232) : Ev (fun k => incunableref04_Packed.f k l) (packUpTo l l.length ((l.length + 7) / 8)) := by
  unfold incunableref04_Packed.f
  simp (disch := omega) only [wrap_id, tmod_id, tdiv_id]
  refine ev_pos (by omega) (ev_pos (by omega) ?_)
  rw [show (((l.length : Int) + 7) / 8).toNat = (l.length + 7) / 8 by omega, ← packUpTo_zero l]
  exact packed_loop l hl hn _ (by omega) l.length 0 (by omega) (by omega)
abbrev Nm := S48
theorem drop_rdN {l : List Nm} {i : Nat} (h : i < l.length) : l.drop i = rd_T48 l (i : Int) :: l.drop (i + 1) := by
  rw [List.drop_eq_getElem_cons h]
  simp [rd_T48, List.getD_eq_getElem?_getD, List.getElem?_eq_getElem h]
theorem rdN_mem {l : List Nm} {i : Nat} (h : i < l.length) : rd_T48 l (i : Int) ∈ l := by
  have h1 := drop_rdN h
  exact List.mem_of_mem_drop (h1 ▸ List.mem_cons_self)
theorem digs_bits (x : Int) (n : Nat) : Bits (digs x n) := by
  intro y hy
  obtain ⟨j, _, rfl⟩ := List.mem_map.1 hy
  omega
theorem bits_app {a b : List Int} (ha : Bits a) (hb : Bits b) : Bits (a ++ b) := fun x hx => (List.mem_append.1 hx).elim (ha x) (hb x)
theorem bitsR_bits {t : List Ln} {nn : Bool} {n : Int} {b : List Int} (h : bitsR t nn n = some b) : Bits b := by
  unfold bitsR at h
  cases hp : pick t nn n t.length with
  | none => rw [hp] at h; simp at h
  | some j =>
    rw [hp] at h
    simp only [Option.map_some, Option.some.injEq] at h
    rw [← h]
    exact bits_app (digs_bits _ _) (digs_bits _ _)
/-- The bits of numbers. -/
def bitsL (t : List Ln) : List Nm → Option (List Int)
  | [] => some []
  | x :: r => match bitsR t x.f0 x.f1, bitsL t r with
    | some b, some c => some (b ++ c)
    | _, _ => none
def packL (l : List Int) : List Int := packUpTo l l.length ((l.length + 7) / 8)
def encR (t : List Ln) (n : Nat) (acc : List Int) (r : List Nm) : List Int × Int := match bitsL t r with
  | none => ([], 5)
  | some c => if n > 20000 then ([], 4) else (packL (acc ++ c), 0)
theorem bits_nil : Bits [] := fun x hx => absurd hx List.not_mem_nil
theorem penc_loop (t : List Ln) (hv : vldP t) (l : List Nm) (hn : l.length ≤ 40000) (hw : ∀ x ∈ l, wf64 x.f1) : ∀ (d i : Nat) (acc : List Int), i + d = l.length → Bits acc → acc.length ≤ 35 * i →
    Ev (fun k => prefix_Encode.l0 k t l acc (codesL t) l (l.length : Int) (i : Int)) (encR t l.length acc (l.drop i))
  | 0, i, acc, hd, hb, ha => by
    refine ev_succ ?_
    simp only [prefix_Encode.l0]
    rw [List.drop_of_length_le (by omega)]
    simp only [encR, bitsL, List.append_nil]
    refine ev_neg (by omega) ?_
    by_cases c : l.length > 20000
    · rw [if_pos c]
      exact ev_pos (by omega) (Ev.now _)
    · rw [if_neg c]
      exact ev_neg (by omega) (ev_bind (bits_Pack_ev acc hb (by omega)) (Ev.now _))
  | d + 1, i, acc, hd, hb, ha => by
    have hi : i < l.length := by omega
    have hwx := hw _ (rdN_mem hi)
    refine ev_succ ?_
    simp only [prefix_Encode.l0]
    rw [wrap_id (n := (i : Int) + 1) (by omega) (by omega), drop_rdN hi]
    refine ev_pos (by omega) (ev_pos (by omega) (ev_pos (by omega) (ev_bind (put_ev t hv _ _ hwx) ?_)))
    simp only [encR, bitsL]
    cases hR : bitsR t (rd_T48 l (i : Int)).f0 (rd_T48 l (i : Int)).f1 with
    | none => exact ev_neg (by decide) (Ev.now _)
    | some b =>
      have h35 := bitsR_len hv hR
      have ih := penc_loop t hv l hn hw d (i + 1) (acc ++ b) (by omega) (bits_app hb (bitsR_bits hR)) (by rw [List.length_append]; omega)
      refine ev_pos rfl (ev_pos (by show acc.length + b.length < 140737488355328; omega) (ev_eq ih ?_))
      unfold encR
      cases bitsL t (l.drop (i + 1)) with
      | none => rfl
      | some c => simp only [List.append_assoc]
theorem renc_loop (t : List Ln) (hv : vldP t) (l : List Nm) (hn : l.length ≤ 20000) (hw : ∀ x ∈ l, wf64 x.f1) : ∀ (d i : Nat) (acc : List Int), i + d = l.length → Bits acc → acc.length ≤ 35 * i →
    Ev (fun k => incunableref04_Encode.l0 k t l acc l (l.length : Int) (i : Int)) (encR t l.length acc (l.drop i))
  | 0, i, acc, hd, hb, ha => by
    refine ev_succ ?_
    simp only [incunableref04_Encode.l0]
    rw [List.drop_of_length_le (by omega)]
    simp only [encR, bitsL, List.append_nil]
    rw [if_neg (by omega)]
    exact ev_neg (by omega) (ev_neg (by omega) (ev_bind (packed_ev acc hb (by omega)) (Ev.now _)))
  | d + 1, i, acc, hd, hb, ha => by
    have hi : i < l.length := by omega
    have hwx := hw _ (rdN_mem hi)
    refine ev_succ ?_
    simp only [incunableref04_Encode.l0]
    rw [wrap_id (n := (i : Int) + 1) (by omega) (by omega), drop_rdN hi]
    refine ev_pos (by omega) (ev_pos (by omega) (ev_pos (by omega) (ev_bind (rbits_ev t hv _ _ hwx) ?_)))
    simp only [encR, bitsL]
    cases hR : bitsR t (rd_T48 l (i : Int)).f0 (rd_T48 l (i : Int)).f1 with
    | none => exact ev_neg (by decide) (Ev.now _)
    | some b =>
      have h35 := bitsR_len hv hR
      have ih := renc_loop t hv l hn hw d (i + 1) (acc ++ b) (by omega) (bits_app hb (bitsR_bits hR)) (by rw [List.length_append]; omega)
      refine ev_pos rfl (ev_pos (by omega) (ev_pos (by show acc.length + b.length < 140737488355328; omega) (ev_eq ih ?_)))
      unfold encR
      cases bitsL t (l.drop (i + 1)) with
      | none => rfl
      | some c => simp only [List.append_assoc]
theorem renc_big (t : List Ln) (hv : vldP t) (l : List Nm) (hn : l.length ≤ 40000) (hb : l.length > 20000) (hw : ∀ x ∈ l, wf64 x.f1) : ∀ (d i : Nat), i + d = l.length →
    Ev (fun k => incunableref04_Encode.l0 k t l [] l (l.length : Int) (i : Int)) (encR t l.length [] (l.drop i))
  | 0, i, hd => by
    refine ev_succ ?_
    simp only [incunableref04_Encode.l0]
    rw [List.drop_of_length_le (by omega)]
    simp only [encR, bitsL, List.append_nil]
    rw [if_pos hb]
    exact ev_neg (by omega) (ev_pos (by omega) (Ev.now _))
  | d + 1, i, hd => by
    have hi : i < l.length := by omega
    have hwx := hw _ (rdN_mem hi)
    refine ev_succ ?_
    simp only [incunableref04_Encode.l0]
    rw [wrap_id (n := (i : Int) + 1) (by omega) (by omega), drop_rdN hi]
    refine ev_pos (by omega) (ev_pos (by omega) (ev_pos (by omega) (ev_bind (rbits_ev t hv _ _ hwx) ?_)))
    simp only [encR, bitsL]
    cases hR : bitsR t (rd_T48 l (i : Int)).f0 (rd_T48 l (i : Int)).f1 with
    | none => exact ev_neg (by decide) (Ev.now _)
    | some b =>
      refine ev_pos rfl (ev_neg (by omega) (ev_eq (renc_big t hv l hn hb hw d (i + 1) (by omega)) ?_))
      unfold encR
      cases bitsL t (l.drop (i + 1)) with
      | none => rfl
      | some c => simp only [if_pos hb]
/-- The code of numbers. -/
def encodeP (t : List Ln) (l : List Nm) : List Int × Int := if vldP t then encR t l.length [] l else ([], 20)
theorem pencode_ev (t : List Ln) (l : List Nm) (hn : l.length ≤ 40000) (hw : ∀ x ∈ l, wf64 x.f1) : Ev (fun k => prefix_Encode.f k t l) (encodeP t l) := by
  unfold prefix_Encode.f encodeP
  by_cases c : vldP t
  · rw [if_pos c]
    exact ev_bind (ev_eq (pvalid_ev t) (decide_eq_true c)) (ev_pos rfl (ev_bind (codes_ev t c) (penc_loop t c l hn hw l.length 0 [] (by omega) bits_nil (Nat.zero_le _))))
  · rw [if_neg c]
    exact ev_bind (ev_eq (pvalid_ev t) (decide_eq_false c)) (ev_neg (by decide) (Ev.now _))
theorem rencode_ev (t : List Ln) (l : List Nm) (hn : l.length ≤ 40000) (hw : ∀ x ∈ l, wf64 x.f1) : Ev (fun k => incunableref04_Encode.f k t l) (encodeP t l) := by
  unfold incunableref04_Encode.f encodeP
  by_cases c : vldP t
  · rw [if_pos c]
    refine ev_bind (ev_eq (rvalid_ev t) (decide_eq_true c)) (ev_pos rfl ?_)
    by_cases hb : l.length > 20000
    · exact renc_big t c l hn hb hw l.length 0 (by omega)
    · exact renc_loop t c l (by omega) hw l.length 0 [] (by omega) bits_nil (Nat.zero_le _)
  · rw [if_neg c]
    exact ev_bind (ev_eq (rvalid_ev t) (decide_eq_false c)) (ev_neg (by decide) (Ev.now _))
theorem bitsL_len {t : List Ln} (hv : vldP t) : ∀ (l : List Nm) (c : List Int), bitsL t l = some c → c.length ≤ 35 * l.length
  | [], c, h => by
    simp only [bitsL, Option.some.injEq] at h
    subst h
    exact Nat.zero_le _
  | x :: r, c, h => by
    unfold bitsL at h
    cases hR : bitsR t x.f0 x.f1 with
    | none => rw [hR] at h; simp at h
    | some b =>
      cases hL : bitsL t r with
      | none => rw [hR, hL] at h; simp at h
      | some e =>
        rw [hR, hL] at h
        simp only [Option.some.injEq] at h
        have h1 := bitsR_len hv hR
        have h2 := bitsL_len hv r e hL
        rw [← h, List.length_append, List.length_cons]
        omega
theorem encodeP_len (t : List Ln) (l : List Nm) (hn : l.length ≤ 40000) : (encodeP t l).1.length ≤ 9223372036854775807 := by
  unfold encodeP
  split
  · rename_i hv
    unfold encR
    cases hL : bitsL t l with
    | none => simp
    | some c =>
      have := bitsL_len hv l c hL
      simp only
      split
      · simp
      · simp only [packL, List.nil_append, packUpTo_len]
        omega
  · simp
end Go.Proofs.Ytnadgcdkcabdoaa.Ckp
