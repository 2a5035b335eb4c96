import Derived.Test.YtlnhahnnjbfjdaaProg
import Derived.Below
import Derived.Deep.Draws
import Derived.Deep.AppendLies
import Derived.Maps.AppendAt
import Derived.OwnWalk
import Derived.Laws.BytesArg
import Derived.Laws.MakeOwn
import Derived.Laws.OwnMore
import Derived.Deep.OwnRows
import Derived.Tactics
import Derived.Lib.ConvBytes
import Derived.Laws.Slices
import Derived.WalkKit
import Derived.KernelRfl
import Derived.RowKit3
import Derived.Deep.LoopGhost
import Derived.Deep.QuietTactic
import Derived.BigQuiet
import Derived.WideLaws
import Derived.Deep.DeepCutAuto
import Derived.Deep.CutBlock
import Derived.Deep.RegionHeld3
import Derived.Laws.Rows
import Derived.Lib.AppendStr
import Derived.ArgAppend
import Derived.Laws.IdiomCopy
import Derived.OrdersHeld
import Derived.Laws.BitsLemmas
import Derived.RowKit
import Derived.Test.YtlnhahnnjbfjdaaMNumberNil0
import Derived.SizedLaws
import Derived.ChangeSlices
import Derived.ChangeArms
import Derived.Laws.CopyOwn
import Derived.Deep.MidRow
import Derived.Shelf.Small.Bits
import Derived.Shelf.Strconv.Itoa0
import Derived.Lib.ItoaNum
import Derived.RegionTactic
import Derived.ChangeAlike
import Derived.BigRegion
import Derived.Laws.ResultCell
set_option linter.unusedVariables false
set_option linter.unusedSimpArgs false
namespace Go.Proofs.Ytlnhahnnjbfjdaa.U
open Go.RowKit Go.Proofs.YtlnhahnnjbfjdaaW.PrintWords Go.Proofs.YtlnhahnnjbfjdaaW.PrintLast Go.Proofs.YtlnhahnnjbfjdaaW.PrintMore
attribute [local go_sem] max2_int min2_int max_two min_two max_three min_three max_four min_four   -- for this text's walks alone
def errW : Option Int → Value
  | none => .nilIface
  | some c => .iface 0 (.int .i64 c)
theorem errW_none : errW none = .nilIface := rfl
theorem errW_some (c : Int) : errW (some c) = .iface 0 (.int .i64 c) := rfl
theorem info87 : (Try.prog.info? 87).map (fun i => (i.zero, i.size, i.bytes)) = some (some (.agg #[(.int .i64 0), (.int .i64 0)]), 2, 16) := by kernel_rfl
structure S87 where
  f0 : Int
  f1 : Int
def z87 : S87 := ⟨(0 : Int), (0 : Int)⟩
def k87 : Kd S87 := Kd.iso (Kd.pair (Kd.int .i64) (Kd.int .i64)) (fun x : S87 => (x.f0, x.f1))
theorem k87_open {w : World} {x : S87} {cs : List Value} (h : k87.K w x cs) : cs = [.int .i64 x.f0, .int .i64 x.f1] := by
 obtain ⟨_, _, rfl, rfl, rfl⟩ := h; exact rfl
theorem k87_mkM (w : World) (base : Nat) (ok : Nat → Prop) (x : S87)  : k87.M w base ok x [.int .i64 x.f0, .int .i64 x.f1] := ⟨[.int .i64 x.f0], [.int .i64 x.f1], rfl, rfl, rfl⟩
def rd_T87 (xs : List S87) (i : Int) : S87 := xs.getD i.toNat z87
theorem at_T87 {w : World} {A : Option Addr} {n : Nat} {xs : List S87} (h : Kd.C k87 w A n xs) (i : Int) (h0 : 0 ≤ i) (h1 : i < n) : ∃ ad , A = some ad ∧ w.cell? (ad.add (i.toNat * 2)) = some (.int .i64 (rd_T87 xs i).f0) ∧ w.cell? ⟨(ad.add (i.toNat * 2)).block, (ad.add (i.toNat * 2)).off + 1, none⟩ = some (.int .i64 (rd_T87 xs i).f1) := by
 obtain ⟨ad, c, e, _, hK, hc0⟩ := Kd.C_get h z87 i h0 h1; have hc : ∀ j u, c[j]? = some u → w.cell? (ad.add (i.toNat * 2 + j)) = some u := hc0; obtain rfl := k87_open hK; exact ⟨ad, e, hc 0 _ rfl, by rw [← add_field _ _ 1 (by omega)]; exact hc 1 _ rfl⟩
structure S23 where
  f0 : Bool
  f1 : Int
def z23 : S23 := ⟨false, (0 : Int)⟩
def rd_T23 (xs : List S23) (i : Int) : S23 := xs.getD i.toNat z23
end Go.Proofs.Ytlnhahnnjbfjdaa.U
namespace Go.Proofs.Ytlnhahnnjbfjdaa.U
open Go.RowKit Go.Proofs.YtlnhahnnjbfjdaaW.PrintWords Go.Proofs.YtlnhahnnjbfjdaaW.PrintLast Go.Proofs.YtlnhahnnjbfjdaaW.PrintMore
attribute [local go_sem] max2_int min2_int max_two min_two max_three min_three max_four min_four   -- for this text's walks alone
theorem eqA23 (d : Nat) (w : World) (x0 y0 : Bool) (x1 y1 : Int) :
    (Op.equalIn (d + 2) 23 (.agg #[.bool x0, .int .i64 x1]) (.agg #[.bool y0, .int .i64 y1])).run Try.prog w = .ok (x0 == y0 && (x1 == y1)) w := by
  refine eqA_of Try.underlying23 (by kernel_rfl) ?_
  refine eqf_cons (by rfl) (by go_simp; rfl) (by go_simp; rfl) (by go_simp) ?_
  exact eqf_last (by rfl) (by go_simp; rfl) (by go_simp; rfl) (by go_simp)
end Go.Proofs.Ytlnhahnnjbfjdaa.U
namespace Go.Proofs.Ytlnhahnnjbfjdaa.U
open Go.RowKit Go.Proofs.YtlnhahnnjbfjdaaW.PrintWords Go.Proofs.YtlnhahnnjbfjdaaW.PrintLast Go.Proofs.YtlnhahnnjbfjdaaW.PrintMore
attribute [local go_sem] max2_int min2_int max_two min_two max_three min_three max_four min_four   -- for this text's walks alone
attribute [local go_sem high] eqA23
def incunableref03_Same.l0 : Nat → List (S23) → List (S23) → Int → Option (Bool)
  | 0, _, _, _ => none
  | k + 1, x0, x1, x5 => if x5 < (x0.length : Int) then (if 0 ≤ x5 then (if x5 < (x1.length : Int) then (if (!(((rd_T23 x0 x5).f0) == ((rd_T23 x1 x5).f0)) || (!(((rd_T23 x0 x5).f1) == ((rd_T23 x1 x5).f1)))) = true then (some false) else (incunableref03_Same.l0 k x0 x1 (wrap64 (x5 + 1)))) else (none)) else (none)) else (some true)
def incunableref03_Same.f (k : Nat) (l0 : List (S23)) (l1 : List (S23)) : Option (Bool) := if (l0.length : Int) = (l1.length : Int) then (incunableref03_Same.l0 k l0 l1 0) else (some false)
theorem incunableref03_Same.mono_l : ∀ k, (∀ y0 y1 y2, LeO (incunableref03_Same.l0 k y0 y1 y2) (incunableref03_Same.l0 (k + 1) y0 y1 y2))
  | 0 => fun _ _ _ r h => by simp [incunableref03_Same.l0] at h
  | k + 1 => by
    have ih0 := incunableref03_Same.mono_l k
    · intro y0 y1 y2
      unfold incunableref03_Same.l0
      repeat' first
      | (with_reducible exact ih0 _ _ _)
      | (with_reducible exact LeO.refl _)
      | (with_reducible exact LeO.none _)
      | (with_reducible refine LeO.ite ?_ ?_)
      | (with_reducible refine LeO.bind ?_ (fun _ => ?_))
      | exact ih0 _ _ _
      | exact LeO.none _
      | refine LeO.ite ?_ ?_
      | refine LeO.bind ?_ (fun _ => ?_)
theorem incunableref03_Same.mono : ∀ a0 a1 k, LeO (incunableref03_Same.f k a0 a1) (incunableref03_Same.f (k + 1) a0 a1) := by
 intro a0 a1 k; have ih0 := incunableref03_Same.mono_l k; unfold incunableref03_Same.f
 repeat' first
  | (with_reducible exact ih0 _ _ _)
  | (with_reducible exact LeO.refl _)
  | (with_reducible exact LeO.none _)
  | (with_reducible refine LeO.ite ?_ ?_)
  | (with_reducible refine LeO.bind ?_ (fun _ => ?_))
  | exact ih0 _ _ _
  | exact LeO.none _
  | refine LeO.ite ?_ ?_
  | refine LeO.bind ?_ (fun _ => ?_)
end Go.Proofs.Ytlnhahnnjbfjdaa.U
namespace Go.Proofs.Ytlnhahnnjbfjdaa.Aid
open Go Go.RowKit Go.Proofs.YtlnhahnnjbfjdaaW.PrintWords Go.Proofs.YtlnhahnnjbfjdaaW.PrintLast Go.Proofs.YtlnhahnnjbfjdaaW.PrintMore
theorem wrap_id {n : Int} (h : -9223372036854775808 ≤ n) (h' : n ≤ 9223372036854775807) : wrap64 n = n := by
  unfold wrap64; omega
theorem ev_succ {α : Type} {g : Nat → Option α} {r : α} (h : Ev (fun k => g (k + 1)) r) : Ev g r := Ev.step (fun _ => rfl) h
theorem ev_pos {α : Type} {c : Prop} [Decidable c] {a b : Nat → Option α} {r : α} (hc : c) (h : Ev a r) : Ev (fun k => if c then a k else b k) r :=
  Ev.congr (fun _ => if_pos hc) h
theorem ev_neg {α : Type} {c : Prop} [Decidable c] {a b : Nat → Option α} {r : α} (hc : ¬ c) (h : Ev b r) : Ev (fun k => if c then a k else b k) r :=
  Ev.congr (fun _ => if_neg hc) h
/-- A list of bytes. -/
def Bytes (l : List Int) : Prop := ∀ x ∈ l, 0 ≤ x ∧ x ≤ 255
end Go.Proofs.Ytlnhahnnjbfjdaa.Aid
namespace Go.Proofs.Ytlnhahnnjbfjdaa.HandAid
open Go Go.RowKit Go.Proofs.YtlnhahnnjbfjdaaW.PrintWords Go.Proofs.YtlnhahnnjbfjdaaW.PrintLast Go.Proofs.YtlnhahnnjbfjdaaW.PrintMore Go.Proofs.Ytlnhahnnjbfjdaa.Aid
theorem heap_new (w : World) (o : Obj) : (w.alloc o).heap[w.heap.size]? = some o := by simpa using heap_alloc_new w o
end Go.Proofs.Ytlnhahnnjbfjdaa.HandAid
namespace Go.Proofs.Ytlnhahnnjbfjdaa.Opn
open Go Go.RowKit Go.Proofs.YtlnhahnnjbfjdaaW.PrintWords Go.Proofs.YtlnhahnnjbfjdaaW.PrintLast Go.Proofs.YtlnhahnnjbfjdaaW.PrintMore Go.ChangeShapes Go.WideShapes
/-- The cells that the form reads at type t (with fuel N at the most) tell an element of the kind d, of which Wf holds. -/
structure OpensTo (P : Program) (N : Nat) {α : Type} (t : TypeId) (d : Kd α) (Wf : α → Prop) : Prop where
  sz : P.cellsOf t = d.sz
  op : ∀ {H : Type} {enc : TypeId × Value → H} {w : World} {fuel : Nat} {cs : List Value} {x : DataW H × List MemPlace}, fuel ≤ N → DataW.trod enc P w 0 (fun _ => true) true fuel t cs = some x → (∀ n ∈ x.1.weights P t, n ≤ reachBytes) → ∃ a : α, d.K w a cs ∧ Wf a
section
variable {P : Program} {N : Nat} {α β : Type} {t e : TypeId} {d : Kd α} {d' : Kd β} {Wf Wf2 : α → Prop} {Wf' : β → Prop}
theorem o_int {k : IntKind} (ht : P.underlying t = some (.int k)) (hc : P.cellsOf t = 1) : OpensTo P N t (Kd.int k) (fun n => (Lit.int k n).wf = true) := ⟨hc, fun _ hx _ => by
  obtain ⟨n, rfl, rfl, hw⟩ := DataW.trod_int ht hx
  exact ⟨n, rfl, hw⟩⟩
theorem o_bool (ht : P.underlying t = some .bool) (hc : P.cellsOf t = 1) : OpensTo P N t Kd.bool (fun _ => True) := ⟨hc, fun _ hx _ => by
  obtain ⟨n, rfl, rfl⟩ := DataW.trod_bool ht hx
  exact ⟨n, rfl, trivial⟩⟩
/-- The same for a struct's fields from offset o on. -/
structure OpensF (P : Program) (N : Nat) {α : Type} (fs : List Field) (o : Nat) (d : Kd α) (Wf : α → Prop) : Prop where
  op : ∀ {H : Type} {enc : TypeId × Value → H} {w : World} {fuel : Nat} {cs : List Value} {xs : List (DataW H × List MemPlace)}, fuel ≤ N → cs.length = o + d.sz → xs.length = fs.length →
    (∀ (i : Nat) (f : Field), fs[i]? = some f → DataW.trod enc P w 0 (fun _ => true) true fuel f.type ((cs.drop f.offset).take (P.cellsOf f.type)) = xs[i]?) →
    (∀ n ∈ DataW.weightsEach P (fs.map (·.type)) (xs.map (·.1)), n ≤ reachBytes) → ∃ a : α, d.K w a (cs.drop o) ∧ Wf a
theorem f_one {f : Field} {o : Nat} (ho : f.offset = o) (h : OpensTo P N f.type d Wf) : OpensF P N [f] o d Wf := ⟨by
  intro H enc w fuel cs xs hf hl hxl hx hw
  match xs, hxl with
  | [x], _ =>
    have h1 := hx 0 f rfl
    rw [ho, h.sz, List.take_of_length_le (by rw [List.length_drop]; omega)] at h1
    exact h.op hf h1 (fun n hn => hw n (by simp [DataW.weightsEach, hn]))⟩
theorem f_cons {f : Field} {fs : List Field} {o : Nat} (ho : f.offset = o) (h : OpensTo P N f.type d Wf) (hs : OpensF P N fs (o + d.sz) d' Wf') : OpensF P N (f :: fs) o (Kd.pair d d') (fun x => Wf x.1 ∧ Wf' x.2) := ⟨by
  intro H enc w fuel cs xs hf hl hxl hx hw
  match xs, hxl with
  | x :: xs, hxl =>
    have hl' : cs.length = o + (d.sz + d'.sz) := hl
    have h1 := hx 0 f rfl
    rw [ho, h.sz] at h1
    obtain ⟨a, hk, hwf⟩ := h.op hf h1 (fun n hn => hw n (by simp [DataW.weightsEach, hn]))
    obtain ⟨b, hk', hwf'⟩ := hs.op (xs := xs) hf (by rw [hl']; omega) (by simpa using hxl) (fun i g hg => by simpa using hx (i + 1) g (by simpa using hg)) (fun n hn => hw n (by
      simp only [List.map_cons, DataW.weightsEach]
      exact List.mem_append.2 (.inr hn)))
    refine ⟨(a, b), ⟨_, _, ?_, hk, hk'⟩, hwf, hwf'⟩
    rw [← List.drop_drop, List.take_append_drop]⟩
theorem o_struct {fs : Array Field} (hu : P.underlying t = some (.struct fs)) (hc : P.cellsOf t = d.sz) (h : OpensF P N fs.toList 0 d Wf) : OpensTo P (N + 1) t d Wf := ⟨hc, fun {H enc w fuel cs x} hf hx hw => by
  obtain ⟨xs, n, hfn, rfl, hl, hxl, hel⟩ := DataW.trod_struct hu hx
  have := h.op (xs := xs) (cs := cs) (w := w) (enc := enc) (fuel := n) (by omega) (by rw [hl, hc, Nat.zero_add]) (by simpa using hxl) (fun i f hf' => hel i f (by simpa using hf')) (fun m hm => hw m (by
    unfold DataW.weights
    rw [hu]
    exact hm))
  simpa using this⟩
/-- A row's argument that is read whole: at whatever fuel. -/
theorem open_arg {H : Type} {enc : TypeId × Value → H} {W : World} {v : Value} {x : DataW H} {p : List MemPlace} {ts : List TypeId} {ds : List (DataW H)} {j : Nat} (ho : ∀ n, OpensTo P (n + N) t d Wf)
    (h : DataW.Trod enc P W 0 (fun _ => true) true t v x p) (hsz : (DataW.weightsEach P ts ds).all (· ≤ reachBytes) = true) (ht : ts[j]? = some t) (hd : ds[j]? = some x) : ∃ a : α, d.K W a v.cells.toList ∧ Wf a := by
  obtain ⟨fuel, hf⟩ := h
  refine (ho fuel).op (by omega) hf (fun n hn => ?_)
  have := List.all_eq_true.1 hsz n (DataW.weights_mem_each ht hd n hn)
  simpa using this
end
end Go.Proofs.Ytlnhahnnjbfjdaa.Opn
namespace Go.Proofs.Ytlnhahnnjbfjdaa.Cod1
open Go Go.RowKit Go.Proofs.YtlnhahnnjbfjdaaW.PrintWords Go.Proofs.YtlnhahnnjbfjdaaW.PrintLast Go.Proofs.YtlnhahnnjbfjdaaW.PrintMore Go.Proofs.Ytlnhahnnjbfjdaa.Aid Go.Proofs.Ytlnhahnnjbfjdaa.HandAid
/-- q(k) of the chapter. -/
def qv : Nat → Int
  | 0 => 2048
  | k + 1 => qv k - qv k / 8
/-- The table when k places are written. -/
def qpart (k : Nat) : List Value := (List.range 32).map fun (i : Nat) => .int .i64 (if i < k then qv i else 0)
/-- How likely a 1 is, of 4096, in a state. -/
def likely (kind s : Int) : Int :=
  if kind = 1 then (if 4095 < (if (2 * (s % 256) + 1) * 4096 / (2 * (s / 256) + 2 * (s % 256) + 2) < 1 then 1 else (2 * (s % 256) + 1) * 4096 / (2 * (s / 256) + 2 * (s % 256) + 2)) then 4095 else (if (2 * (s % 256) + 1) * 4096 / (2 * (s / 256) + 2 * (s % 256) + 2) < 1 then 1 else (2 * (s % 256) + 1) * 4096 / (2 * (s / 256) + 2 * (s % 256) + 2)))
  else if s ≥ 32 then 4096 - qv (s - 32).toNat else qv s.toNat
/-- A state that is one. -/
def okState (kind s : Int) : Prop := (kind = 0 ∧ 0 ≤ s ∧ s < 64) ∨ (kind = 1 ∧ 0 ≤ s ∧ s < 65536)
attribute [local go_sem] max2_int min2_int max_two min_two
/-- The state behind a bit. -/
def after (kind s bit : Int) : Int :=
  if kind = 1 then
    (if bit = 0 then (if s / 256 = 255 then 256 * (255 / 2 + 1) + s % 256 / 2 else 256 * (s / 256 + 1) + s % 256)
     else (if s % 256 = 255 then 256 * (s / 256 / 2) + (255 / 2 + 1) else 256 * (s / 256) + (s % 256 + 1)))
  else if bit = s / 32 then 32 * (s / 32) + (if 31 < s % 32 + 1 then 31 else s % 32 + 1)
  else if s % 32 = 0 then 32 * bit + 0
  else 32 * (s / 32) + (s % 32 - (1 + s % 32 / 4))
end Go.Proofs.Ytlnhahnnjbfjdaa.Cod1
namespace Go.Proofs.Ytlnhahnnjbfjdaa.Cod2
open Go Go.RowKit Go.Proofs.YtlnhahnnjbfjdaaW.PrintWords Go.Proofs.YtlnhahnnjbfjdaaW.PrintLast Go.Proofs.YtlnhahnnjbfjdaaW.PrintMore Go.Proofs.Ytlnhahnnjbfjdaa.Aid Go.Proofs.Ytlnhahnnjbfjdaa.HandAid Go.Proofs.Ytlnhahnnjbfjdaa.Cod1
attribute [local go_sem] max2_int min2_int max_two min_two
/-! ### the interval -/
/-- Where a chance cuts the interval. -/
def midOf (low high p : Int) : Int := low + (high - low) / 4096 * p + (high - low) % 4096 * p / 4096
end Go.Proofs.Ytlnhahnnjbfjdaa.Cod2
namespace Go.Proofs.Ytlnhahnnjbfjdaa.Cod3
open Go Go.RowKit Go.Proofs.YtlnhahnnjbfjdaaW.PrintWords Go.Proofs.YtlnhahnnjbfjdaaW.PrintLast Go.Proofs.YtlnhahnnjbfjdaaW.PrintMore Go.Proofs.Ytlnhahnnjbfjdaa.Aid Go.Proofs.Ytlnhahnnjbfjdaa.HandAid Go.Proofs.Ytlnhahnnjbfjdaa.Cod1 Go.Proofs.Ytlnhahnnjbfjdaa.Cod2
set_option maxRecDepth 100000
/-- A block's interval, at its begin: kind, states' row, table, low, high. -/
structure Iv (w : World) (g : Nat) (kind : Int) (A : Option Addr) (n c : Nat) (low high : Int) : Prop where
  k : w.cell? ⟨g, 0, none⟩ = some (.int .i64 kind)
  s : w.cell? ⟨g, 1, none⟩ = some (.slice A n c)
  q : w.rangeAt g 2 (qpart 32)
  l : w.cell? ⟨g, 34, none⟩ = some (.int .u64 low)
  h : w.cell? ⟨g, 35, none⟩ = some (.int .u64 high)
  f : ∀ i, w.frozen? ⟨g, i, none⟩ = false
theorem Iv.below {w w' : World} {g : Nat} {kind : Int} {A : Option Addr} {n c : Nat} {low high : Int} (h : Iv w g kind A n c low high) (hb : Below w.heap.size w w') : Iv w' g kind A n c low high :=
  have hg := World.block_lt_of_cell? w _ h.k
  ⟨pw_cell_below hb h.k, pw_cell_below hb h.s, fun j v hj => pw_cell_below hb (h.q j v hj), pw_cell_below hb h.l, pw_cell_below hb h.h, fun i => (hb.frozen (p := ⟨g, i, none⟩) hg).trans (h.f i)⟩
end Go.Proofs.Ytlnhahnnjbfjdaa.Cod3
namespace Go.Proofs.Ytlnhahnnjbfjdaa.U
open Go.RowKit Go.Proofs.YtlnhahnnjbfjdaaW.PrintWords Go.Proofs.YtlnhahnnjbfjdaaW.PrintLast Go.Proofs.YtlnhahnnjbfjdaaW.PrintMore
attribute [local go_sem] max2_int min2_int max_two min_two max_three min_three max_four min_four   -- for this text's walks alone
mutual
def coder_Valid.j0 : Nat → Bool → Int → List Int → Option (Bool)
  | 0, _, _, _ => none
  | k + 1, x19, x184000, x184001 => if x19 = true then (some false) else (if x184000 = 1 then (coder_Valid.j1 k 65536 x184000 x184001) else (coder_Valid.j1 k 64 x184000 x184001))
def coder_Valid.j1 : Nat → Int → Int → List Int → Option (Bool)
  | 0, _, _, _ => none
  | k + 1, x3, x184000, x184001 => coder_Valid.l0 k x3 x184001 (x184001.length : Int) 0
def coder_Valid.l0 : Nat → Int → List Int → Int → Int → Option (Bool)
  | 0, _, _, _, _ => none
  | k + 1, x3, x24, x25, x26 => if x26 < x25 then (if 0 ≤ x26 then (if x26 < (x24.length : Int) then (if (rd x24 x26) < 0 then (some false) else (if (rd x24 x26) ≥ x3 then (some false) else (coder_Valid.l0 k x3 x24 x25 (wrap64 (x26 + 1))))) else (none)) else (none)) else (some true)
end
def coder_Valid.f (k : Nat) (a0_0 : Int) (l0_1 : List Int) : Option (Bool) := if a0_0 = 0 then (coder_Valid.j0 k (decide ((l0_1.length : Int) > 8192)) a0_0 l0_1) else (if a0_0 = 1 then (coder_Valid.j0 k (decide ((l0_1.length : Int) > 8192)) a0_0 l0_1) else (coder_Valid.j0 k true a0_0 l0_1))
theorem coder_Valid.mono_l : ∀ k, (∀ y0 y1 y2, LeO (coder_Valid.j0 k y0 y1 y2) (coder_Valid.j0 (k + 1) y0 y1 y2)) ∧ (∀ y0 y1 y2, LeO (coder_Valid.j1 k y0 y1 y2) (coder_Valid.j1 (k + 1) y0 y1 y2)) ∧ (∀ y0 y1 y2 y3, LeO (coder_Valid.l0 k y0 y1 y2 y3) (coder_Valid.l0 (k + 1) y0 y1 y2 y3))
  | 0 => ⟨fun _ _ _ r h => by simp [coder_Valid.j0] at h, fun _ _ _ r h => by simp [coder_Valid.j1] at h, fun _ _ _ _ r h => by simp [coder_Valid.l0] at h⟩
  | k + 1 => by
    obtain ⟨ih0, ih1, ih2⟩ := coder_Valid.mono_l k
    refine ⟨?_, ?_, ?_⟩
    · intro y0 y1 y2
      unfold coder_Valid.j0
      repeat' first
      | (with_reducible exact ih0 _ _ _)
      | (with_reducible exact ih1 _ _ _)
      | (with_reducible exact ih2 _ _ _ _)
      | (with_reducible exact LeO.refl _)
      | (with_reducible exact LeO.none _)
      | (with_reducible refine LeO.ite ?_ ?_)
      | (with_reducible refine LeO.bind ?_ (fun _ => ?_))
      | exact ih0 _ _ _
      | exact ih1 _ _ _
      | exact ih2 _ _ _ _
      | exact LeO.none _
      | refine LeO.ite ?_ ?_
      | refine LeO.bind ?_ (fun _ => ?_)
    · intro y0 y1 y2
      unfold coder_Valid.j1
      repeat' first
      | (with_reducible exact ih0 _ _ _)
      | (with_reducible exact ih1 _ _ _)
      | (with_reducible exact ih2 _ _ _ _)
      | (with_reducible exact LeO.refl _)
      | (with_reducible exact LeO.none _)
      | (with_reducible refine LeO.ite ?_ ?_)
      | (with_reducible refine LeO.bind ?_ (fun _ => ?_))
      | exact ih0 _ _ _
      | exact ih1 _ _ _
      | exact ih2 _ _ _ _
      | exact LeO.none _
      | refine LeO.ite ?_ ?_
      | refine LeO.bind ?_ (fun _ => ?_)
    · intro y0 y1 y2 y3
      unfold coder_Valid.l0
      repeat' first
      | (with_reducible exact ih0 _ _ _)
      | (with_reducible exact ih1 _ _ _)
      | (with_reducible exact ih2 _ _ _ _)
      | (with_reducible exact LeO.refl _)
      | (with_reducible exact LeO.none _)
      | (with_reducible refine LeO.ite ?_ ?_)
      | (with_reducible refine LeO.bind ?_ (fun _ => ?_))
      | exact ih0 _ _ _
      | exact ih1 _ _ _
      | exact ih2 _ _ _ _
      | exact LeO.none _
      | refine LeO.ite ?_ ?_
      | refine LeO.bind ?_ (fun _ => ?_)
theorem coder_Valid.mono : ∀ a0 a1 k, LeO (coder_Valid.f k a0 a1) (coder_Valid.f (k + 1) a0 a1) := by
 intro a0 a1 k; obtain ⟨ih0, ih1, ih2⟩ := coder_Valid.mono_l k; unfold coder_Valid.f
 repeat' first
  | (with_reducible exact ih0 _ _ _)
  | (with_reducible exact ih1 _ _ _)
  | (with_reducible exact ih2 _ _ _ _)
  | (with_reducible exact LeO.refl _)
  | (with_reducible exact LeO.none _)
  | (with_reducible refine LeO.ite ?_ ?_)
  | (with_reducible refine LeO.bind ?_ (fun _ => ?_))
  | exact ih0 _ _ _
  | exact ih1 _ _ _
  | exact ih2 _ _ _ _
  | exact LeO.none _
  | refine LeO.ite ?_ ?_
  | refine LeO.bind ?_ (fun _ => ?_)
end Go.Proofs.Ytlnhahnnjbfjdaa.U
namespace Go.Proofs.Ytlnhahnnjbfjdaa.U
open Go.RowKit Go.Proofs.YtlnhahnnjbfjdaaW.PrintWords Go.Proofs.YtlnhahnnjbfjdaaW.PrintLast Go.Proofs.YtlnhahnnjbfjdaaW.PrintMore
attribute [local go_sem] max2_int min2_int max_two min_two max_three min_three max_four min_four   -- for this text's walks alone
mutual
def incunableref02_Valid.j0 : Nat → Int → Int → List Int → Option (Bool)
  | 0, _, _, _ => none
  | k + 1, x3, x208000, x208001 => if x208000 = 0 then (incunableref02_Valid.j1 k x3 (decide ((x208001.length : Int) > 8192)) x208000 x208001) else (if x208000 = 1 then (incunableref02_Valid.j1 k x3 (decide ((x208001.length : Int) > 8192)) x208000 x208001) else (incunableref02_Valid.j1 k x3 true x208000 x208001))
def incunableref02_Valid.j1 : Nat → Int → Bool → Int → List Int → Option (Bool)
  | 0, _, _, _, _ => none
  | k + 1, x3, x22, x208000, x208001 => if x22 = true then (some false) else (incunableref02_Valid.l0 k x3 x208001 (x208001.length : Int) 0)
def incunableref02_Valid.l0 : Nat → Int → List Int → Int → Int → Option (Bool)
  | 0, _, _, _, _ => none
  | k + 1, x3, x24, x25, x26 => if x26 < x25 then (if 0 ≤ x26 then (if x26 < (x24.length : Int) then (if (rd x24 x26) < 0 then (some false) else (if (rd x24 x26) > x3 then (some false) else (incunableref02_Valid.l0 k x3 x24 x25 (wrap64 (x26 + 1))))) else (none)) else (none)) else (some true)
end
def incunableref02_Valid.f (k : Nat) (a0_0 : Int) (l0_1 : List Int) : Option (Bool) := if a0_0 = 1 then (incunableref02_Valid.j0 k 65535 a0_0 l0_1) else (incunableref02_Valid.j0 k 63 a0_0 l0_1)
theorem incunableref02_Valid.mono_l : ∀ k, (∀ y0 y1 y2, LeO (incunableref02_Valid.j0 k y0 y1 y2) (incunableref02_Valid.j0 (k + 1) y0 y1 y2)) ∧ (∀ y0 y1 y2 y3, LeO (incunableref02_Valid.j1 k y0 y1 y2 y3) (incunableref02_Valid.j1 (k + 1) y0 y1 y2 y3)) ∧ (∀ y0 y1 y2 y3, LeO (incunableref02_Valid.l0 k y0 y1 y2 y3) (incunableref02_Valid.l0 (k + 1) y0 y1 y2 y3))
  | 0 => ⟨fun _ _ _ r h => by simp [incunableref02_Valid.j0] at h, fun _ _ _ _ r h => by simp [incunableref02_Valid.j1] at h, fun _ _ _ _ r h => by simp [incunableref02_Valid.l0] at h⟩
  | k + 1 => by
    obtain ⟨ih0, ih1, ih2⟩ := incunableref02_Valid.mono_l k
    refine ⟨?_, ?_, ?_⟩
    · intro y0 y1 y2
      unfold incunableref02_Valid.j0
      repeat' first
      | (with_reducible exact ih0 _ _ _)
      | (with_reducible exact ih1 _ _ _ _)
      | (with_reducible exact ih2 _ _ _ _)
      | (with_reducible exact LeO.refl _)
      | (with_reducible exact LeO.none _)
      | (with_reducible refine LeO.ite ?_ ?_)
      | (with_reducible refine LeO.bind ?_ (fun _ => ?_))
      | exact ih0 _ _ _
      | exact ih1 _ _ _ _
      | exact ih2 _ _ _ _
      | exact LeO.none _
      | refine LeO.ite ?_ ?_
      | refine LeO.bind ?_ (fun _ => ?_)
    · intro y0 y1 y2 y3
      unfold incunableref02_Valid.j1
      repeat' first
      | (with_reducible exact ih0 _ _ _)
      | (with_reducible exact ih1 _ _ _ _)
      | (with_reducible exact ih2 _ _ _ _)
      | (with_reducible exact LeO.refl _)
      | (with_reducible exact LeO.none _)
      | (with_reducible refine LeO.ite ?_ ?_)
      | (with_reducible refine LeO.bind ?_ (fun _ => ?_))
      | exact ih0 _ _ _
      | exact ih1 _ _ _ _
      | exact ih2 _ _ _ _
      | exact LeO.none _
      | refine LeO.ite ?_ ?_
      | refine LeO.bind ?_ (fun _ => ?_)
    · intro y0 y1 y2 y3
      unfold incunableref02_Valid.l0
      repeat' first
      | (with_reducible exact ih0 _ _ _)
      | (with_reducible exact ih1 _ _ _ _)
      | (with_reducible exact ih2 _ _ _ _)
      | (with_reducible exact LeO.refl _)
      | (with_reducible exact LeO.none _)
      | (with_reducible refine LeO.ite ?_ ?_)
      | (with_reducible refine LeO.bind ?_ (fun _ => ?_))
      | exact ih0 _ _ _
      | exact ih1 _ _ _ _
      | exact ih2 _ _ _ _
      | exact LeO.none _
      | refine LeO.ite ?_ ?_
      | refine LeO.bind ?_ (fun _ => ?_)
theorem incunableref02_Valid.mono : ∀ a0 a1 k, LeO (incunableref02_Valid.f k a0 a1) (incunableref02_Valid.f (k + 1) a0 a1) := by
 intro a0 a1 k; obtain ⟨ih0, ih1, ih2⟩ := incunableref02_Valid.mono_l k; unfold incunableref02_Valid.f
 repeat' first
  | (with_reducible exact ih0 _ _ _)
  | (with_reducible exact ih1 _ _ _ _)
  | (with_reducible exact ih2 _ _ _ _)
  | (with_reducible exact LeO.refl _)
  | (with_reducible exact LeO.none _)
  | (with_reducible refine LeO.ite ?_ ?_)
  | (with_reducible refine LeO.bind ?_ (fun _ => ?_))
  | exact ih0 _ _ _
  | exact ih1 _ _ _ _
  | exact ih2 _ _ _ _
  | exact LeO.none _
  | refine LeO.ite ?_ ?_
  | refine LeO.bind ?_ (fun _ => ?_)
end Go.Proofs.Ytlnhahnnjbfjdaa.U
namespace Go.Proofs.Ytlnhahnnjbfjdaa.U
open Go.RowKit Go.Proofs.YtlnhahnnjbfjdaaW.PrintWords Go.Proofs.YtlnhahnnjbfjdaaW.PrintLast Go.Proofs.YtlnhahnnjbfjdaaW.PrintMore
attribute [local go_sem] max2_int min2_int max_two min_two max_three min_three max_four min_four   -- for this text's walks alone
def coder_clone.f (a0_0 : Int) (l0_1 : List Int) : Option (Int × List Int) := (some (([] : List Int) : List Int)).bind fun y187 => (if y187.length + l0_1.length < 17592186044416 then (some (a0_0, (y187 ++ l0_1))) else (none))
end Go.Proofs.Ytlnhahnnjbfjdaa.U
namespace Go.Proofs.Ytlnhahnnjbfjdaa.U
open Go.RowKit Go.Proofs.YtlnhahnnjbfjdaaW.PrintWords Go.Proofs.YtlnhahnnjbfjdaaW.PrintLast Go.Proofs.YtlnhahnnjbfjdaaW.PrintMore
attribute [local go_sem] max2_int min2_int max_two min_two max_three min_three max_four min_four   -- for this text's walks alone
def incunableref02_Copy.f (a0_0 : Int) (l0_1 : List Int) : Option (Int × List Int) := (some (([] : List Int) : List Int)).bind fun y211 => (if y211.length + l0_1.length < 17592186044416 then (some (a0_0, (y211 ++ l0_1))) else (none))
end Go.Proofs.Ytlnhahnnjbfjdaa.U
namespace Go.Proofs.Ytlnhahnnjbfjdaa.U
open Go.RowKit Go.Proofs.YtlnhahnnjbfjdaaW.PrintWords Go.Proofs.YtlnhahnnjbfjdaaW.PrintLast Go.Proofs.YtlnhahnnjbfjdaaW.PrintMore
attribute [local go_sem] max2_int min2_int max_two min_two max_three min_three max_four min_four   -- for this text's walks alone
def coder_New.f (a0 : Int) (a1 : Int) : Option (Int × List Int × Int) := if a0 = 0 then (if a1 < 0 then (some (0, ([] : List Int), 2)) else (if a1 > 8192 then (some (0, ([] : List Int), 2)) else (if 0 ≤ a1 then (if (a1 : Int).toNat ≤ 35184372088832 then (some (a0, (List.replicate (a1 : Int).toNat 0), 0)) else (none)) else (none)))) else (if a0 = 1 then (if a1 < 0 then (some (0, ([] : List Int), 2)) else (if a1 > 8192 then (some (0, ([] : List Int), 2)) else (if 0 ≤ a1 then (if (a1 : Int).toNat ≤ 35184372088832 then (some (a0, (List.replicate (a1 : Int).toNat 0), 0)) else (none)) else (none)))) else (some (0, ([] : List Int), 2)))
end Go.Proofs.Ytlnhahnnjbfjdaa.U
namespace Go.Proofs.Ytlnhahnnjbfjdaa.Mod
open Go Go.RowKit Go.Proofs.YtlnhahnnjbfjdaaW.PrintWords Go.Proofs.YtlnhahnnjbfjdaaW.PrintLast Go.Proofs.YtlnhahnnjbfjdaaW.PrintMore Go.Proofs.Ytlnhahnnjbfjdaa.Aid Go.Proofs.Ytlnhahnnjbfjdaa.HandAid Go.Proofs.Ytlnhahnnjbfjdaa.Cod1 Go.Proofs.Ytlnhahnnjbfjdaa.Cod2 Go.Proofs.Ytlnhahnnjbfjdaa.U
instance (kind s : Int) : Decidable (okState kind s) := by unfold okState; infer_instance
/-- A model that is one. -/
def okModel (kind : Int) (st : List Int) : Prop := (kind = 0 ∨ kind = 1) ∧ st.length ≤ 8192 ∧ ∀ s ∈ st, okState kind s
instance (kind : Int) (st : List Int) : Decidable (okModel kind st) := by unfold okModel; infer_instance
end Go.Proofs.Ytlnhahnnjbfjdaa.Mod
namespace Go.Proofs.Ytlnhahnnjbfjdaa.Enc
open Go Go.RowKit Go.Proofs.YtlnhahnnjbfjdaaW.PrintWords Go.Proofs.YtlnhahnnjbfjdaaW.PrintLast Go.Proofs.YtlnhahnnjbfjdaaW.PrintMore Go.Proofs.Ytlnhahnnjbfjdaa.Aid Go.Proofs.Ytlnhahnnjbfjdaa.HandAid Go.Proofs.Ytlnhahnnjbfjdaa.Cod1 Go.Proofs.Ytlnhahnnjbfjdaa.Cod2 Go.Proofs.Ytlnhahnnjbfjdaa.Cod3 Go.Proofs.Ytlnhahnnjbfjdaa.Mod
/-- An encoder's cells. -/
def enc38 (kind : Int) (v : Value) (low high : Int) (o : Value) (real : Bool) : Array Value := #[.int .i64 kind, v, .int .i64 2048, .int .i64 1792, .int .i64 1568, .int .i64 1372, .int .i64 1201, .int .i64 1051, .int .i64 920, .int .i64 805, .int .i64 705, .int .i64 617, .int .i64 540, .int .i64 473, .int .i64 414, .int .i64 363, .int .i64 318, .int .i64 279, .int .i64 245, .int .i64 215, .int .i64 189, .int .i64 166, .int .i64 146, .int .i64 128, .int .i64 112, .int .i64 98, .int .i64 86, .int .i64 76, .int .i64 67, .int .i64 59, .int .i64 52, .int .i64 46, .int .i64 41, .int .i64 36, .int .u64 low, .int .u64 high, o, .bool real]
theorem enc_none_nil (w : World) : Calls Try.prog 66 #[.pointer none] w fun e w' => e = .returned (.bool true) ∧ w = w' := by
  go_enter Try.func66, Try.ntmps66
  go_wp2
  go_ret
  exact ⟨rfl, rfl⟩
theorem enc_put_nil (w : World) (i b : Int) : Calls Try.prog 63 #[.pointer none, .int .i64 i, .int .i64 b] w fun e w' => e = .returned (.int .i64 7) ∧ w = w' := by
  go_enter Try.func63, Try.ntmps63
  go_wp2_with (go_at_call 66; refine (enc_none_nil _).mono ?_; rintro e w' ⟨rfl, rfl⟩)
  go_ret
  exact ⟨rfl, rfl⟩
/-- The bytes that an interval loses, and what it becomes. -/
def normE : Nat → Int → Int → List Int × Int × Int
  | 0, l, h => ([], l, h)
  | d + 1, l, h => if l / 16777216 = h / 16777216 then (l / 16777216 :: (normE d (l % 16777216 * 256) (h % 16777216 * 256 + 255)).1, (normE d (l % 16777216 * 256) (h % 16777216 * 256 + 255)).2) else ([], l, h)
end Go.Proofs.Ytlnhahnnjbfjdaa.Enc
namespace Go.Proofs.Ytlnhahnnjbfjdaa.Mods
open Go Go.RowKit Go.Proofs.YtlnhahnnjbfjdaaW.PrintWords Go.Proofs.YtlnhahnnjbfjdaaW.PrintLast Go.Proofs.YtlnhahnnjbfjdaaW.PrintMore Go.Proofs.Ytlnhahnnjbfjdaa.Aid Go.Proofs.Ytlnhahnnjbfjdaa.HandAid
/-- From w to W nothing has turned but the blocks of S, and what is new. -/
structure Mods (w W : World) (S : Nat → Prop) : Prop where
  os : W.os = w.os
  tape : W.tape = w.tape
  output : W.output = w.output
  size : w.heap.size ≤ W.heap.size
  block : ∀ i, i < w.heap.size → ¬ S i → W.heap[i]? = w.heap[i]?
section
variable {w W W2 : World} {S S2 S' : Nat → Prop}
theorem Mods.refl (w : World) (S : Nat → Prop) : Mods w w S := ⟨rfl, rfl, rfl, Nat.le_refl _, fun _ _ _ => rfl⟩
theorem Mods.kept (h : Mods w W S) : Kept w W S := ⟨h.size, h.block⟩
theorem Mods.of_below (h : Below w.heap.size w W) (S : Nat → Prop) : Mods w W S := ⟨h.os, h.tape, h.output, h.size, fun i hi _ => h.block i hi⟩
theorem Mods.mono (h : Mods w W S) (hs : ∀ k, S k → S' k) : Mods w W S' := ⟨h.os, h.tape, h.output, h.size, fun i hi hn => h.block i hi (fun hk => hn (hs i hk))⟩
theorem Mods.then_ (h : Mods w W S) (k : Mods W W2 S2) (hs : ∀ k, S2 k → S k ∨ w.heap.size ≤ k) : Mods w W2 S :=
  ⟨k.os.trans h.os, k.tape.trans h.tape, k.output.trans h.output, Nat.le_trans h.size k.size, fun i hi hn => (k.block i (Nat.lt_of_lt_of_le hi h.size) (fun h2 => (hs i h2).elim hn (fun h3 => by omega))).trans (h.block i hi hn)⟩
theorem Mods.below (h : Mods w W S) (hb : Below W.heap.size W W2) : Mods w W2 S := h.then_ (Mods.of_below hb (fun _ => False)) (fun _ hk => hk.elim)
theorem Mods.alloc (h : Mods w W S) (o : Obj) : Mods w (W.alloc o) S := h.below (below_alloc (Below.refl _ _) o)
theorem Mods.drew (h : Mods w W S) : Mods w W.drew S := h.below (below_drew (Below.refl _ _))
theorem Mods.drewN (h : Mods w W S) (m : Nat) : Mods w (W.drewN m) S := h.below (pw_below_drewN (Below.refl _ _) m)
theorem Mods.setCell (h : Mods w W S) {p : Addr} (hp : S p.block ∨ w.heap.size ≤ p.block) (u : Value) : Mods w (W.setCell p u) S :=
  h.then_ (S2 := fun k => k = p.block) ⟨rfl, rfl, rfl, by simp [World.setCell], fun i _ hn => Below.heap_setCell W p u i hn⟩ (fun k hk => by rw [hk]; exact hp)
end
end Go.Proofs.Ytlnhahnnjbfjdaa.Mods
namespace Go.Proofs.Ytlnhahnnjbfjdaa.EncAt
open Go Go.RowKit Go.Proofs.YtlnhahnnjbfjdaaW.PrintWords Go.Proofs.YtlnhahnnjbfjdaaW.PrintLast Go.Proofs.YtlnhahnnjbfjdaaW.PrintMore Go.Proofs.Ytlnhahnnjbfjdaa.Aid Go.Proofs.Ytlnhahnnjbfjdaa.HandAid Go.Proofs.Ytlnhahnnjbfjdaa.Cod1 Go.Proofs.Ytlnhahnnjbfjdaa.Cod2 Go.Proofs.Ytlnhahnnjbfjdaa.Cod3 Go.Proofs.Ytlnhahnnjbfjdaa.Mod Go.Proofs.Ytlnhahnnjbfjdaa.Enc Go.Proofs.Ytlnhahnnjbfjdaa.Mods
structure EncRow (W : World) (S : Nat → Prop) (g : Nat) (kind : Int) (A : Option Addr) (c : Nat) (st : List Int) (low high : Int) (vo : Value) (out : List Int) : Prop where
  b : W.heap[g]? = some (.cells (enc38 kind (.slice A st.length c) low high vo true) 113 (0, 0))
  s : Kd.R (Kd.int .i64) 3 W 0 S (.slice A st.length c) st
  o : Kd.R (Kd.int .u8) 5 W 0 S vo out
  g : S g
section
variable {W W' : World} {S S' : Nat → Prop} {g : Nat} {kind : Int} {A : Option Addr} {c : Nat} {st : List Int} {low high : Int} {vo : Value} {out : List Int}
theorem EncRow.kept (h : EncRow W S g kind A c st low high vo out) (hk : Mods W W' S') (hne : ∀ k, S k → ¬ S' k) : EncRow W' S g kind A c st low high vo out :=
  ⟨blk_kept h.b hk.kept (hne g h.g), Kd.R_kept h.s hk.kept hne, Kd.R_kept h.o hk.kept hne, h.g⟩
theorem EncRow.below (h : EncRow W S g kind A c st low high vo out) (hb : Below W.heap.size W W') : EncRow W' S g kind A c st low high vo out :=
  ⟨blk_below h.b hb, Kd.R_below h.s hb, Kd.R_below h.o hb, h.g⟩
theorem EncRow.drewN (h : EncRow W S g kind A c st low high vo out) (m : Nat) : EncRow (W.drewN m) S g kind A c st low high vo out := h.below (pw_below_drewN (Below.refl _ _) m)
theorem EncRow.drew (h : EncRow W S g kind A c st low high vo out) : EncRow W.drew S g kind A c st low high vo out := h.below (below_drew (Below.refl _ _))
theorem EncRow.mono (h : EncRow W S g kind A c st low high vo out) (hs : ∀ k, S k → S' k) : EncRow W S' g kind A c st low high vo out :=
  ⟨h.b, Kd.R_mono h.s hs, Kd.R_mono h.o hs, hs g h.g⟩
theorem EncRow.bound (h : EncRow W S g kind A c st low high vo out) : EncRow W (fun k => S k ∧ k < W.heap.size) g kind A c st low high vo out :=
  ⟨h.b, Kd.R_mono (Kd.R_bound h.s) (fun _ hk => ⟨hk.1, hk.2.2.1⟩), Kd.R_mono (Kd.R_bound h.o) (fun _ hk => ⟨hk.1, hk.2.2.1⟩), h.g, blk_lt h.b⟩
theorem EncRow.real (h : EncRow W S g kind A c st low high vo out) : W.cell? ⟨g, 37, none⟩ = some (.bool true) := (blk_cell h.b 37).trans rfl
theorem EncRow.cell (h : EncRow W S g kind A c st low high vo out) {i : Nat} (hi : i < st.length) : ∃ b, A = some ⟨b, 0, none⟩ ∧ W.cell? ⟨b, i, none⟩ = some (.int .i64 (rd st i)) ∧ W.frozen? ⟨b, i, none⟩ = false ∧ b ≠ g := by
  obtain ⟨b, cap, hv, _, _, cells, hc⟩ := Kd.R_form h.s (by omega)
  injection hv with hA _ hcap
  subst hA hcap
  have h1 := Kd.R_cell (0 : Int) h.s (i : Int) (by omega) (by omega)
  have hne : b ≠ g := blk_ne hc h.b (by decide)
  exact ⟨b, rfl, h1.1, h1.2, hne⟩
theorem EncRow.lost (h : EncRow W S g kind A c st low high vo out) (l' h' : Int) : EncRow ((W.setCell ⟨g, 34, none⟩ (.int .u64 l')).setCell ⟨g, 35, none⟩ (.int .u64 h')) S g kind A c st l' h' vo out := by
  have h1 : (W.setCell ⟨g, 34, none⟩ (.int .u64 l')).heap[g]? = some (.cells (enc38 kind (.slice A st.length c) l' high vo true) 113 (0, 0)) := blk_put h.b 34 _ rfl
  exact ⟨blk_put h1 35 _ rfl, Kd.R_set (Kd.R_set h.s h.b (by decide) _ _) h1 (by decide) _ _, Kd.R_set (Kd.R_set h.o h.b (by decide) _ _) h1 (by decide) _ _, h.g⟩
end
/-- An encoder's state. -/
structure ES where
  kind : Int
  st : List Int
  low : Int
  high : Int
  out : List Int
def EncAt (W : World) (S : Nat → Prop) (g : Nat) (s : ES) : Prop := ∃ A c vo, EncRow W S g s.kind A c s.st s.low s.high vo s.out
/-- An encoder's state that is one. -/
structure ES.ok (s : ES) : Prop where
  m : okModel s.kind s.st
  l : 0 ≤ s.low
  lh : s.low ≤ s.high
  h : s.high ≤ 4294967295
  n : s.low / 16777216 ≠ s.high / 16777216
theorem EncAt.kept {W W' : World} {S S' : Nat → Prop} {g : Nat} {s : ES} (h : EncAt W S g s) (hk : Mods W W' S') (hne : ∀ k, S k → ¬ S' k) : EncAt W' S g s := by
  obtain ⟨A, c, vo, h⟩ := h
  exact ⟨A, c, vo, h.kept hk hne⟩
theorem EncAt.below {W W' : World} {S : Nat → Prop} {g : Nat} {s : ES} (h : EncAt W S g s) (hb : Below W.heap.size W W') : EncAt W' S g s := by
  obtain ⟨A, c, vo, h⟩ := h
  exact ⟨A, c, vo, h.below hb⟩
theorem EncAt.mono {W : World} {S S' : Nat → Prop} {g : Nat} {s : ES} (h : EncAt W S g s) (hs : ∀ k, S k → S' k) : EncAt W S' g s := by
  obtain ⟨A, c, vo, h⟩ := h
  exact ⟨A, c, vo, h.mono hs⟩
theorem EncAt.bound {W : World} {S : Nat → Prop} {g : Nat} {s : ES} (h : EncAt W S g s) : EncAt W (fun k => S k ∧ k < W.heap.size) g s := by
  obtain ⟨A, c, vo, h⟩ := h
  exact ⟨A, c, vo, h.bound⟩
/-- The parts of the interval, and what is left of it. -/
def cutL (low mid bit : Int) : Int := if bit = 1 then low else mid + 1
def cutH (high mid bit : Int) : Int := if bit = 1 then mid else high
def ES.mid (s : ES) (i : Nat) : Int := midOf s.low s.high (likely s.kind (rd s.st i))
def ES.norm (s : ES) (i : Nat) (bit : Int) : List Int × Int × Int := normE 4 (cutL s.low (s.mid i) bit) (cutH s.high (s.mid i) bit)
/-- The state behind a bit. -/
def ES.put (s : ES) (i : Nat) (bit : Int) : ES := ⟨s.kind, s.st.set i (after s.kind (rd s.st i) bit), (s.norm i bit).2.1, (s.norm i bit).2.2, s.out ++ (s.norm i bit).1⟩
/-- The error of a Put. -/
def ES.good (s : ES) (i bit : Int) : Bool := decide (0 ≤ i) && decide (i < s.st.length) && (decide (bit = 0) || decide (bit = 1))
def ES.err (s : ES) (i bit : Int) : Int := if s.good i bit = true then 0 else 2
end Go.Proofs.Ytlnhahnnjbfjdaa.EncAt
namespace Go.Proofs.Ytlnhahnnjbfjdaa.Put
open Go Go.RowKit Go.Proofs.YtlnhahnnjbfjdaaW.PrintWords Go.Proofs.YtlnhahnnjbfjdaaW.PrintLast Go.Proofs.YtlnhahnnjbfjdaaW.PrintMore Go.Proofs.Ytlnhahnnjbfjdaa.Aid Go.Proofs.Ytlnhahnnjbfjdaa.HandAid Go.Proofs.Ytlnhahnnjbfjdaa.Cod1 Go.Proofs.Ytlnhahnnjbfjdaa.Cod2 Go.Proofs.Ytlnhahnnjbfjdaa.Cod3 Go.Proofs.Ytlnhahnnjbfjdaa.Mod Go.Proofs.Ytlnhahnnjbfjdaa.Enc Go.Proofs.Ytlnhahnnjbfjdaa.Mods Go.Proofs.Ytlnhahnnjbfjdaa.EncAt
/-- What stands when d bytes at the most are still to be lost. -/
structure PutInv (out : List Int) (l1 h1 : Int) (d : Nat) (l h : Int) (out1 : List Int) : Prop where
  l0 : 0 ≤ l
  lh : l ≤ h
  h0 : h ≤ 4294967295
  w : (h - l + 1) * 256 ^ d ≥ 4294967296
  o : out1 ++ (normE d l h).1 = out ++ (normE 4 l1 h1).1
  n : (normE d l h).2 = (normE 4 l1 h1).2
  len : out1.length + d ≤ out.length + 4
theorem PutInv.step {out : List Int} {l1 h1 : Int} {d : Nat} {l h : Int} {out1 : List Int} (H : PutInv out l1 h1 d l h out1) (c : l / 16777216 = h / 16777216) : ∃ d', d = d' + 1 ∧ PutInv out l1 h1 d' (l % 16777216 * 256) (h % 16777216 * 256 + 255) (out1 ++ [l / 16777216]) := by
  have hl0 := H.l0
  have hlh := H.lh
  have hh0 := H.h0
  cases d with
  | zero =>
    have := H.w
    simp only [Int.pow_zero, Int.mul_one] at this
    omega
  | succ d =>
    refine ⟨d, rfl, by omega, by omega, by omega, ?_, ?_, ?_, ?_⟩
    · have hw := H.w
      rw [Int.pow_succ, Int.mul_comm (256 ^ d) 256, ← Int.mul_assoc, show (h - l + 1) * 256 = h % 16777216 * 256 + 255 - l % 16777216 * 256 + 1 by omega] at hw
      exact hw
    · have ho := H.o
      unfold normE at ho
      rw [if_pos c] at ho
      rw [List.append_assoc]
      exact ho
    · have hn := H.n
      conv at hn => lhs; unfold normE
      rw [if_pos c] at hn
      exact hn
    · have := H.len
      simp only [List.length_append, List.length_cons, List.length_nil]
      omega
theorem PutInv.done {out : List Int} {l1 h1 : Int} {d : Nat} {l h : Int} {out1 : List Int} (H : PutInv out l1 h1 d l h out1) (c : ¬ l / 16777216 = h / 16777216) : out1 = out ++ (normE 4 l1 h1).1 ∧ (normE 4 l1 h1).2 = (l, h) := by
  have hn : normE d l h = ([], l, h) := by
    cases d with
    | zero => rfl
    | succ d =>
      unfold normE
      rw [if_neg c]
  have ho := H.o
  have hn2 := H.n
  rw [hn] at ho hn2
  simp only [List.append_nil] at ho
  exact ⟨ho, hn2.symm⟩
end Go.Proofs.Ytlnhahnnjbfjdaa.Put
namespace Go.Proofs.Ytlnhahnnjbfjdaa.End
open Go Go.RowKit Go.Proofs.YtlnhahnnjbfjdaaW.PrintWords Go.Proofs.YtlnhahnnjbfjdaaW.PrintLast Go.Proofs.YtlnhahnnjbfjdaaW.PrintMore Go.Proofs.Ytlnhahnnjbfjdaa.Aid Go.Proofs.Ytlnhahnnjbfjdaa.HandAid Go.Proofs.Ytlnhahnnjbfjdaa.Cod1 Go.Proofs.Ytlnhahnnjbfjdaa.Cod2 Go.Proofs.Ytlnhahnnjbfjdaa.Cod3 Go.Proofs.Ytlnhahnnjbfjdaa.Mod Go.Proofs.Ytlnhahnnjbfjdaa.Enc Go.Proofs.Ytlnhahnnjbfjdaa.Mods Go.Proofs.Ytlnhahnnjbfjdaa.EncAt Go.Proofs.Ytlnhahnnjbfjdaa.Put
end Go.Proofs.Ytlnhahnnjbfjdaa.End
namespace Go.Proofs.Ytlnhahnnjbfjdaa.Snc
open Go Go.RowKit Go.Proofs.YtlnhahnnjbfjdaaW.PrintWords Go.Proofs.YtlnhahnnjbfjdaaW.PrintLast Go.Proofs.YtlnhahnnjbfjdaaW.PrintMore Go.Proofs.Ytlnhahnnjbfjdaa.Aid Go.Proofs.Ytlnhahnnjbfjdaa.HandAid Go.Proofs.Ytlnhahnnjbfjdaa.Cod1 Go.Proofs.Ytlnhahnnjbfjdaa.Cod2 Go.Proofs.Ytlnhahnnjbfjdaa.Cod3 Go.Proofs.Ytlnhahnnjbfjdaa.Mod Go.Proofs.Ytlnhahnnjbfjdaa.Enc Go.Proofs.Ytlnhahnnjbfjdaa.Mods Go.Proofs.Ytlnhahnnjbfjdaa.EncAt Go.Proofs.Ytlnhahnnjbfjdaa.Put Go.Proofs.Ytlnhahnnjbfjdaa.End Go.Proofs.Ytlnhahnnjbfjdaa.U
end Go.Proofs.Ytlnhahnnjbfjdaa.Snc
/-
  DERIVED: THE SHELF's CONTRACTS AT THIS DUMP, IN PLAIN WORDS (tools/lay-plain.mjs out of 'TryShelf.lean', which tools/lay-shelf.mjs wrote): THE SAME DECLARATIONS UNDER THE SAME NAMES: 'import', 'namespace', 'open', 'def', 'theorem' AND NOTHING ELSE: no command of the shelf's: FOR A HAND-IN. Each laying: the table of numbers ('.._ren') and one theorem, a field a fact of the dump's own or the kernel's comparison; each contract: ONE APPLICATION.
-/
namespace Go.Proofs
open Go.Shelf
def Try.lays125_ren : Go.Shelf.Ren := ⟨fun | 125 => 47 | 128 => 70 | 129 => 71 | n => n, fun | 46 => 89 | 3 => 3 | 51 => 119 | 53 => 93 | 4 => 4 | 5 => 5 | 9 => 9 | n => n, fun | n => n⟩
theorem Try.lays125 : Go.Proofs.Lays.n125 Try.prog Try.lays125_ren := {
  mixed := by kernel_rfl
  f125 := Try.func47.trans (congrArg some (by kernel_rfl))
  f128 := Try.func70.trans (congrArg some (by kernel_rfl))
  f129 := Try.func71.trans (congrArg some (by kernel_rfl))
  t3 := Try.underlying3
  a3 := Try.isAgg3
  z3 := Try.sizeOf3
  v3 := Try.zeroValue3
  t4 := Try.underlying4
  a4 := Try.isAgg4
  z4 := Try.sizeOf4
  v4 := Try.zeroValue4
  t5 := Try.underlying5
  a5 := Try.isAgg5
  z5 := Try.sizeOf5
  v5 := Try.zeroValue5
  t9 := Try.underlying9
  a9 := Try.isAgg9
  z9 := Try.sizeOf9
  v9 := Try.zeroValue9
  t46 := Try.underlying89
  a46 := Try.isAgg89
  z46 := Try.sizeOf89
  v46 := Try.zeroValue89
  t51 := Try.underlying119
  a51 := Try.isAgg119
  z51 := Try.sizeOf119
  v51 := Try.zeroValue119
  t53 := Try.underlying93
  a53 := Try.isAgg93
  z53 := Try.sizeOf93
  v53 := Try.zeroValue93 }
/-- bits.Len: "Len returns the minimum number of bits required to represent x; the result is 0 for x == 0.": IT RETURNS 'Lib.bitLen x'; the world is as it was. (A uint has 64 bits in the model.) ITS CALLEE bits.Len64 IS MET BY ITS OWN CONTRACT OFF THE SHELF (lay that first). (LAID: no walk: one application.) -/
theorem Try.bits_Len (x : Int) (w : World) (h0 : 0 ≤ x) (h1 : x ≤ 18446744073709551615) :
    Calls Try.prog 47 #[.int .u64 x] w fun e w' => e = .returned (.int .i64 (Lib.bitLen x.toNat)) ∧ w' = w := Any.bits_Len Try.lays125 x w h0 h1
end Go.Proofs
namespace Go.Proofs.Ytlnhahnnjbfjdaa.U
open Go.RowKit Go.Proofs.YtlnhahnnjbfjdaaW.PrintWords Go.Proofs.YtlnhahnnjbfjdaaW.PrintLast Go.Proofs.YtlnhahnnjbfjdaaW.PrintMore
attribute [local go_sem] max2_int min2_int max_two min_two max_three min_three max_four min_four   -- for this text's walks alone
def number_Valid.f (a0_0 : Bool) (a0_1 : Int) : Option (Bool) := if a0_0 = true then (some (a0_1 == 0)) else (if a0_1 ≥ (-1048576) then (some (decide (a0_1 ≤ 1048576))) else (some false))
set_option maxHeartbeats 8000000 in
set_option maxRecDepth 100000 in
theorem number_Valid.calls (a0_0 : Bool) (a0_1 : Int) (r : Bool) (w : World) (h : number_Valid.f a0_0 a0_1 = some r) :
    Calls Try.prog 13 #[.agg #[.bool a0_0, .int .i64 a0_1]] w fun e w' => e = .returned (.bool r) ∧ Below w.heap.size w w' := by
 have hu23 := Try.underlying23; have HB := Aside0.mk (Below.refl w.heap.size w); have H : (if a0_0 = true then (some (a0_1 == 0)) else (if a0_1 ≥ (-1048576) then (some (decide (a0_1 ≤ 1048576))) else (some false))) = some r := h; clear h; by_cases c2 : a0_0 = true
 (· subst c2; (have H1 : (some (a0_1 == 0)) = some r := by rw [if_pos rfl] at H; exact H); clear H; have H := H1; clear H1; obtain rfl := Option.some.inj H; go_enter Try.func13, Try.ntmps13; go_wp2_with (first | ((with_reducible refine gate_dst (N := 1) rfl ?_); refine box_event ?hg (N := 1) ?hd (cs := #[.bool true, .int .i64 a0_1]) (t := 23) ?hr ?_; (case hd => rfl); (case hg => rfl); (case hr => first | (go_simp; done) | (go_simp; rfl)); intro gb101 hg w3 hbox hb; have n0_ := Aside0.mk (below_step (by repeat (first | (with_reducible first | exact HB.out | apply below_alloc | apply pw_below_drewN | apply below_drew1) | exact HB.out)) hb); have n1_ := Aside0.mk (hbox); have n2_ := Aside0.mk ((by rw [hg]; exact (below_size (by repeat (first | (with_reducible first | exact HB.out | apply below_alloc | apply pw_below_drewN | apply below_drew1) | exact HB.out))) : w.heap.size ≤ gb101)); have n3_ := Aside0.mk ((by rw [hg]; exact (below_size (by repeat (first | (with_reducible first | exact HB.out | apply below_alloc | apply pw_below_drewN | apply below_drew1) | exact HB.out))) : w.heap.size ≤ gb101)); clear HB; have HB := n0_; have BK101 := n1_; have GW101 := n2_; have GE101 := n3_; clear n0_ n1_ n2_ n3_; clear hb hbox hg; have hcz4_0 : w3.cell? ⟨gb101, 0, none⟩ = some (.bool true) := (blk_cell BK101.out 0).trans rfl; have hcz4_1 : w3.cell? ⟨gb101, 1, none⟩ = some (.int .i64 a0_1) := (blk_cell BK101.out 1).trans rfl; have hfz4_0 := blk_frozen BK101.out 0; have hfz4_1 := blk_frozen BK101.out 1)); go_ret; (exact ⟨by first | rfl | (simp [errW_none, errW_some] <;> rfl) | (simp [*, errW_none, errW_some] <;> rfl), by repeat (first | (with_reducible first | exact HB.out | apply below_alloc | apply pw_below_drewN | apply below_drew1 | refine below_set ?_ GE101.out) | exact HB.out)⟩))
 (· replace c2 := Bool.eq_false_iff.mpr c2; subst c2; (have H1 : (if a0_1 ≥ (-1048576) then (some (decide (a0_1 ≤ 1048576))) else (some false)) = some r := by rw [if_neg (show ¬ (false = true) by decide)] at H; exact H); clear H; have H := H1; clear H1; by_cases c5 : a0_1 ≥ (-1048576); (· rw [if_pos c5] at H; have c5b0 : decide ((-1048576) ≤ a0_1) = true := decide_eq_true c5; clear c5; obtain rfl := Option.some.inj H; go_enter Try.func13, Try.ntmps13; go_wp2_with (first | ((with_reducible refine gate_dst (N := 1) rfl ?_); refine box_event ?hg (N := 1) ?hd (cs := #[.bool false, .int .i64 a0_1]) (t := 23) ?hr ?_; (case hd => rfl); (case hg => rfl); (case hr => first | (go_simp; done) | (go_simp; rfl)); intro gb101 hg w6 hbox hb; have n0_ := Aside0.mk (below_step (by repeat (first | (with_reducible first | exact HB.out | apply below_alloc | apply pw_below_drewN | apply below_drew1) | exact HB.out)) hb); have n1_ := Aside0.mk (hbox); have n2_ := Aside0.mk ((by rw [hg]; exact (below_size (by repeat (first | (with_reducible first | exact HB.out | apply below_alloc | apply pw_below_drewN | apply below_drew1) | exact HB.out))) : w.heap.size ≤ gb101)); have n3_ := Aside0.mk ((by rw [hg]; exact (below_size (by repeat (first | (with_reducible first | exact HB.out | apply below_alloc | apply pw_below_drewN | apply below_drew1) | exact HB.out))) : w.heap.size ≤ gb101)); clear HB; have HB := n0_; have BK101 := n1_; have GW101 := n2_; have GE101 := n3_; clear n0_ n1_ n2_ n3_; clear hb hbox hg; have hcz7_0 : w6.cell? ⟨gb101, 0, none⟩ = some (.bool false) := (blk_cell BK101.out 0).trans rfl; have hcz7_1 : w6.cell? ⟨gb101, 1, none⟩ = some (.int .i64 a0_1) := (blk_cell BK101.out 1).trans rfl; have hfz7_0 := blk_frozen BK101.out 0; have hfz7_1 := blk_frozen BK101.out 1)); go_ret; (exact ⟨by first | rfl | (simp [errW_none, errW_some] <;> rfl) | (simp [*, errW_none, errW_some] <;> rfl), by repeat (first | (with_reducible first | exact HB.out | apply below_alloc | apply pw_below_drewN | apply below_drew1 | refine below_set ?_ GE101.out) | exact HB.out)⟩)); (· rw [if_neg c5] at H; have c5b0 : decide ((-1048576) ≤ a0_1) = false := decide_eq_false c5; clear c5; obtain rfl := Option.some.inj H; go_enter Try.func13, Try.ntmps13; go_wp2_with (first | ((with_reducible refine gate_dst (N := 1) rfl ?_); refine box_event ?hg (N := 1) ?hd (cs := #[.bool false, .int .i64 a0_1]) (t := 23) ?hr ?_; (case hd => rfl); (case hg => rfl); (case hr => first | (go_simp; done) | (go_simp; rfl)); intro gb101 hg w8 hbox hb; have n0_ := Aside0.mk (below_step (by repeat (first | (with_reducible first | exact HB.out | apply below_alloc | apply pw_below_drewN | apply below_drew1) | exact HB.out)) hb); have n1_ := Aside0.mk (hbox); have n2_ := Aside0.mk ((by rw [hg]; exact (below_size (by repeat (first | (with_reducible first | exact HB.out | apply below_alloc | apply pw_below_drewN | apply below_drew1) | exact HB.out))) : w.heap.size ≤ gb101)); have n3_ := Aside0.mk ((by rw [hg]; exact (below_size (by repeat (first | (with_reducible first | exact HB.out | apply below_alloc | apply pw_below_drewN | apply below_drew1) | exact HB.out))) : w.heap.size ≤ gb101)); clear HB; have HB := n0_; have BK101 := n1_; have GW101 := n2_; have GE101 := n3_; clear n0_ n1_ n2_ n3_; clear hb hbox hg; have hcz9_0 : w8.cell? ⟨gb101, 0, none⟩ = some (.bool false) := (blk_cell BK101.out 0).trans rfl; have hcz9_1 : w8.cell? ⟨gb101, 1, none⟩ = some (.int .i64 a0_1) := (blk_cell BK101.out 1).trans rfl; have hfz9_0 := blk_frozen BK101.out 0; have hfz9_1 := blk_frozen BK101.out 1)); go_ret; (exact ⟨by first | rfl | (simp [errW_none, errW_some] <;> rfl) | (simp [*, errW_none, errW_some] <;> rfl), by repeat (first | (with_reducible first | exact HB.out | apply below_alloc | apply pw_below_drewN | apply below_drew1 | refine below_set ?_ GE101.out) | exact HB.out)⟩)))
end Go.Proofs.Ytlnhahnnjbfjdaa.U
namespace Go.Proofs.Ytlnhahnnjbfjdaa.U
open Go.RowKit Go.Proofs.YtlnhahnnjbfjdaaW.PrintWords Go.Proofs.YtlnhahnnjbfjdaaW.PrintLast Go.Proofs.YtlnhahnnjbfjdaaW.PrintMore
attribute [local go_sem] max2_int min2_int max_two min_two max_three min_three max_four min_four   -- for this text's walks alone
def IsS117 (w0 W : World) (g : Nat) (f0 : Int) : Prop := W.heap[g]? = some (.cells #[.int .i64 f0] 117 (0, 0)) ∧ w0.heap.size ≤ g
theorem IsS117.grown {w0 W : World} {g : Nat} {f0 : Int} {W1 : World} {row : Option Nat} (h : IsS117 w0 W g f0) (hw : W.grownBy W1 row) (hne : some g ≠ row) : IsS117 w0 W1 g f0 := by
 obtain ⟨hb, hg⟩ := h; exact ⟨blk_grown hb hw hne, hg⟩
theorem IsS117.kept {w0 W : World} {g : Nat} {f0 : Int} {W1 : World} {S : Nat → Prop} (h : IsS117 w0 W g f0) (hk : Kept W W1 S) (hne : ¬ S g) : IsS117 w0 W1 g f0 := by
 obtain ⟨hb, hg⟩ := h; exact ⟨blk_kept hb hk hne, hg⟩
theorem IsS117.below {w0 W : World} {g : Nat} {f0 : Int} {W1 : World} (h : IsS117 w0 W g f0) (hw : Below W.heap.size W W1) : IsS117 w0 W1 g f0 := h.grown (grown_of_below hw none) (by simp)
theorem IsS117.alloc {w0 W : World} {g : Nat} {f0 : Int} (h : IsS117 w0 W g f0) (o : Obj) : IsS117 w0 (W.alloc o) g f0 := h.below (below_alloc (Below.refl _ _) o)
theorem IsS117.drewN {w0 W : World} {g : Nat} {f0 : Int} (h : IsS117 w0 W g f0) (m : Nat) : IsS117 w0 (W.drewN m) g f0 := h
theorem IsS117.drew {w0 W : World} {g : Nat} {f0 : Int} (h : IsS117 w0 W g f0) : IsS117 w0 W.drew g f0 := h
theorem IsS117.apart {w0 W : World} {g : Nat} {f0 : Int} {α : Type} {d : Kd α} {e : Nat} {base : Nat} {ok : Nat → Prop} {v : Value} {xs : List α} (h : IsS117 w0 W g f0) (ho : d.R e W base ok v xs) (ht : ∀ q, q ∈ e :: d.E → q ≠ 117) : d.R e W base (fun k => ok k ∧ k ≠ g) v xs := by
 obtain ⟨hb, hg⟩ := h; exact Kd.R_types ho hb ht
theorem IsS117.own_ne {w0 W : World} {g : Nat} {f0 : Int} {α : Type} {d : Kd α} {e : Nat} {base : Nat} {ok : Nat → Prop} {v : Value} {xs : List α} (h : IsS117 w0 W g f0) (ho : d.R e W base ok v xs) (ht : e ≠ 117) : some g ≠ v.ownBlock := by
 obtain ⟨hb, hg⟩ := h; exact Kd.R_ne ho hb ht
theorem IsS117.ge {w0 W : World} {g : Nat} {f0 : Int} (h : IsS117 w0 W g f0) : w0.heap.size ≤ g := by
 obtain ⟨hb, hg⟩ := h; exact hg
theorem IsS117.ne_blk {w0 W : World} {g : Nat} {f0 : Int} {a : Nat} {cs : Array Value} {t : TypeId} {fr : Nat × Nat} (h : IsS117 w0 W g f0) (hb2 : W.heap[a]? = some (.cells cs t fr)) (ht : t ≠ 117) : g ≠ a := by
 obtain ⟨hb, hg⟩ := h; rintro rfl; rw [hb] at hb2; injection hb2 with hb2; injection hb2 with _ ht2; exact ht ht2.symm
theorem cellS117_0 {W : World} {g : Nat} {f0 : Int} (h : W.heap[g]? = some (.cells #[.int .i64 f0] 117 (0, 0))) : W.cell? ⟨g, 0, none⟩ = some (.int .i64 f0) := (blk_cell h 0).trans rfl
theorem IsS117.set_0 {w0 W : World} {g : Nat} {f0 : Int} (h : IsS117 w0 W g f0) (x : Int) : IsS117 w0 (W.setCell ⟨g, 0, none⟩ (.int .i64 x)) g x := by
 obtain ⟨hb, hg⟩ := h; exact ⟨by simpa using blk_set hb 0 (.int .i64 x), hg⟩
theorem IsS117.new (w0 W : World) (f0 : Int) (hB : Below w0.heap.size w0 W) : IsS117 w0 (W.alloc (.cells #[.int .i64 f0] 117)) W.heap.size f0 := ⟨by simpa using heap_alloc_new W _, hB.size⟩
def number_tail_take.f (s0_0 : Int) : Option (Int × Int) := some (s0_0, mn (wrap64 (s0_0 + 1)) 47)
set_option maxHeartbeats 8000000 in
set_option maxRecDepth 100000 in
theorem number_tail_take.calls (g : Nat) (s0_0 : Int) (r1 : Int) (r2 : Int) (w0 w : World) (hI : IsS117 w0 w g s0_0) (hB : Below w0.heap.size w0 w) (h : number_tail_take.f s0_0 = some (r1, r2)) :
    Calls Try.prog 69 #[.pointer (some ⟨g, 0, none⟩)] w fun e w' => e = .returned (.int .i64 r1) ∧ IsS117 w0 w' g r2 ∧ Below w0.heap.size w0 w' ∧ KeepBut w w' g none := by
 have HI0 := Aside0.mk hI; have HK := Aside0.mk (KeepBut.refl w g none); have HL := Aside0.mk hB.size; clear hI; have HW0 := Aside0.mk hB.size; have HB := Aside0.mk hB; clear hB; have H : (some (s0_0, mn (wrap64 (s0_0 + 1)) 47)) = some (r1, r2) := h; clear h; obtain ⟨ji2, hji2⟩ : ∃ j_ : Int, (mn (wrap64 (s0_0 + 1)) 47) = j_ := ⟨_, rfl⟩; (replace H : (some (s0_0, ji2)) = some (r1, r2) := by first | (rw [hji2] at H; exact H) | (simp only [hji2] at H ⊢; exact H)); ((try (have hji2h : ji2 ≤ 47 := by (rw [← hji2]; unfold mn; (repeat' split) <;> omega)))); (try (have hji2g : ji2 ≤ 64 := by omega)); have hji2_ : (if 47 < (wrap64 (s0_0 + 1)) then 47 else (wrap64 (s0_0 + 1))) = ji2 := hji2; simp only [Option.some.injEq, Prod.mk.injEq] at H; obtain ⟨rfl, rfl⟩ := H; obtain ⟨HGz3, hgz3⟩ := HI0.out; have hcz3_0 := cellS117_0 HGz3; have hfz3_0 := blk_frozen HGz3 0; clear HGz3 hgz3; go_enter Try.func69, Try.ntmps69; go_wp2; go_ret
 (exact ⟨by first | rfl | (simp [errW_none, errW_some] <;> rfl) | (simp only [← hji2]; first | rfl | (simp [errW_none, errW_some] <;> rfl)) | (simp [*, errW_none, errW_some] <;> rfl), by repeat (first | (with_reducible first | exact HI0.out | apply IsS117.alloc | apply IsS117.drewN | apply IsS117.drew | apply IsS117.set_0) | exact HI0.out), by repeat (first | (with_reducible first | exact HB.out | apply below_alloc | apply pw_below_drewN | apply below_drew1 | refine below_set ?_ (IsS117.ge HI0.out)) | exact HB.out), by repeat (first | (with_reducible first | exact HK.out | apply KeepBut.set_ | apply keep_drewN | apply keep_drew | apply keep_alloc) | exact HK.out)⟩)
end Go.Proofs.Ytlnhahnnjbfjdaa.U
namespace Go.Proofs.Ytlnhahnnjbfjdaa.U
open Go.RowKit Go.Proofs.YtlnhahnnjbfjdaaW.PrintWords Go.Proofs.YtlnhahnnjbfjdaaW.PrintLast Go.Proofs.YtlnhahnnjbfjdaaW.PrintMore
attribute [local go_sem] max2_int min2_int max_two min_two max_three min_three max_four min_four   -- for this text's walks alone
def incunableref03_Valid.f (a0_0 : Bool) (a0_1 : Int) : Option (Bool) := if a0_0 = true then (some (a0_1 == 0)) else (if a0_1 ≥ (-1048576) then (some (decide (a0_1 ≤ 1048576))) else (some false))
end Go.Proofs.Ytlnhahnnjbfjdaa.U
namespace Go.Proofs.Ytlnhahnnjbfjdaa.U
open Go.RowKit Go.Proofs.YtlnhahnnjbfjdaaW.PrintWords Go.Proofs.YtlnhahnnjbfjdaaW.PrintLast Go.Proofs.YtlnhahnnjbfjdaaW.PrintMore
attribute [local go_sem] max2_int min2_int max_two min_two max_three min_three max_four min_four   -- for this text's walks alone
mutual
def incunableref03_events.j0 : Nat → List (S87) → Int → Int → Option ((List (S87)))
  | 0, _, _, _ => none
  | k + 1, x3, x4, x5 => incunableref03_events.l0 k x3 x4 x5 ([] : List Int) (wrap64 (x4 + 1))
def incunableref03_events.l0 : Nat → List (S87) → Int → Int → List Int → Int → Option ((List (S87)))
  | 0, _, _, _, _, _ => none
  | k + 1, x3, x4, x5, x6, x7 => if x7 > 0 then (if x6.length < 17592186044416 then (incunableref03_events.l0 k x3 x4 x5 (x6 ++ [Int.tmod x7 2]) (wrap64 (Int.tdiv x7 2))) else (none)) else (incunableref03_events.l1 k x3 x4 x5 x6 (wrap64 ((x6.length : Int) - 1)) 0)
def incunableref03_events.l1 : Nat → List (S87) → Int → Int → List Int → Int → Int → Option ((List (S87)))
  | 0, _, _, _, _, _, _ => none
  | k + 1, x3, x4, x5, x6, x8, x9 => if x9 < x8 then (if x3.length < 8796093022208 then (incunableref03_events.l1 k (x3 ++ [(⟨wrap64 (1 + x9), 1⟩ : S87)]) x4 x5 x6 x8 (wrap64 (x9 + 1))) else (none)) else (if x8 < 20 then (if x3.length < 8796093022208 then (incunableref03_events.j3 k (x3 ++ [(⟨wrap64 (1 + x8), 0⟩ : S87)]) x4 x5 x6 x8) else (none)) else (incunableref03_events.j3 k x3 x4 x5 x6 x8))
def incunableref03_events.j3 : Nat → List (S87) → Int → Int → List Int → Int → Option ((List (S87)))
  | 0, _, _, _, _, _ => none
  | k + 1, x3, x4, x5, x6, x8 => incunableref03_events.l2 k x3 x4 x5 x6 x8 0
def incunableref03_events.l2 : Nat → List (S87) → Int → Int → List Int → Int → Int → Option ((List (S87)))
  | 0, _, _, _, _, _, _ => none
  | k + 1, x3, x4, x5, x6, x8, x10 => if x10 < x8 then (if x10 = 0 then (if 0 ≤ (wrap64 ((wrap64 (x8 - 1)) - x10)) then (if (wrap64 ((wrap64 (x8 - 1)) - x10)) < (x6.length : Int) then (if x3.length < 8796093022208 then (incunableref03_events.l2 k (x3 ++ [(⟨wrap64 (23 + x8), rd x6 (wrap64 ((wrap64 (x8 - 1)) - x10))⟩ : S87)]) x4 x5 x6 x8 (wrap64 (x10 + 1))) else (none)) else (none)) else (none)) else (if 0 ≤ (wrap64 ((wrap64 (x8 - 1)) - x10)) then (if (wrap64 ((wrap64 (x8 - 1)) - x10)) < (x6.length : Int) then (if x3.length < 8796093022208 then (incunableref03_events.l2 k (x3 ++ [(⟨mn (wrap64 (43 + x10)) 47, rd x6 (wrap64 ((wrap64 (x8 - 1)) - x10))⟩ : S87)]) x4 x5 x6 x8 (wrap64 (x10 + 1))) else (none)) else (none)) else (none))) else (if x4 = 0 then (some x3) else (if x3.length < 8796093022208 then (some (x3 ++ [(⟨22, x5⟩ : S87)])) else (none)))
end
def incunableref03_events.f (k : Nat) (a0_0 : Bool) (a0_1 : Int) : Option ((List (S87))) := if a0_0 = true then (some (([(⟨0, 1⟩ : S87)] : List (S87)))) else ((some (([(⟨0, 0⟩ : S87)] : List (S87)) : List (S87))).bind fun y140 => (if a0_1 < 0 then (incunableref03_events.j0 k y140 (wrap64 (-a0_1)) 1) else (incunableref03_events.j0 k y140 a0_1 0)))
theorem incunableref03_events.mono_l : ∀ k, (∀ y0 y1 y2, LeO (incunableref03_events.j0 k y0 y1 y2) (incunableref03_events.j0 (k + 1) y0 y1 y2)) ∧ (∀ y0 y1 y2 y3 y4, LeO (incunableref03_events.l0 k y0 y1 y2 y3 y4) (incunableref03_events.l0 (k + 1) y0 y1 y2 y3 y4)) ∧ (∀ y0 y1 y2 y3 y4 y5, LeO (incunableref03_events.l1 k y0 y1 y2 y3 y4 y5) (incunableref03_events.l1 (k + 1) y0 y1 y2 y3 y4 y5)) ∧ (∀ y0 y1 y2 y3 y4, LeO (incunableref03_events.j3 k y0 y1 y2 y3 y4) (incunableref03_events.j3 (k + 1) y0 y1 y2 y3 y4)) ∧ (∀ y0 y1 y2 y3 y4 y5, LeO (incunableref03_events.l2 k y0 y1 y2 y3 y4 y5) (incunableref03_events.l2 (k + 1) y0 y1 y2 y3 y4 y5))
  | 0 => ⟨fun _ _ _ r h => by simp [incunableref03_events.j0] at h, fun _ _ _ _ _ r h => by simp [incunableref03_events.l0] at h, fun _ _ _ _ _ _ r h => by simp [incunableref03_events.l1] at h, fun _ _ _ _ _ r h => by simp [incunableref03_events.j3] at h, fun _ _ _ _ _ _ r h => by simp [incunableref03_events.l2] at h⟩
  | k + 1 => by
    obtain ⟨ih0, ih1, ih2, ih3, ih4⟩ := incunableref03_events.mono_l k
    refine ⟨?_, ?_, ?_, ?_, ?_⟩
    · intro y0 y1 y2
      unfold incunableref03_events.j0
      repeat' first
      | (with_reducible exact ih0 _ _ _)
      | (with_reducible exact ih1 _ _ _ _ _)
      | (with_reducible exact ih2 _ _ _ _ _ _)
      | (with_reducible exact ih3 _ _ _ _ _)
      | (with_reducible exact ih4 _ _ _ _ _ _)
      | (with_reducible exact LeO.refl _)
      | (with_reducible exact LeO.none _)
      | (with_reducible refine LeO.ite ?_ ?_)
      | (with_reducible refine LeO.bind ?_ (fun _ => ?_))
      | exact ih0 _ _ _
      | exact ih1 _ _ _ _ _
      | exact ih2 _ _ _ _ _ _
      | exact ih3 _ _ _ _ _
      | exact ih4 _ _ _ _ _ _
      | exact LeO.none _
      | refine LeO.ite ?_ ?_
      | refine LeO.bind ?_ (fun _ => ?_)
    · intro y0 y1 y2 y3 y4
      unfold incunableref03_events.l0
      repeat' first
      | (with_reducible exact ih0 _ _ _)
      | (with_reducible exact ih1 _ _ _ _ _)
      | (with_reducible exact ih2 _ _ _ _ _ _)
      | (with_reducible exact ih3 _ _ _ _ _)
      | (with_reducible exact ih4 _ _ _ _ _ _)
      | (with_reducible exact LeO.refl _)
      | (with_reducible exact LeO.none _)
      | (with_reducible refine LeO.ite ?_ ?_)
      | (with_reducible refine LeO.bind ?_ (fun _ => ?_))
      | exact ih0 _ _ _
      | exact ih1 _ _ _ _ _
      | exact ih2 _ _ _ _ _ _
      | exact ih3 _ _ _ _ _
      | exact ih4 _ _ _ _ _ _
      | exact LeO.none _
      | refine LeO.ite ?_ ?_
      | refine LeO.bind ?_ (fun _ => ?_)
    · intro y0 y1 y2 y3 y4 y5
      unfold incunableref03_events.l1
      repeat' first
      | (with_reducible exact ih0 _ _ _)
      | (with_reducible exact ih1 _ _ _ _ _)
      | (with_reducible exact ih2 _ _ _ _ _ _)
      | (with_reducible exact ih3 _ _ _ _ _)
      | (with_reducible exact ih4 _ _ _ _ _ _)
      | (with_reducible exact LeO.refl _)
      | (with_reducible exact LeO.none _)
      | (with_reducible refine LeO.ite ?_ ?_)
      | (with_reducible refine LeO.bind ?_ (fun _ => ?_))
      | exact ih0 _ _ _
      | exact ih1 _ _ _ _ _
      | exact ih2 _ _ _ _ _ _
      | exact ih3 _ _ _ _ _
      | exact ih4 _ _ _ _ _ _
      | exact LeO.none _
      | refine LeO.ite ?_ ?_
      | refine LeO.bind ?_ (fun _ => ?_)
    · intro y0 y1 y2 y3 y4
      unfold incunableref03_events.j3
      repeat' first
      | (with_reducible exact ih0 _ _ _)
      | (with_reducible exact ih1 _ _ _ _ _)
      | (with_reducible exact ih2 _ _ _ _ _ _)
      | (with_reducible exact ih3 _ _ _ _ _)
      | (with_reducible exact ih4 _ _ _ _ _ _)
      | (with_reducible exact LeO.refl _)
      | (with_reducible exact LeO.none _)
      | (with_reducible refine LeO.ite ?_ ?_)
      | (with_reducible refine LeO.bind ?_ (fun _ => ?_))
      | exact ih0 _ _ _
      | exact ih1 _ _ _ _ _
      | exact ih2 _ _ _ _ _ _
      | exact ih3 _ _ _ _ _
      | exact ih4 _ _ _ _ _ _
      | exact LeO.none _
      | refine LeO.ite ?_ ?_
      | refine LeO.bind ?_ (fun _ => ?_)
    · intro y0 y1 y2 y3 y4 y5
      unfold incunableref03_events.l2
      repeat' first
      | (with_reducible exact ih0 _ _ _)
      | (with_reducible exact ih1 _ _ _ _ _)
      | (with_reducible exact ih2 _ _ _ _ _ _)
      | (with_reducible exact ih3 _ _ _ _ _)
      | (with_reducible exact ih4 _ _ _ _ _ _)
      | (with_reducible exact LeO.refl _)
      | (with_reducible exact LeO.none _)
      | (with_reducible refine LeO.ite ?_ ?_)
      | (with_reducible refine LeO.bind ?_ (fun _ => ?_))
      | exact ih0 _ _ _
      | exact ih1 _ _ _ _ _
      | exact ih2 _ _ _ _ _ _
      | exact ih3 _ _ _ _ _
      | exact ih4 _ _ _ _ _ _
      | exact LeO.none _
      | refine LeO.ite ?_ ?_
      | refine LeO.bind ?_ (fun _ => ?_)
theorem incunableref03_events.mono : ∀ a0 a1 k, LeO (incunableref03_events.f k a0 a1) (incunableref03_events.f (k + 1) a0 a1) := by
 intro a0 a1 k; obtain ⟨ih0, ih1, ih2, ih3, ih4⟩ := incunableref03_events.mono_l k; unfold incunableref03_events.f
 repeat' first
  | (with_reducible exact ih0 _ _ _)
  | (with_reducible exact ih1 _ _ _ _ _)
  | (with_reducible exact ih2 _ _ _ _ _ _)
  | (with_reducible exact ih3 _ _ _ _ _)
  | (with_reducible exact ih4 _ _ _ _ _ _)
  | (with_reducible exact LeO.refl _)
  | (with_reducible exact LeO.none _)
  | (with_reducible refine LeO.ite ?_ ?_)
  | (with_reducible refine LeO.bind ?_ (fun _ => ?_))
  | exact ih0 _ _ _
  | exact ih1 _ _ _ _ _
  | exact ih2 _ _ _ _ _ _
  | exact ih3 _ _ _ _ _
  | exact ih4 _ _ _ _ _ _
  | exact LeO.none _
  | refine LeO.ite ?_ ?_
  | refine LeO.bind ?_ (fun _ => ?_)
end Go.Proofs.Ytlnhahnnjbfjdaa.U
namespace Go.Proofs.Ytlnhahnnjbfjdaa.U
open Go.RowKit Go.Proofs.YtlnhahnnjbfjdaaW.PrintWords Go.Proofs.YtlnhahnnjbfjdaaW.PrintLast Go.Proofs.YtlnhahnnjbfjdaaW.PrintMore
attribute [local go_sem] max2_int min2_int max_two min_two max_three min_three max_four min_four   -- for this text's walks alone
mutual
def incunableref03_Events.j0 : Nat → Int → Bool → Bool → Int → Option ((List (S87)) × Int)
  | 0, _, _, _, _ => none
  | k + 1, x0, x18, x164000, x164001 => if x18 = true then (some (([] : List (S87)), 2)) else ((incunableref03_events.f k x164000 x164001).bind fun t165 => (incunableref03_Events.l0 k x0 t165 0))
def incunableref03_Events.l0 : Nat → Int → List (S87) → Int → Option ((List (S87)) × Int)
  | 0, _, _, _ => none
  | k + 1, x0, x6, x7 => if x7 < (x6.length : Int) then (if 0 ≤ x7 then (incunableref03_Events.l0 k x0 (x6.set (x7 : Int).toNat (⟨wrap64 (((rd_T87 x6 x7).f0) + x0), (rd_T87 x6 x7).f1⟩ : S87)) (wrap64 (x7 + 1))) else (none)) else (some (x6, 0))
end
def incunableref03_Events.f (k : Nat) (a0 : Int) (a1_0 : Bool) (a1_1 : Int) : Option ((List (S87)) × Int) := (incunableref03_Valid.f a1_0 a1_1).bind fun t164 => (if t164 = true then (if a0 < 0 then (incunableref03_Events.j0 k a0 true a1_0 a1_1) else (incunableref03_Events.j0 k a0 (decide (a0 > 8144)) a1_0 a1_1)) else (incunableref03_Events.j0 k a0 true a1_0 a1_1))
theorem incunableref03_Events.mono_l : ∀ k, (∀ y0 y1 y2 y3, LeO (incunableref03_Events.j0 k y0 y1 y2 y3) (incunableref03_Events.j0 (k + 1) y0 y1 y2 y3)) ∧ (∀ y0 y1 y2, LeO (incunableref03_Events.l0 k y0 y1 y2) (incunableref03_Events.l0 (k + 1) y0 y1 y2))
  | 0 => ⟨fun _ _ _ _ r h => by simp [incunableref03_Events.j0] at h, fun _ _ _ r h => by simp [incunableref03_Events.l0] at h⟩
  | k + 1 => by
    obtain ⟨ih0, ih1⟩ := incunableref03_Events.mono_l k
    refine ⟨?_, ?_⟩
    · intro y0 y1 y2 y3
      unfold incunableref03_Events.j0
      repeat' first
      | (with_reducible exact ih0 _ _ _ _)
      | (with_reducible exact ih1 _ _ _)
      | (with_reducible exact incunableref03_events.mono _ _ _)
      | (with_reducible exact LeO.refl _)
      | (with_reducible exact LeO.none _)
      | (with_reducible refine LeO.ite ?_ ?_)
      | (with_reducible refine LeO.bind ?_ (fun _ => ?_))
      | exact ih0 _ _ _ _
      | exact ih1 _ _ _
      | exact incunableref03_events.mono _ _ _
      | exact LeO.none _
      | refine LeO.ite ?_ ?_
      | refine LeO.bind ?_ (fun _ => ?_)
    · intro y0 y1 y2
      unfold incunableref03_Events.l0
      repeat' first
      | (with_reducible exact ih0 _ _ _ _)
      | (with_reducible exact ih1 _ _ _)
      | (with_reducible exact incunableref03_events.mono _ _ _)
      | (with_reducible exact LeO.refl _)
      | (with_reducible exact LeO.none _)
      | (with_reducible refine LeO.ite ?_ ?_)
      | (with_reducible refine LeO.bind ?_ (fun _ => ?_))
      | exact ih0 _ _ _ _
      | exact ih1 _ _ _
      | exact incunableref03_events.mono _ _ _
      | exact LeO.none _
      | refine LeO.ite ?_ ?_
      | refine LeO.bind ?_ (fun _ => ?_)
theorem incunableref03_Events.mono : ∀ a0 a1 a2 k, LeO (incunableref03_Events.f k a0 a1 a2) (incunableref03_Events.f (k + 1) a0 a1 a2) := by
 intro a0 a1 a2 k; obtain ⟨ih0, ih1⟩ := incunableref03_Events.mono_l k; unfold incunableref03_Events.f
 repeat' first
  | (with_reducible exact ih0 _ _ _ _)
  | (with_reducible exact ih1 _ _ _)
  | (with_reducible exact incunableref03_events.mono _ _ _)
  | (with_reducible exact LeO.refl _)
  | (with_reducible exact LeO.none _)
  | (with_reducible refine LeO.ite ?_ ?_)
  | (with_reducible refine LeO.bind ?_ (fun _ => ?_))
  | exact ih0 _ _ _ _
  | exact ih1 _ _ _
  | exact incunableref03_events.mono _ _ _
  | exact LeO.none _
  | refine LeO.ite ?_ ?_
  | refine LeO.bind ?_ (fun _ => ?_)
end Go.Proofs.Ytlnhahnnjbfjdaa.U
namespace Go.Proofs.Ytlnhahnnjbfjdaa.U
open Go.RowKit Go.Proofs.YtlnhahnnjbfjdaaW.PrintWords Go.Proofs.YtlnhahnnjbfjdaaW.PrintLast Go.Proofs.YtlnhahnnjbfjdaaW.PrintMore
attribute [local go_sem] max2_int min2_int max_two min_two max_three min_three max_four min_four   -- for this text's walks alone
theorem eqA87 (d : Nat) (w : World) (x0 y0 : Int) (x1 y1 : Int) :
    (Op.equalIn (d + 2) 87 (.agg #[.int .i64 x0, .int .i64 x1]) (.agg #[.int .i64 y0, .int .i64 y1])).run Try.prog w = .ok (x0 == y0 && (x1 == y1)) w := by
  refine eqA_of Try.underlying87 (by kernel_rfl) ?_
  refine eqf_cons (by rfl) (by go_simp; rfl) (by go_simp; rfl) (by go_simp) ?_
  exact eqf_last (by rfl) (by go_simp; rfl) (by go_simp; rfl) (by go_simp)
end Go.Proofs.Ytlnhahnnjbfjdaa.U
namespace Go.Proofs.Ytlnhahnnjbfjdaa.U
open Go.RowKit Go.Proofs.YtlnhahnnjbfjdaaW.PrintWords Go.Proofs.YtlnhahnnjbfjdaaW.PrintLast Go.Proofs.YtlnhahnnjbfjdaaW.PrintMore
attribute [local go_sem] max2_int min2_int max_two min_two max_three min_three max_four min_four   -- for this text's walks alone
attribute [local go_sem high] eqA87
def incunablelaw03_SameEvents.l0 : Nat → List (S87) → List (S87) → Int → Option (Bool)
  | 0, _, _, _ => none
  | k + 1, x0, x1, x5 => if x5 < (x0.length : Int) then (if 0 ≤ x5 then (if x5 < (x1.length : Int) then (if (!(((rd_T87 x0 x5).f0) == ((rd_T87 x1 x5).f0)) || (!(((rd_T87 x0 x5).f1) == ((rd_T87 x1 x5).f1)))) = true then (some false) else (incunablelaw03_SameEvents.l0 k x0 x1 (wrap64 (x5 + 1)))) else (none)) else (none)) else (some true)
def incunablelaw03_SameEvents.f (k : Nat) (l0 : List (S87)) (l1 : List (S87)) : Option (Bool) := if (l0.length : Int) = (l1.length : Int) then (incunablelaw03_SameEvents.l0 k l0 l1 0) else (some false)
theorem incunablelaw03_SameEvents.mono_l : ∀ k, (∀ y0 y1 y2, LeO (incunablelaw03_SameEvents.l0 k y0 y1 y2) (incunablelaw03_SameEvents.l0 (k + 1) y0 y1 y2))
  | 0 => fun _ _ _ r h => by simp [incunablelaw03_SameEvents.l0] at h
  | k + 1 => by
    have ih0 := incunablelaw03_SameEvents.mono_l k
    · intro y0 y1 y2
      unfold incunablelaw03_SameEvents.l0
      repeat' first
      | (with_reducible exact ih0 _ _ _)
      | (with_reducible exact LeO.refl _)
      | (with_reducible exact LeO.none _)
      | (with_reducible refine LeO.ite ?_ ?_)
      | (with_reducible refine LeO.bind ?_ (fun _ => ?_))
      | exact ih0 _ _ _
      | exact LeO.none _
      | refine LeO.ite ?_ ?_
      | refine LeO.bind ?_ (fun _ => ?_)
theorem incunablelaw03_SameEvents.mono : ∀ a0 a1 k, LeO (incunablelaw03_SameEvents.f k a0 a1) (incunablelaw03_SameEvents.f (k + 1) a0 a1) := by
 intro a0 a1 k; have ih0 := incunablelaw03_SameEvents.mono_l k; unfold incunablelaw03_SameEvents.f
 repeat' first
  | (with_reducible exact ih0 _ _ _)
  | (with_reducible exact LeO.refl _)
  | (with_reducible exact LeO.none _)
  | (with_reducible refine LeO.ite ?_ ?_)
  | (with_reducible refine LeO.bind ?_ (fun _ => ?_))
  | exact ih0 _ _ _
  | exact LeO.none _
  | refine LeO.ite ?_ ?_
  | refine LeO.bind ?_ (fun _ => ?_)
set_option maxHeartbeats 8000000 in
set_option maxRecDepth 100000 in
theorem incunablelaw03_SameEvents.calls (k : Nat) (A0 : Option Addr) (c0 : Nat) (l0 : List (S87)) (A1 : Option Addr) (c1 : Nat) (l1 : List (S87)) (r : Bool) (w : World) (hr0 : Kd.C k87 w A0 l0.length l0) (hc0 : l0.length ≤ c0) (hr1 : Kd.C k87 w A1 l1.length l1) (hc1 : l1.length ≤ c1) (h : incunablelaw03_SameEvents.f k l0 l1 = some r) :
    Calls Try.prog 12 #[.slice A0 l0.length c0, .slice A1 l1.length c1] w fun e w' => e = .returned (.bool r) ∧ Drawn0 w w' := by
 have hu87 := Try.underlying87; have HR0 := Aside0.mk hr0; have HC0 := Aside0.mk hc0; clear hr0 hc0; have HR1 := Aside0.mk hr1; have HC1 := Aside0.mk hc1; clear hr1 hc1; have H : (if (l0.length : Int) = (l1.length : Int) then (incunablelaw03_SameEvents.l0 k l0 l1 0) else (some false)) = some r := h; clear h; by_cases c3 : (l0.length : Int) = (l1.length : Int)
 · rw [if_pos c3] at H
   have c3b0 : ((l0.length : Int) == (l1.length : Int)) = true := beq_iff_eq.mpr c3; have c3b1 : ((l0.length : Int) != (l1.length : Int)) = false := bne_eq_false_iff_eq.mpr c3; (have c3b2 : (l0.length == l1.length) = true := by first | simpa using c3 | (simp at c3 ⊢; omega)); clear c3; have H' := Aside0.mk H; clear H; go_enter Try.func12, Try.ntmps12; go_wp2; (repeat (go_quiet (fail); try go_wp2)); go_loopg [5] k (fun kq v5 w' => ∃ (x5_1 : Int), v5 = .int .i64 x5_1 ∧ Aside0 (incunablelaw03_SameEvents.l0 kq l0 l1 x5_1 = some r) ∧ Aside0 (kq ≤ k) ∧ Drawn0 w w'); (case atStart => exact ⟨(0), (by first | rfl | (simp; done) | (simp [*]; done)), H', ⟨Nat.le_refl _⟩, by repeat (first | exact Drawn0.refl _ | apply Drawn0.step)⟩)
   case round =>
    clear H'; (try clear c1); (try clear p2); (try clear c3); (try clear c3b0); (try clear c3b1); (try clear c3b2); obtain ⟨x5_1, rfl, HA, HK1, ⟨m1, rfl⟩⟩ := hrel
    cases gk with
    | zero => exact absurd HA.out (by simp [incunablelaw03_SameEvents.l0])
    | succ k1 =>
     have H := HA.out; clear HA; simp only [incunablelaw03_SameEvents.l0] at H; by_cases c4 : x5_1 < (l0.length : Int)
     (· rw [if_pos c4] at H; have c4b0 : decide (x5_1 < (l0.length : Int)) = true := decide_eq_true c4; clear c4; by_cases c5 : 0 ≤ x5_1; (· rw [if_pos c5] at H; have c5b0 : decide (0 ≤ x5_1) = true := decide_eq_true c5; clear c5; by_cases c6 : x5_1 < (l1.length : Int); (· rw [if_pos c6] at H; have c6b0 : decide (x5_1 < (l1.length : Int)) = true := decide_eq_true c6; clear c6; by_cases c7 : (!(((rd_T87 l0 x5_1).f0) == ((rd_T87 l1 x5_1).f0)) || (!(((rd_T87 l0 x5_1).f1) == ((rd_T87 l1 x5_1).f1)))) = true; (· rw [if_pos c7] at H; have c7b0 : (!(((rd_T87 l0 x5_1).f0) == ((rd_T87 l1 x5_1).f0)) || (!(((rd_T87 l0 x5_1).f1) == ((rd_T87 l1 x5_1).f1)))) = true := c7; clear c7; obtain rfl := Option.some.inj H; have p170 : 0 ≤ (x5_1 : Int) := of_decide_eq_true (by first | (with_reducible assumption) | assumption); have q170 : x5_1 < (l0.length : Int) := of_decide_eq_true (by first | (with_reducible assumption) | assumption); obtain ⟨ad170, e170, hx170_0, hx170_1⟩ := at_T87 HR0.out x5_1 p170 q170; cases e170; replace p170 := eq_true p170; replace q170 := eq_true q170; have p171 : 0 ≤ (x5_1 : Int) := of_decide_eq_true (by first | (with_reducible assumption) | assumption); have q171 : x5_1 < (l1.length : Int) := of_decide_eq_true (by first | (with_reducible assumption) | assumption); obtain ⟨ad171, e171, hx171_0, hx171_1⟩ := at_T87 HR1.out x5_1 p171 q171; cases e171; replace p171 := eq_true p171; replace q171 := eq_true q171; go_wp2; (repeat (go_quiet (fail); try go_wp2)); go_ret; exact ⟨by first | rfl | (simp; done) | (simp [*]; done), by repeat (first | exact Drawn0.refl _ | apply Drawn0.step)⟩); (· rw [if_neg c7] at H; (have c7b0 : (!(((rd_T87 l0 x5_1).f0) == ((rd_T87 l1 x5_1).f0)) || (!(((rd_T87 l0 x5_1).f1) == ((rd_T87 l1 x5_1).f1)))) = false := by simpa using c7); clear c7; have H' := Aside0.mk H; clear H; have p170 : 0 ≤ (x5_1 : Int) := of_decide_eq_true (by first | (with_reducible assumption) | assumption); have q170 : x5_1 < (l0.length : Int) := of_decide_eq_true (by first | (with_reducible assumption) | assumption); obtain ⟨ad170, e170, hx170_0, hx170_1⟩ := at_T87 HR0.out x5_1 p170 q170; cases e170; replace p170 := eq_true p170; replace q170 := eq_true q170; have p171 : 0 ≤ (x5_1 : Int) := of_decide_eq_true (by first | (with_reducible assumption) | assumption); have q171 : x5_1 < (l1.length : Int) := of_decide_eq_true (by first | (with_reducible assumption) | assumption); obtain ⟨ad171, e171, hx171_0, hx171_1⟩ := at_T87 HR1.out x5_1 p171 q171; cases e171; replace p171 := eq_true p171; replace q171 := eq_true q171; go_wp2; (repeat (go_quiet (fail); try go_wp2)); go_roundg k1; (case measure => have := HK1.out; omega); (case rel => exact ⟨(wrap64 (x5_1 + 1)), (by first | rfl | (simp; done) | (simp [*]; done)), H', ⟨by have := HK1.out; omega⟩, by repeat (first | exact Drawn0.refl _ | apply Drawn0.step)⟩))); (· rw [if_neg c6] at H; exact absurd H (by simp))); (· rw [if_neg c5] at H; exact absurd H (by simp)))
     (· rw [if_neg c4] at H; have c4b0 : decide (x5_1 < (l0.length : Int)) = false := decide_eq_false c4; clear c4; obtain rfl := Option.some.inj H; go_wp2; (repeat (go_quiet (fail); try go_wp2)); go_ret; exact ⟨by first | rfl | (simp; done) | (simp [*]; done), by repeat (first | exact Drawn0.refl _ | apply Drawn0.step)⟩)
 (· rw [if_neg c3] at H; have c3b0 : ((l0.length : Int) == (l1.length : Int)) = false := beq_eq_false_iff_ne.mpr c3; have c3b1 : ((l0.length : Int) != (l1.length : Int)) = true := bne_iff_ne.mpr c3; (have c3b2 : (l0.length == l1.length) = false := by first | simpa using c3 | (simp at c3 ⊢; omega)); obtain rfl := Option.some.inj H; go_enter Try.func12, Try.ntmps12; go_wp2; (repeat (go_quiet (fail); try go_wp2)); go_ret; exact ⟨by first | rfl | (simp; done) | (simp [*]; done), by repeat (first | exact Drawn0.refl _ | apply Drawn0.step)⟩)
end Go.Proofs.Ytlnhahnnjbfjdaa.U
namespace Go.Proofs.Ytlnhahnnjbfjdaa.Num
open Go Go.RowKit Go.Proofs.YtlnhahnnjbfjdaaW.PrintWords Go.Proofs.YtlnhahnnjbfjdaaW.PrintLast Go.Proofs.YtlnhahnnjbfjdaaW.PrintMore Go.Proofs.Ytlnhahnnjbfjdaa.Aid Go.Proofs.Ytlnhahnnjbfjdaa.HandAid Go.Proofs.Ytlnhahnnjbfjdaa.U
attribute [local go_sem low] max2_int
attribute [local go_sem] min2_int max_two min_two
/-- The size of a number, as the walk has it; and one more. -/
def numA (n : Int) : Int := if n < -n then -n else n
def numV (n : Int) : Int := numA n + 1
theorem numA_eq (n : Int) : numA n = if n < 0 then -n else n := by
  unfold numA
  split <;> split <;> omega
theorem numA_range {n : Int} (h : -1048576 ≤ n) (h' : n ≤ 1048576) : 0 ≤ numA n ∧ numA n ≤ 1048576 := by rw [numA_eq]; split <;> omega
theorem max_numA (n : Int) : Builtin.max2 (.int .i64 n) (.int .i64 (-n)) = pure (.int .i64 (numA n)) := by
  rw [max2_int]
  rfl
attribute [local go_sem high] max_numA
/-- The length of a number's digits, less one. -/
def numC (n : Int) : Nat := Lib.bitLen (numV n).toNat - 1
def evHead (base : Int) (j : Nat) : List S87 := ⟨base, 0⟩ :: (List.range j).map fun (i : Nat) => ⟨base + 1 + i, 1⟩
def evMid (base : Int) (c : Nat) : List S87 := if c < 20 then [⟨base + 1 + c, 0⟩] else []
def evCtx (c j : Nat) : Int := if j = 0 then 23 + c else if j < 4 then 43 + j else 47
def evDig (base n : Int) (c j : Nat) : List S87 := (List.range j).map fun (i : Nat) => ⟨base + evCtx c i, numV n / 2 ^ (c - 1 - i) % 2⟩
def evSign (base n : Int) : List S87 := if n = 0 then [] else [⟨base + 22, if n < 0 then 1 else 0⟩]
/-- The events of a number that is not none. -/
def evList (base n : Int) : List S87 := evHead base (numC n) ++ evMid base (numC n) ++ evDig base n (numC n) (numC n) ++ evSign base n
theorem numV_range {n : Int} (h : -1048576 ≤ n) (h' : n ≤ 1048576) : 1 ≤ numV n ∧ numV n ≤ 1048577 := by have := numA_range h h'; unfold numV; omega
theorem bitLen_spec (x : Nat) (h : x < 18446744073709551616) (h0 : x ≠ 0) : 1 ≤ Lib.bitLen x ∧ 2 ^ (Lib.bitLen x - 1) ≤ x ∧ x < 2 ^ Lib.bitLen x := Lib.bitLenAux_bounds 64 x h h0
theorem pow_cast {a b : Nat} (h : 2 ^ a ≤ b) : (2 : Int) ^ a ≤ (b : Int) := by exact_mod_cast h
theorem cast_pow {a b : Nat} (h : b < 2 ^ a) : (b : Int) < (2 : Int) ^ a := by exact_mod_cast h
theorem numC_spec {n : Int} (h : -1048576 ≤ n) (h' : n ≤ 1048576) : (2 : Int) ^ numC n ≤ numV n ∧ numV n < 2 ^ (numC n + 1) ∧ numC n ≤ 20 ∧ Lib.bitLen (numV n).toNat = numC n + 1 := by
  have hr := numV_range h h'
  obtain ⟨h1, h2, h3⟩ := bitLen_spec (numV n).toNat (by omega) (by omega)
  have hl : Lib.bitLen (numV n).toNat ≤ 21 := by
    rcases Nat.lt_or_ge 21 (Lib.bitLen (numV n).toNat) with c | c
    · exact absurd (Nat.le_trans (Nat.pow_le_pow_right (by decide) (show 21 ≤ Lib.bitLen (numV n).toNat - 1 by omega)) h2) (by omega)
    · exact c
  have e : Lib.bitLen (numV n).toNat = numC n + 1 := by unfold numC; omega
  have e2 : ((numV n).toNat : Int) = numV n := Int.toNat_of_nonneg (by omega)
  refine ⟨?_, ?_, by omega, e⟩
  · rw [← e2]; exact pow_cast (by rw [e] at h2; exact h2)
  · rw [← e2]; exact cast_pow (by rw [e] at h3; exact h3)
theorem events_none (base n : Int) (w : World) : Calls Try.prog 45 #[.int .i64 base, .agg #[.bool true, .int .i64 n]] w fun e w' => ∃ v, e = .returned v ∧ Kd.R k87 87 w' w.heap.size (fun _ => True) v [(⟨base, 1⟩ : S87)] ∧ Below w.heap.size w w' := by
  have HB := Aside0.mk (Below.refl w.heap.size w)
  have hu := Try.underlying23
  have hu2 := Try.underlying87
  go_enter Try.func45, Try.ntmps45
  go_wp2_with (first | ((with_reducible refine gate_dst (N := 3) rfl ?_); refine box_event ?hg (N := 3) ?hd (cs := #[.bool true, .int .i64 n]) (t := 23) ?hr ?_; (case hd => rfl); (case hg => rfl); (case hr => first | (go_simp; done) | (go_simp; rfl)); intro gb hg wb hbox hb; have n0_ := Aside0.mk (below_step (by repeat (first | (with_reducible first | exact HB.out | apply below_alloc | apply pw_below_drewN | apply below_drew1 | refine below_set ?_ GE.out) | exact HB.out)) hb); have n1_ := Aside0.mk (hbox); have n2_ := Aside0.mk ((by rw [hg]; exact (below_size (by repeat (first | (with_reducible first | exact HB.out | apply below_alloc | apply pw_below_drewN | apply below_drew1 | refine below_set ?_ GE.out) | exact HB.out))) : w.heap.size ≤ gb)); clear HB; have HB := n0_; have BK := n1_; have GE := n2_; clear n0_ n1_ n2_; clear hb hbox hg; have hcz0 : wb.cell? ⟨gb, 0, none⟩ = some (.bool true) := (blk_cell BK.out 0).trans rfl; have hcz1 : wb.cell? ⟨gb, 1, none⟩ = some (.int .i64 n) := (blk_cell BK.out 1).trans rfl; have hfz0 := blk_frozen BK.out 0; have hfz1 := blk_frozen BK.out 1) | ((with_reducible refine gate_dst (N := 17) rfl ?_); refine Kd.R_lit k87 _ 87 ?hg (N := 17) ?hd (xs := ([(⟨base, 1⟩ : S87)] : List (S87))) (inner := [.int .i64 (base), .int .i64 (1)]) (ok := fun _ => True) (okp := fun _ => True) ?hr ?hp (fun _ hk => hk) trivial (Below.refl _ _) (Nat.le_refl _) (by simp) ?_; (case hd => rfl); (case hg => rfl); (case hr => first | (go_simp; done) | (go_simp; rfl)); (case hp => exact (Reps.c2 (show Kd.M k87 _ _ _ (⟨base, 1⟩ : S87) [.int .i64 (base), .int .i64 (1)] from (k87_mkM _ _ _ (⟨base, 1⟩ : S87) )) (Reps.none _ _))); intro v wl ho hb hg_ hnew_; clear hg_ hnew_; have n0_ := Aside0.mk (Kd.R_lower ho (below_size (by repeat (first | (with_reducible first | exact HB.out | apply below_alloc | apply pw_below_drewN | apply below_drew1 | refine below_set ?_ GE.out) | exact HB.out)))); have n1_ := Aside0.mk (blk_below (g := gb) (o := .cells #[.bool true, .int .i64 n] 23 (0, 0)) (by (with_reducible repeat (first | refine blk_drewN ?_ _ | refine blk_drew ?_ | refine blk_alloc ?_ _)); exact BK.out) hb); have n2_ := Aside0.mk (below_step (by repeat (first | (with_reducible first | exact HB.out | apply below_alloc | apply pw_below_drewN | apply below_drew1 | refine below_set ?_ GE.out) | exact HB.out)) hb); clear BK; clear HB; have HO := n0_; have BK := n1_; have HB := n2_; clear n0_ n1_ n2_; clear hb ho; have hczl0 : wl.cell? ⟨gb, 0, none⟩ = some (.bool true) := (blk_cell BK.out 0).trans rfl; have hczl1 : wl.cell? ⟨gb, 1, none⟩ = some (.int .i64 n) := (blk_cell BK.out 1).trans rfl; have hfzl0 := blk_frozen BK.out 0; have hfzl1 := blk_frozen BK.out 1))
  go_ret
  exact ⟨_, rfl, HO.out, by repeat (first | (with_reducible first | exact HB.out | apply below_alloc | apply pw_below_drewN | apply below_drew1) | exact HB.out)⟩
theorem len_calls (n y : Int) (w : World) (h : -1048576 ≤ n) (h' : n ≤ 1048576) (hy : y = numV n) : Calls Try.prog 47 #[.int .u64 y] w fun e w' => e = .returned (.int .i64 ((numC n : Int) + 1)) ∧ w' = w := by
  subst hy
  have hr := numV_range h h'
  refine (Try.bits_Len (numV n) w (by omega) (by omega)).mono ?_
  rintro e w' ⟨rfl, rfl⟩
  rw [(numC_spec h h').2.2.2]
  exact ⟨by simp, rfl⟩
theorem evHead_len (base : Int) (j : Nat) : (evHead base j).length = j + 1 := by simp [evHead]
theorem evMid_len (base : Int) (c : Nat) : (evMid base c).length ≤ 1 := by unfold evMid; split <;> simp
theorem evDig_len (base n : Int) (c j : Nat) : (evDig base n c j).length = j := by simp [evDig]
theorem evHead_step (base : Int) (j : Nat) : evHead base (j + 1) = evHead base j ++ [⟨base + 1 + j, 1⟩] := by simp [evHead, List.range_succ]
theorem evDig_step (base n : Int) (c j : Nat) : evDig base n c (j + 1) = evDig base n c j ++ [⟨base + evCtx c j, numV n / 2 ^ (c - 1 - j) % 2⟩] := by simp [evDig, List.range_succ]
theorem wraps_i64' (x : Int) (h : 0 ≤ x) (h' : x < 2 ^ 62) : IntKind.i64.wrap x = x := by rw [IntKind.wrap_i64]; omega
theorem i64_and1 {x : Int} (h : 0 ≤ x) (h' : x < 4611686018427387904) : Go.bits .and .i64 x 1 = x % 2 := bits_mask .i64 62 (by decide) wraps_i64' 1 (by decide) x h h'
theorem digit_eq {n : Int} (h : -1048576 ≤ n) (h' : n ≤ 1048576) (k : Nat) : Go.bits .and .i64 ((numA n + 1) / 2 ^ k) 1 = numV n / 2 ^ k % 2 := by
  have hA := numA_range h h'
  have h1 : (0 : Int) ≤ (numA n + 1) / 2 ^ k := Int.ediv_nonneg (by omega) (Int.pow_nonneg (by decide))
  have h2 : (numA n + 1) / 2 ^ k ≤ numA n + 1 := Int.ediv_le_self _ (by omega)
  rw [i64_and1 h1 (by omega)]
  rfl
def evTail (j : Nat) : Int := if j = 0 then 44 else if j < 4 then 43 + j else 47
theorem evTail_step (j : Nat) (h : j ≠ 0) : evTail (j + 1) = mn (wrap64 (evTail j + 1)) 47 := by
  have : wrap64 (evTail j + 1) = evTail j + 1 := by refine wrap_id ?_ ?_ <;> (unfold evTail; split <;> (try split) <;> omega)
  rw [this]
  unfold evTail mn
  rw [if_neg (by omega), if_neg h]
  split <;> split <;> (try split) <;> omega
theorem evTail_range (j : Nat) : 44 ≤ evTail j ∧ evTail j ≤ 47 := by unfold evTail; split <;> (try split) <;> omega
set_option maxHeartbeats 40000000 in
set_option maxRecDepth 100000 in
theorem events_calls (base n : Int) (w : World) (hb0 : 0 ≤ base) (hb1 : base ≤ 1000000) (h : -1048576 ≤ n) (h' : n ≤ 1048576) : Calls Try.prog 45 #[.int .i64 base, .agg #[.bool false, .int .i64 n]] w fun e w' => ∃ v, e = .returned v ∧ Kd.R k87 87 w' w.heap.size (fun _ => True) v (evList base n) ∧ Below w.heap.size w w' := by
  have HB := Aside0.mk (Below.refl w.heap.size w)
  have hu := Try.underlying23
  have hu2 := Try.underlying87
  have hC := numC_spec h h'
  have hA := numA_range h h'
  have hc := hC.2.2.1
  go_enter Try.func45, Try.ntmps45
  go_wp2_with (first | ((with_reducible refine gate_dst (N := 3) rfl ?_); refine box_event ?hg (N := 3) ?hd (cs := #[.bool false, .int .i64 n]) (t := 23) ?hr ?_; (case hd => rfl); (case hg => rfl); (case hr => first | (go_simp; done) | (go_simp; rfl)); intro gb hg wb hbox hb; have n0_ := Aside0.mk (below_step (by repeat (first | (with_reducible first | exact HB.out | apply below_alloc | apply pw_below_drewN | apply below_drew1 | refine below_set ?_ GE.out) | exact HB.out)) hb); have n1_ := Aside0.mk (hbox); have n2_ := Aside0.mk ((by rw [hg]; exact (below_size (by repeat (first | (with_reducible first | exact HB.out | apply below_alloc | apply pw_below_drewN | apply below_drew1 | refine below_set ?_ GE.out) | exact HB.out))) : w.heap.size ≤ gb)); clear HB; have HB := n0_; have BK := n1_; have GE := n2_; clear n0_ n1_ n2_; clear hb hbox hg; have hcz0 : wb.cell? ⟨gb, 0, none⟩ = some (.bool false) := (blk_cell BK.out 0).trans rfl; have hcz1 : wb.cell? ⟨gb, 1, none⟩ = some (.int .i64 n) := (blk_cell BK.out 1).trans rfl; have hfz0 := blk_frozen BK.out 0; have hfz1 := blk_frozen BK.out 1) | ((with_reducible refine gate_dst (N := 20) rfl ?_); refine Kd.R_lit k87 _ 87 ?hg (N := 20) ?hd (xs := ([(⟨base, 0⟩ : S87)] : List (S87))) (inner := [.int .i64 (base), .int .i64 (0)]) (ok := fun _ => True) (okp := fun _ => True) ?hr ?hp (fun _ hk => hk) trivial (Below.refl _ _) (Nat.le_refl _) (by simp) ?_; (case hd => rfl); (case hg => rfl); (case hr => first | (go_simp; done) | (go_simp; rfl)); (case hp => exact (Reps.c2 (show Kd.M k87 _ _ _ (⟨base, 0⟩ : S87) [.int .i64 (base), .int .i64 (0)] from (k87_mkM _ _ _ (⟨base, 0⟩ : S87) )) (Reps.none _ _))); intro v wl ho hb hg_ hnew_; clear hg_ hnew_; have n0_ := Aside0.mk (Kd.R_lower ho (below_size (by repeat (first | (with_reducible first | exact HB.out | apply below_alloc | apply pw_below_drewN | apply below_drew1 | refine below_set ?_ GE.out) | exact HB.out)))); have n1_ := Aside0.mk (blk_below (g := gb) (o := .cells #[.bool false, .int .i64 n] 23 (0, 0)) (by (with_reducible repeat (first | refine blk_drewN ?_ _ | refine blk_drew ?_ | refine blk_alloc ?_ _)); exact BK.out) hb); have n2_ := Aside0.mk (below_step (by repeat (first | (with_reducible first | exact HB.out | apply below_alloc | apply pw_below_drewN | apply below_drew1 | refine below_set ?_ GE.out) | exact HB.out)) hb); clear BK; clear HB; have HO := n0_; have BK := n1_; have HB := n2_; clear n0_ n1_ n2_; clear hb ho; have hczl0 : wl.cell? ⟨gb, 0, none⟩ = some (.bool false) := (blk_cell BK.out 0).trans rfl; have hczl1 : wl.cell? ⟨gb, 1, none⟩ = some (.int .i64 n) := (blk_cell BK.out 1).trans rfl; have hfzl0 := blk_frozen BK.out 0; have hfzl1 := blk_frozen BK.out 1) | (go_at_call 47; (refine (len_calls n _ _ h h' ?he).mono ?_; (case he => rfl); rintro e w' ⟨rfl, rfl⟩)))
  go_loopw [5, 33] (fun l i wr => ∃ j : Nat, j ≤ numC n ∧ i = .int .i64 j ∧ Aside0 (Kd.R k87 87 wr w.heap.size (fun _ => True) l (evHead base j)) ∧ Aside0 (wr.heap[gb]? = some (.cells #[.bool false, .int .i64 n] 23 (0, 0))) ∧ Aside0 (Below w.heap.size w wr)) (fun _ i _ => numC n - (intOf i).toNat)
  case atStart => exact ⟨0, Nat.zero_le _, rfl, HO, BK, HB⟩
  clear hcz0 hcz1 hfz0 hfz1 hczl0 hczl1 hfzl0 hfzl1 HO BK HB
  case round =>
    obtain ⟨j, hj, rfl, HO, BK, HB⟩ := hrel
    by_cases hlt : j < numC n
    · have hL : (evHead base j).length ≤ 30 := by rw [evHead_len]; omega
      have HL := Aside0.mk hL
      clear hL
      go_wp2_with (first | ((with_reducible refine gate_builtin (b := .append) (xs := #[.tmp 36, .tmp 42]) rfl ?_); at_builtin; (refine Kd.R_append k87 (w0 := w) w.heap.size rfl (.tmp 36) (.tmp 42) 24 87 (.agg #[(.int .i64 0), (.int .i64 0)]) 16 rfl Try.underlying24 info87 rfl (by decide) (by omega) u5 (evHead base j) (⟨base + 1 + j, 1⟩ : S87) [.int .i64 (base + 1 + j), .int .i64 (1)] (fun _ => True) (fun _ => False) rfl rfl ?aP (fun _ hk => hk.elim) ?aF ?aO ?aB ?aS ?aL ?_; (case aP => exact k87_mkM _ _ _ (⟨base + 1 + j, 1⟩ : S87)); (case aB => exact (by repeat (first | (with_reducible first | exact HB.out | apply below_alloc | apply pw_below_drewN | apply below_drew1 | refine below_set ?_ GE.out) | exact HB.out))); (case aF => exact (fun _ _ => trivial)); (case aO => exact (by (with_reducible repeat (first | apply Kd.R_alloc | apply Kd.R_drewN | apply Kd.R_drew)); exact HO.out)); (case aS => exact (below_size (by repeat (first | (with_reducible first | exact HB.out | apply below_alloc | apply pw_below_drewN | apply below_drew1 | refine below_set ?_ GE.out) | exact HB.out)))); (case aL => have := HL.out; omega); intro v2 wa ho hb hg hat; have n1_ := Aside0.mk (blk_grown (g := gb) (o := .cells #[.bool false, .int .i64 n] 23 (0, 0)) (by (with_reducible repeat (first | refine blk_drewN ?_ _ | refine blk_drew ?_ | refine blk_alloc ?_ _)); exact BK.out) hg (Kd.R_ne HO.out BK.out (by decide))); have n2_ := Aside0.mk (hb); have n3_ := Aside0.mk (ho); clear BK; clear HB; clear HO; have BK := n1_; have HB := n2_; have HO := n3_; clear n1_ n2_ n3_; clear ho hb hg hat)))
      go_roundw
      case rel => exact ⟨j + 1, by omega, by go_num, ⟨by rw [evHead_step]; exact HO.out⟩, BK, HB⟩
      case measure => simp [intOf]; omega
    · obtain rfl : j = numC n := by omega
      clear hlt hj
      by_cases h20 : numC n < 20
      · have HL := Aside0.mk (show (evHead base (numC n)).length ≤ 30 by rw [evHead_len]; omega)
        have hm : evMid base (numC n) = [⟨base + 1 + (numC n : Int), 0⟩] := if_pos h20
        go_wp2_with (first | ((with_reducible refine gate_builtin (b := .append) (xs := #[.tmp 47, .tmp 53]) rfl ?_); at_builtin; (refine Kd.R_append k87 (w0 := w) w.heap.size rfl (.tmp 47) (.tmp 53) 24 87 (.agg #[(.int .i64 0), (.int .i64 0)]) 16 rfl Try.underlying24 info87 rfl (by decide) (by omega) u5 (evHead base (numC n)) (⟨base + 1 + (numC n : Int), 0⟩ : S87) [.int .i64 (base + 1 + (numC n : Int)), .int .i64 (0)] (fun _ => True) (fun _ => False) rfl rfl ?aP (fun _ hk => hk.elim) ?aF ?aO ?aB ?aS ?aL ?_; (case aP => exact k87_mkM _ _ _ (⟨base + 1 + (numC n : Int), 0⟩ : S87)); (case aB => exact (by repeat (first | (with_reducible first | exact HB.out | apply below_alloc | apply pw_below_drewN | apply below_drew1 | refine below_set ?_ GE.out) | exact HB.out))); (case aF => exact (fun _ _ => trivial)); (case aO => exact (by (with_reducible repeat (first | apply Kd.R_alloc | apply Kd.R_drewN | apply Kd.R_drew)); exact HO.out)); (case aS => exact (below_size (by repeat (first | (with_reducible first | exact HB.out | apply below_alloc | apply pw_below_drewN | apply below_drew1 | refine below_set ?_ GE.out) | exact HB.out)))); (case aL => have := HL.out; omega); intro v2 wa ho hb hg hat; have n1_ := Aside0.mk (blk_grown (g := gb) (o := .cells #[.bool false, .int .i64 n] 23 (0, 0)) (by (with_reducible repeat (first | refine blk_drewN ?_ _ | refine blk_drew ?_ | refine blk_alloc ?_ _)); exact BK.out) hg (Kd.R_ne HO.out BK.out (by decide))); have n2_ := Aside0.mk (hb); have n3_ := Aside0.mk (ho); clear BK; clear HB; clear HO; have BK := n1_; have HB := n2_; have HO := n3_; clear n1_ n2_ n3_; clear ho hb hg hat)))
        go_loopw [5, 10] (fun l i wz => ∃ j : Nat, j ≤ numC n ∧ i = .int .i64 ((numC n : Int) - 1 - j) ∧ Aside0 (Kd.R k87 87 wz w.heap.size (fun _ => True) l (evHead base (numC n) ++ evMid base (numC n) ++ evDig base n (numC n) j)) ∧ Aside0 (IsS117 w wz wa.heap.size (evTail j)) ∧ Aside0 (wz.heap[gb]? = some (.cells #[.bool false, .int .i64 n] 23 (0, 0))) ∧ Aside0 (Below w.heap.size w wz)) (fun _ i _ => (intOf i + 1).toNat)
        case atStart =>
          refine ⟨0, Nat.zero_le _, by go_num, ⟨?_⟩, ⟨?_⟩, ⟨?_⟩, ⟨?_⟩⟩
          · rw [hm, show evDig base n (numC n) 0 = [] from rfl, List.append_nil]
            exact Kd.R_alloc (by first | exact HO.out | (rw [List.append_nil]; exact HO.out)) _
          · exact IsS117.new w wa 44 HB.out
          · exact blk_alloc BK.out _
          · exact below_alloc HB.out _
        case round =>
          clear HO BK HB
          obtain ⟨j, hj, rfl, HO, HT, BK, HB⟩ := hrel
          by_cases hlt : j < numC n
          · have HL := Aside0.mk (show (evHead base (numC n) ++ evMid base (numC n) ++ evDig base n (numC n) j).length ≤ 60 by have := evMid_len base (numC n); simp only [List.length_append, evHead_len, evDig_len]; omega)
            by_cases hj0 : j = 0
            · go_wp2_with (first | ((with_reducible refine gate_builtin (b := .append) (xs := #[.tmp 69, .tmp 78]) rfl ?_); at_builtin; (refine Kd.R_append k87 (w0 := w) w.heap.size rfl (.tmp 69) (.tmp 78) 24 87 (.agg #[(.int .i64 0), (.int .i64 0)]) 16 rfl Try.underlying24 info87 rfl (by decide) (by omega) u5 (evHead base (numC n) ++ evMid base (numC n) ++ evDig base n (numC n) j) (⟨base + (23 + (numC n : Int)), Go.bits .and .i64 ((numA n + 1) / 2 ^ (numC n - 1)) 1⟩ : S87) [.int .i64 (base + (23 + (numC n : Int))), .int .i64 (Go.bits .and .i64 ((numA n + 1) / 2 ^ (numC n - 1)) 1)] (fun _ => True) (fun _ => False) rfl rfl ?aP (fun _ hk => hk.elim) ?aF ?aO ?aB ?aS ?aL ?_; (case aP => exact k87_mkM _ _ _ (⟨base + (23 + (numC n : Int)), Go.bits .and .i64 ((numA n + 1) / 2 ^ (numC n - 1)) 1⟩ : S87)); (case aB => exact (by repeat (first | (with_reducible first | exact HB.out | apply below_alloc | apply pw_below_drewN | apply below_drew1 | refine below_set ?_ GE.out) | exact HB.out))); (case aF => exact (fun _ _ => trivial)); (case aO => exact (by (with_reducible repeat (first | apply Kd.R_alloc | apply Kd.R_drewN | apply Kd.R_drew)); exact HO.out)); (case aS => exact (below_size (by repeat (first | (with_reducible first | exact HB.out | apply below_alloc | apply pw_below_drewN | apply below_drew1 | refine below_set ?_ GE.out) | exact HB.out)))); (case aL => have := HL.out; omega); intro v2 wa ho hb hg hat; have n1_ := Aside0.mk (blk_grown (g := gb) (o := .cells #[.bool false, .int .i64 n] 23 (0, 0)) (by (with_reducible repeat (first | refine blk_drewN ?_ _ | refine blk_drew ?_ | refine blk_alloc ?_ _)); exact BK.out) hg (Kd.R_ne HO.out BK.out (by decide))); have n2_ := Aside0.mk (hb); have n3_ := Aside0.mk (ho); have n5_ := Aside0.mk (IsS117.grown (by repeat (first | (with_reducible exact HT.out) | apply IsS117.alloc | apply IsS117.drewN | apply IsS117.drew)) hg (IsS117.own_ne HT.out HO.out (by decide))); clear HT; have HT := n5_; clear n5_; clear BK; clear HB; clear HO; have BK := n1_; have HB := n2_; have HO := n3_; clear n1_ n2_ n3_; clear ho hb hg hat)))
              go_roundw
              case rel =>
                subst hj0
                refine ⟨0 + 1, by omega, by go_num, ⟨?_⟩, ⟨HT.out⟩, BK, HB⟩
                rw [evDig_step, ← List.append_assoc, ← digit_eq h h']
                exact HO.out
              case measure => simp [intOf]; omega
            · have ht := evTail_range j
              go_wp2_with (first | (go_at_call 69; (refine (number_tail_take.calls _ (evTail j) _ _ w _ HT.out HB.out rfl).mono ?_); rintro e wt ⟨rfl, hT, hB, hK⟩; have n1_ := Aside0.mk (Kd.R_mono (Kd.R_keep (IsS117.apart HT.out HO.out (by decide)) hK (fun _ hk => hk.2)) (fun _ _ => trivial)); have n2_ := Aside0.mk (hK.blk BK.out (IsS117.ne_blk HT.out BK.out (by decide)).symm (by simp)); have n3_ := Aside0.mk hT; have n4_ := Aside0.mk hB; clear HO BK HT HB hT hB hK; have HO := n1_; have BK := n2_; have HT := n3_; have HB := n4_; clear n1_ n2_ n3_ n4_) | ((with_reducible refine gate_builtin (b := .append) (xs := #[.tmp 69, .tmp 78]) rfl ?_); at_builtin; (refine Kd.R_append k87 (w0 := w) w.heap.size rfl (.tmp 69) (.tmp 78) 24 87 (.agg #[(.int .i64 0), (.int .i64 0)]) 16 rfl Try.underlying24 info87 rfl (by decide) (by omega) u5 (evHead base (numC n) ++ evMid base (numC n) ++ evDig base n (numC n) j) (⟨base + evTail j, Go.bits .and .i64 ((numA n + 1) / 2 ^ (numC n - 1 - j)) 1⟩ : S87) [.int .i64 (base + evTail j), .int .i64 (Go.bits .and .i64 ((numA n + 1) / 2 ^ (numC n - 1 - j)) 1)] (fun _ => True) (fun _ => False) rfl rfl ?aP (fun _ hk => hk.elim) ?aF ?aO ?aB ?aS ?aL ?_; (case aP => exact k87_mkM _ _ _ (⟨base + evTail j, Go.bits .and .i64 ((numA n + 1) / 2 ^ (numC n - 1 - j)) 1⟩ : S87)); (case aB => exact (by repeat (first | (with_reducible first | exact HB.out | apply below_alloc | apply pw_below_drewN | apply below_drew1 | refine below_set ?_ GE.out) | exact HB.out))); (case aF => exact (fun _ _ => trivial)); (case aO => exact (by (with_reducible repeat (first | apply Kd.R_alloc | apply Kd.R_drewN | apply Kd.R_drew)); exact HO.out)); (case aS => exact (below_size (by repeat (first | (with_reducible first | exact HB.out | apply below_alloc | apply pw_below_drewN | apply below_drew1 | refine below_set ?_ GE.out) | exact HB.out)))); (case aL => have := HL.out; omega); intro v2 wa ho hb hg hat; have n1_ := Aside0.mk (blk_grown (g := gb) (o := .cells #[.bool false, .int .i64 n] 23 (0, 0)) (by (with_reducible repeat (first | refine blk_drewN ?_ _ | refine blk_drew ?_ | refine blk_alloc ?_ _)); exact BK.out) hg (Kd.R_ne HO.out BK.out (by decide))); have n2_ := Aside0.mk (hb); have n3_ := Aside0.mk (ho); have n5_ := Aside0.mk (IsS117.grown (by repeat (first | (with_reducible exact HT.out) | apply IsS117.alloc | apply IsS117.drewN | apply IsS117.drew)) hg (IsS117.own_ne HT.out HO.out (by decide))); clear HT; have HT := n5_; clear n5_; clear BK; clear HB; clear HO; have BK := n1_; have HB := n2_; have HO := n3_; clear n1_ n2_ n3_; clear ho hb hg hat)))
              go_roundw
              case rel =>
                refine ⟨j + 1, by omega, by go_num, ⟨?_⟩, ⟨?_⟩, BK, HB⟩
                · rw [evDig_step, ← List.append_assoc, ← digit_eq h h', show evCtx (numC n) j = evTail j by simp [evCtx, evTail, hj0]]
                  exact HO.out
                · rw [evTail_step j hj0]
                  exact HT.out
              case measure => simp [intOf]; omega
          · obtain rfl : j = numC n := by omega
            clear hlt hj
            have hq0 : wr.cell? ⟨gb, 1, none⟩ = some (.int .i64 n) := (blk_cell BK.out 1).trans rfl
            have hq1 := blk_frozen BK.out 1
            have HL := Aside0.mk (show (evHead base (numC n) ++ evMid base (numC n) ++ evDig base n (numC n) (numC n)).length ≤ 60 by have := evMid_len base (numC n); simp only [List.length_append, evHead_len, evDig_len]; omega)
            by_cases hz : n = 0
            · go_wp2
              go_ret
              refine ⟨_, rfl, ?_, HB.out⟩
              unfold evList
              rw [show evSign base n = [] from if_pos hz, List.append_nil]
              exact HO.out
            · have hq2 : (wr.alloc (.cells #[.int .i64 (base + 22), .int .i64 0] 87)).cell? ⟨gb, 1, none⟩ = some (.int .i64 n) := (blk_cell (blk_alloc BK.out _) 1).trans rfl
              have hq3 : (wr.alloc (.cells #[.int .i64 (base + 22), .int .i64 0] 87)).frozen? ⟨gb, 1, none⟩ = false := blk_frozen (blk_alloc BK.out _) 1
              by_cases hs : n < 0
              · have hg : evSign base n = [⟨base + 22, 1⟩] := by unfold evSign; rw [if_neg hz, if_pos hs]
                go_wp2_with (first | ((with_reducible refine gate_dst (N := 92) rfl ?_); obtain ⟨wq, hwq⟩ : ∃ wq, wr.alloc (.cells #[.int .i64 (base + 22), .int .i64 1] 87) = wq := ⟨_, rfl⟩; rw [hwq]; have n1_ := Aside0.mk (show Kd.R k87 87 wq w.heap.size (fun _ => True) u5 _ from hwq ▸ Kd.R_alloc HO.out _); have n2_ := Aside0.mk (show wq.heap[gb]? = some (.cells #[.bool false, .int .i64 n] 23 (0, 0)) from hwq ▸ blk_alloc BK.out _); have n3_ := Aside0.mk (show Below w.heap.size w wq from hwq ▸ below_alloc HB.out _); clear HO BK HB hq0 hq1 hq2 hq3; have HO := n1_; have BK := n2_; have HB := n3_; clear n1_ n2_ n3_; clear hwq) | ((with_reducible refine gate_builtin (b := .append) (xs := #[.tmp 90, .tmp 92]) rfl ?_); at_builtin; (refine Kd.R_append k87 (w0 := w) w.heap.size rfl (.tmp 90) (.tmp 92) 24 87 (.agg #[(.int .i64 0), (.int .i64 0)]) 16 rfl Try.underlying24 info87 rfl (by decide) (by omega) u5 (evHead base (numC n) ++ evMid base (numC n) ++ evDig base n (numC n) (numC n)) (⟨base + 22, 1⟩ : S87) [.int .i64 (base + 22), .int .i64 (1)] (fun _ => True) (fun _ => False) rfl rfl ?aP (fun _ hk => hk.elim) ?aF ?aO ?aB ?aS ?aL ?_; (case aP => exact k87_mkM _ _ _ (⟨base + 22, 1⟩ : S87)); (case aB => exact (by repeat (first | (with_reducible first | exact HB.out | apply below_alloc | apply pw_below_drewN | apply below_drew1 | refine below_set ?_ GE.out) | exact HB.out))); (case aF => exact (fun _ _ => trivial)); (case aO => exact (by (with_reducible repeat (first | apply Kd.R_alloc | apply Kd.R_drewN | apply Kd.R_drew)); exact HO.out)); (case aS => exact (below_size (by repeat (first | (with_reducible first | exact HB.out | apply below_alloc | apply pw_below_drewN | apply below_drew1 | refine below_set ?_ GE.out) | exact HB.out)))); (case aL => have := HL.out; omega); intro v2 wa ho hb hg hat; have n1_ := Aside0.mk (blk_grown (g := gb) (o := .cells #[.bool false, .int .i64 n] 23 (0, 0)) (by (with_reducible repeat (first | refine blk_drewN ?_ _ | refine blk_drew ?_ | refine blk_alloc ?_ _)); exact BK.out) hg (Kd.R_ne HO.out BK.out (by decide))); have n2_ := Aside0.mk (hb); have n3_ := Aside0.mk (ho); clear BK; clear HB; clear HO; have BK := n1_; have HB := n2_; have HO := n3_; clear n1_ n2_ n3_; clear ho hb hg hat)))
                go_ret
                refine ⟨_, rfl, ?_, HB.out⟩
                unfold evList
                rw [hg]
                exact HO.out
              · have hg : evSign base n = [⟨base + 22, 0⟩] := by unfold evSign; rw [if_neg hz, if_neg hs]
                go_wp2_with (first | ((with_reducible refine gate_dst (N := 92) rfl ?_); obtain ⟨wq, hwq⟩ : ∃ wq, wr.alloc (.cells #[.int .i64 (base + 22), .int .i64 0] 87) = wq := ⟨_, rfl⟩; rw [hwq]; have n1_ := Aside0.mk (show Kd.R k87 87 wq w.heap.size (fun _ => True) u5 _ from hwq ▸ Kd.R_alloc HO.out _); have n2_ := Aside0.mk (show wq.heap[gb]? = some (.cells #[.bool false, .int .i64 n] 23 (0, 0)) from hwq ▸ blk_alloc BK.out _); have n3_ := Aside0.mk (show Below w.heap.size w wq from hwq ▸ below_alloc HB.out _); clear HO BK HB hq0 hq1 hq2 hq3; have HO := n1_; have BK := n2_; have HB := n3_; clear n1_ n2_ n3_; clear hwq) | ((with_reducible refine gate_builtin (b := .append) (xs := #[.tmp 90, .tmp 92]) rfl ?_); at_builtin; (refine Kd.R_append k87 (w0 := w) w.heap.size rfl (.tmp 90) (.tmp 92) 24 87 (.agg #[(.int .i64 0), (.int .i64 0)]) 16 rfl Try.underlying24 info87 rfl (by decide) (by omega) u5 (evHead base (numC n) ++ evMid base (numC n) ++ evDig base n (numC n) (numC n)) (⟨base + 22, 0⟩ : S87) [.int .i64 (base + 22), .int .i64 (0)] (fun _ => True) (fun _ => False) rfl rfl ?aP (fun _ hk => hk.elim) ?aF ?aO ?aB ?aS ?aL ?_; (case aP => exact k87_mkM _ _ _ (⟨base + 22, 0⟩ : S87)); (case aB => exact (by repeat (first | (with_reducible first | exact HB.out | apply below_alloc | apply pw_below_drewN | apply below_drew1 | refine below_set ?_ GE.out) | exact HB.out))); (case aF => exact (fun _ _ => trivial)); (case aO => exact (by (with_reducible repeat (first | apply Kd.R_alloc | apply Kd.R_drewN | apply Kd.R_drew)); exact HO.out)); (case aS => exact (below_size (by repeat (first | (with_reducible first | exact HB.out | apply below_alloc | apply pw_below_drewN | apply below_drew1 | refine below_set ?_ GE.out) | exact HB.out)))); (case aL => have := HL.out; omega); intro v2 wa ho hb hg hat; have n1_ := Aside0.mk (blk_grown (g := gb) (o := .cells #[.bool false, .int .i64 n] 23 (0, 0)) (by (with_reducible repeat (first | refine blk_drewN ?_ _ | refine blk_drew ?_ | refine blk_alloc ?_ _)); exact BK.out) hg (Kd.R_ne HO.out BK.out (by decide))); have n2_ := Aside0.mk (hb); have n3_ := Aside0.mk (ho); clear BK; clear HB; clear HO; have BK := n1_; have HB := n2_; have HO := n3_; clear n1_ n2_ n3_; clear ho hb hg hat)))
                go_ret
                refine ⟨_, rfl, ?_, HB.out⟩
                unfold evList
                rw [hg]
                exact HO.out
      · have hm : evMid base (numC n) = [] := if_neg h20
        go_wp2
        go_loopw [5, 10] (fun l i wz => ∃ j : Nat, j ≤ numC n ∧ i = .int .i64 ((numC n : Int) - 1 - j) ∧ Aside0 (Kd.R k87 87 wz w.heap.size (fun _ => True) l (evHead base (numC n) ++ evMid base (numC n) ++ evDig base n (numC n) j)) ∧ Aside0 (IsS117 w wz wr.heap.size (evTail j)) ∧ Aside0 (wz.heap[gb]? = some (.cells #[.bool false, .int .i64 n] 23 (0, 0))) ∧ Aside0 (Below w.heap.size w wz)) (fun _ i _ => (intOf i + 1).toNat)
        case atStart =>
          refine ⟨0, Nat.zero_le _, by go_num, ⟨?_⟩, ⟨?_⟩, ⟨?_⟩, ⟨?_⟩⟩
          · rw [hm, show evDig base n (numC n) 0 = [] from rfl, List.append_nil]
            exact Kd.R_alloc (by first | exact HO.out | (rw [List.append_nil]; exact HO.out)) _
          · exact IsS117.new w wr 44 HB.out
          · exact blk_alloc BK.out _
          · exact below_alloc HB.out _
        case round =>
          clear HO BK HB
          obtain ⟨j, hj, rfl, HO, HT, BK, HB⟩ := hrel
          by_cases hlt : j < numC n
          · have HL := Aside0.mk (show (evHead base (numC n) ++ evMid base (numC n) ++ evDig base n (numC n) j).length ≤ 60 by have := evMid_len base (numC n); simp only [List.length_append, evHead_len, evDig_len]; omega)
            by_cases hj0 : j = 0
            · go_wp2_with (first | ((with_reducible refine gate_builtin (b := .append) (xs := #[.tmp 69, .tmp 78]) rfl ?_); at_builtin; (refine Kd.R_append k87 (w0 := w) w.heap.size rfl (.tmp 69) (.tmp 78) 24 87 (.agg #[(.int .i64 0), (.int .i64 0)]) 16 rfl Try.underlying24 info87 rfl (by decide) (by omega) u5 (evHead base (numC n) ++ evMid base (numC n) ++ evDig base n (numC n) j) (⟨base + (23 + (numC n : Int)), Go.bits .and .i64 ((numA n + 1) / 2 ^ (numC n - 1)) 1⟩ : S87) [.int .i64 (base + (23 + (numC n : Int))), .int .i64 (Go.bits .and .i64 ((numA n + 1) / 2 ^ (numC n - 1)) 1)] (fun _ => True) (fun _ => False) rfl rfl ?aP (fun _ hk => hk.elim) ?aF ?aO ?aB ?aS ?aL ?_; (case aP => exact k87_mkM _ _ _ (⟨base + (23 + (numC n : Int)), Go.bits .and .i64 ((numA n + 1) / 2 ^ (numC n - 1)) 1⟩ : S87)); (case aB => exact (by repeat (first | (with_reducible first | exact HB.out | apply below_alloc | apply pw_below_drewN | apply below_drew1 | refine below_set ?_ GE.out) | exact HB.out))); (case aF => exact (fun _ _ => trivial)); (case aO => exact (by (with_reducible repeat (first | apply Kd.R_alloc | apply Kd.R_drewN | apply Kd.R_drew)); exact HO.out)); (case aS => exact (below_size (by repeat (first | (with_reducible first | exact HB.out | apply below_alloc | apply pw_below_drewN | apply below_drew1 | refine below_set ?_ GE.out) | exact HB.out)))); (case aL => have := HL.out; omega); intro v2 wa ho hb hg hat; have n1_ := Aside0.mk (blk_grown (g := gb) (o := .cells #[.bool false, .int .i64 n] 23 (0, 0)) (by (with_reducible repeat (first | refine blk_drewN ?_ _ | refine blk_drew ?_ | refine blk_alloc ?_ _)); exact BK.out) hg (Kd.R_ne HO.out BK.out (by decide))); have n2_ := Aside0.mk (hb); have n3_ := Aside0.mk (ho); have n5_ := Aside0.mk (IsS117.grown (by repeat (first | (with_reducible exact HT.out) | apply IsS117.alloc | apply IsS117.drewN | apply IsS117.drew)) hg (IsS117.own_ne HT.out HO.out (by decide))); clear HT; have HT := n5_; clear n5_; clear BK; clear HB; clear HO; have BK := n1_; have HB := n2_; have HO := n3_; clear n1_ n2_ n3_; clear ho hb hg hat)))
              go_roundw
              case rel =>
                subst hj0
                refine ⟨0 + 1, by omega, by go_num, ⟨?_⟩, ⟨HT.out⟩, BK, HB⟩
                rw [evDig_step, ← List.append_assoc, ← digit_eq h h']
                exact HO.out
              case measure => simp [intOf]; omega
            · have ht := evTail_range j
              go_wp2_with (first | (go_at_call 69; (refine (number_tail_take.calls _ (evTail j) _ _ w _ HT.out HB.out rfl).mono ?_); rintro e wt ⟨rfl, hT, hB, hK⟩; have n1_ := Aside0.mk (Kd.R_mono (Kd.R_keep (IsS117.apart HT.out HO.out (by decide)) hK (fun _ hk => hk.2)) (fun _ _ => trivial)); have n2_ := Aside0.mk (hK.blk BK.out (IsS117.ne_blk HT.out BK.out (by decide)).symm (by simp)); have n3_ := Aside0.mk hT; have n4_ := Aside0.mk hB; clear HO BK HT HB hT hB hK; have HO := n1_; have BK := n2_; have HT := n3_; have HB := n4_; clear n1_ n2_ n3_ n4_) | ((with_reducible refine gate_builtin (b := .append) (xs := #[.tmp 69, .tmp 78]) rfl ?_); at_builtin; (refine Kd.R_append k87 (w0 := w) w.heap.size rfl (.tmp 69) (.tmp 78) 24 87 (.agg #[(.int .i64 0), (.int .i64 0)]) 16 rfl Try.underlying24 info87 rfl (by decide) (by omega) u5 (evHead base (numC n) ++ evMid base (numC n) ++ evDig base n (numC n) j) (⟨base + evTail j, Go.bits .and .i64 ((numA n + 1) / 2 ^ (numC n - 1 - j)) 1⟩ : S87) [.int .i64 (base + evTail j), .int .i64 (Go.bits .and .i64 ((numA n + 1) / 2 ^ (numC n - 1 - j)) 1)] (fun _ => True) (fun _ => False) rfl rfl ?aP (fun _ hk => hk.elim) ?aF ?aO ?aB ?aS ?aL ?_; (case aP => exact k87_mkM _ _ _ (⟨base + evTail j, Go.bits .and .i64 ((numA n + 1) / 2 ^ (numC n - 1 - j)) 1⟩ : S87)); (case aB => exact (by repeat (first | (with_reducible first | exact HB.out | apply below_alloc | apply pw_below_drewN | apply below_drew1 | refine below_set ?_ GE.out) | exact HB.out))); (case aF => exact (fun _ _ => trivial)); (case aO => exact (by (with_reducible repeat (first | apply Kd.R_alloc | apply Kd.R_drewN | apply Kd.R_drew)); exact HO.out)); (case aS => exact (below_size (by repeat (first | (with_reducible first | exact HB.out | apply below_alloc | apply pw_below_drewN | apply below_drew1 | refine below_set ?_ GE.out) | exact HB.out)))); (case aL => have := HL.out; omega); intro v2 wa ho hb hg hat; have n1_ := Aside0.mk (blk_grown (g := gb) (o := .cells #[.bool false, .int .i64 n] 23 (0, 0)) (by (with_reducible repeat (first | refine blk_drewN ?_ _ | refine blk_drew ?_ | refine blk_alloc ?_ _)); exact BK.out) hg (Kd.R_ne HO.out BK.out (by decide))); have n2_ := Aside0.mk (hb); have n3_ := Aside0.mk (ho); have n5_ := Aside0.mk (IsS117.grown (by repeat (first | (with_reducible exact HT.out) | apply IsS117.alloc | apply IsS117.drewN | apply IsS117.drew)) hg (IsS117.own_ne HT.out HO.out (by decide))); clear HT; have HT := n5_; clear n5_; clear BK; clear HB; clear HO; have BK := n1_; have HB := n2_; have HO := n3_; clear n1_ n2_ n3_; clear ho hb hg hat)))
              go_roundw
              case rel =>
                refine ⟨j + 1, by omega, by go_num, ⟨?_⟩, ⟨?_⟩, BK, HB⟩
                · rw [evDig_step, ← List.append_assoc, ← digit_eq h h', show evCtx (numC n) j = evTail j by simp [evCtx, evTail, hj0]]
                  exact HO.out
                · rw [evTail_step j hj0]
                  exact HT.out
              case measure => simp [intOf]; omega
          · obtain rfl : j = numC n := by omega
            clear hlt hj
            have hq0 : wr.cell? ⟨gb, 1, none⟩ = some (.int .i64 n) := (blk_cell BK.out 1).trans rfl
            have hq1 := blk_frozen BK.out 1
            have HL := Aside0.mk (show (evHead base (numC n) ++ evMid base (numC n) ++ evDig base n (numC n) (numC n)).length ≤ 60 by have := evMid_len base (numC n); simp only [List.length_append, evHead_len, evDig_len]; omega)
            by_cases hz : n = 0
            · go_wp2
              go_ret
              refine ⟨_, rfl, ?_, HB.out⟩
              unfold evList
              rw [show evSign base n = [] from if_pos hz, List.append_nil]
              exact HO.out
            · have hq2 : (wr.alloc (.cells #[.int .i64 (base + 22), .int .i64 0] 87)).cell? ⟨gb, 1, none⟩ = some (.int .i64 n) := (blk_cell (blk_alloc BK.out _) 1).trans rfl
              have hq3 : (wr.alloc (.cells #[.int .i64 (base + 22), .int .i64 0] 87)).frozen? ⟨gb, 1, none⟩ = false := blk_frozen (blk_alloc BK.out _) 1
              by_cases hs : n < 0
              · have hg : evSign base n = [⟨base + 22, 1⟩] := by unfold evSign; rw [if_neg hz, if_pos hs]
                go_wp2_with (first | ((with_reducible refine gate_dst (N := 92) rfl ?_); obtain ⟨wq, hwq⟩ : ∃ wq, wr.alloc (.cells #[.int .i64 (base + 22), .int .i64 1] 87) = wq := ⟨_, rfl⟩; rw [hwq]; have n1_ := Aside0.mk (show Kd.R k87 87 wq w.heap.size (fun _ => True) u5 _ from hwq ▸ Kd.R_alloc HO.out _); have n2_ := Aside0.mk (show wq.heap[gb]? = some (.cells #[.bool false, .int .i64 n] 23 (0, 0)) from hwq ▸ blk_alloc BK.out _); have n3_ := Aside0.mk (show Below w.heap.size w wq from hwq ▸ below_alloc HB.out _); clear HO BK HB hq0 hq1 hq2 hq3; have HO := n1_; have BK := n2_; have HB := n3_; clear n1_ n2_ n3_; clear hwq) | ((with_reducible refine gate_builtin (b := .append) (xs := #[.tmp 90, .tmp 92]) rfl ?_); at_builtin; (refine Kd.R_append k87 (w0 := w) w.heap.size rfl (.tmp 90) (.tmp 92) 24 87 (.agg #[(.int .i64 0), (.int .i64 0)]) 16 rfl Try.underlying24 info87 rfl (by decide) (by omega) u5 (evHead base (numC n) ++ evMid base (numC n) ++ evDig base n (numC n) (numC n)) (⟨base + 22, 1⟩ : S87) [.int .i64 (base + 22), .int .i64 (1)] (fun _ => True) (fun _ => False) rfl rfl ?aP (fun _ hk => hk.elim) ?aF ?aO ?aB ?aS ?aL ?_; (case aP => exact k87_mkM _ _ _ (⟨base + 22, 1⟩ : S87)); (case aB => exact (by repeat (first | (with_reducible first | exact HB.out | apply below_alloc | apply pw_below_drewN | apply below_drew1 | refine below_set ?_ GE.out) | exact HB.out))); (case aF => exact (fun _ _ => trivial)); (case aO => exact (by (with_reducible repeat (first | apply Kd.R_alloc | apply Kd.R_drewN | apply Kd.R_drew)); exact HO.out)); (case aS => exact (below_size (by repeat (first | (with_reducible first | exact HB.out | apply below_alloc | apply pw_below_drewN | apply below_drew1 | refine below_set ?_ GE.out) | exact HB.out)))); (case aL => have := HL.out; omega); intro v2 wa ho hb hg hat; have n1_ := Aside0.mk (blk_grown (g := gb) (o := .cells #[.bool false, .int .i64 n] 23 (0, 0)) (by (with_reducible repeat (first | refine blk_drewN ?_ _ | refine blk_drew ?_ | refine blk_alloc ?_ _)); exact BK.out) hg (Kd.R_ne HO.out BK.out (by decide))); have n2_ := Aside0.mk (hb); have n3_ := Aside0.mk (ho); clear BK; clear HB; clear HO; have BK := n1_; have HB := n2_; have HO := n3_; clear n1_ n2_ n3_; clear ho hb hg hat)))
                go_ret
                refine ⟨_, rfl, ?_, HB.out⟩
                unfold evList
                rw [hg]
                exact HO.out
              · have hg : evSign base n = [⟨base + 22, 0⟩] := by unfold evSign; rw [if_neg hz, if_neg hs]
                go_wp2_with (first | ((with_reducible refine gate_dst (N := 92) rfl ?_); obtain ⟨wq, hwq⟩ : ∃ wq, wr.alloc (.cells #[.int .i64 (base + 22), .int .i64 0] 87) = wq := ⟨_, rfl⟩; rw [hwq]; have n1_ := Aside0.mk (show Kd.R k87 87 wq w.heap.size (fun _ => True) u5 _ from hwq ▸ Kd.R_alloc HO.out _); have n2_ := Aside0.mk (show wq.heap[gb]? = some (.cells #[.bool false, .int .i64 n] 23 (0, 0)) from hwq ▸ blk_alloc BK.out _); have n3_ := Aside0.mk (show Below w.heap.size w wq from hwq ▸ below_alloc HB.out _); clear HO BK HB hq0 hq1 hq2 hq3; have HO := n1_; have BK := n2_; have HB := n3_; clear n1_ n2_ n3_; clear hwq) | ((with_reducible refine gate_builtin (b := .append) (xs := #[.tmp 90, .tmp 92]) rfl ?_); at_builtin; (refine Kd.R_append k87 (w0 := w) w.heap.size rfl (.tmp 90) (.tmp 92) 24 87 (.agg #[(.int .i64 0), (.int .i64 0)]) 16 rfl Try.underlying24 info87 rfl (by decide) (by omega) u5 (evHead base (numC n) ++ evMid base (numC n) ++ evDig base n (numC n) (numC n)) (⟨base + 22, 0⟩ : S87) [.int .i64 (base + 22), .int .i64 (0)] (fun _ => True) (fun _ => False) rfl rfl ?aP (fun _ hk => hk.elim) ?aF ?aO ?aB ?aS ?aL ?_; (case aP => exact k87_mkM _ _ _ (⟨base + 22, 0⟩ : S87)); (case aB => exact (by repeat (first | (with_reducible first | exact HB.out | apply below_alloc | apply pw_below_drewN | apply below_drew1 | refine below_set ?_ GE.out) | exact HB.out))); (case aF => exact (fun _ _ => trivial)); (case aO => exact (by (with_reducible repeat (first | apply Kd.R_alloc | apply Kd.R_drewN | apply Kd.R_drew)); exact HO.out)); (case aS => exact (below_size (by repeat (first | (with_reducible first | exact HB.out | apply below_alloc | apply pw_below_drewN | apply below_drew1 | refine below_set ?_ GE.out) | exact HB.out)))); (case aL => have := HL.out; omega); intro v2 wa ho hb hg hat; have n1_ := Aside0.mk (blk_grown (g := gb) (o := .cells #[.bool false, .int .i64 n] 23 (0, 0)) (by (with_reducible repeat (first | refine blk_drewN ?_ _ | refine blk_drew ?_ | refine blk_alloc ?_ _)); exact BK.out) hg (Kd.R_ne HO.out BK.out (by decide))); have n2_ := Aside0.mk (hb); have n3_ := Aside0.mk (ho); clear BK; clear HB; clear HO; have BK := n1_; have HB := n2_; have HO := n3_; clear n1_ n2_ n3_; clear ho hb hg hat)))
                go_ret
                refine ⟨_, rfl, ?_, HB.out⟩
                unfold evList
                rw [hg]
                exact HO.out
end Go.Proofs.Ytlnhahnnjbfjdaa.Num
namespace Go.Proofs.Ytlnhahnnjbfjdaa.Evs
open Go Go.RowKit Go.Proofs.YtlnhahnnjbfjdaaW.PrintWords Go.Proofs.YtlnhahnnjbfjdaaW.PrintLast Go.Proofs.YtlnhahnnjbfjdaaW.PrintMore Go.Proofs.Ytlnhahnnjbfjdaa.Aid Go.Proofs.Ytlnhahnnjbfjdaa.HandAid Go.Proofs.Ytlnhahnnjbfjdaa.U Go.Proofs.Ytlnhahnnjbfjdaa.Num
/-- Whether a number is one, or none. -/
def okNum (nn : Bool) (n : Int) : Bool := if nn = true then n == 0 else decide (-1048576 ≤ n) && decide (n ≤ 1048576)
theorem valid_eq (nn : Bool) (n : Int) : number_Valid.f nn n = some (okNum nn n) := by
  unfold number_Valid.f okNum
  cases nn
  · simp only [Bool.false_eq_true, if_false]
    by_cases h : n ≥ -1048576
    · rw [if_pos h, decide_eq_true (show -1048576 ≤ n from h)]; rfl
    · rw [if_neg h, decide_eq_false (show ¬ -1048576 ≤ n from h)]; rfl
  · rfl
/-- The events of a number, or of none. -/
def evAll (base : Int) (nn : Bool) (n : Int) : List S87 := if nn = true then [⟨base, 1⟩] else evList base n
theorem events_all (base n : Int) (nn : Bool) (w : World) (hb0 : 0 ≤ base) (hb1 : base ≤ 1000000) (hok : okNum nn n = true) : Calls Try.prog 45 #[.int .i64 base, .agg #[.bool nn, .int .i64 n]] w fun e w' => ∃ v, e = .returned v ∧ Kd.R k87 87 w' w.heap.size (fun _ => True) v (evAll base nn n) ∧ Below w.heap.size w w' := by
  cases nn
  · unfold okNum at hok
    simp only [Bool.false_eq_true, if_false, Bool.and_eq_true, decide_eq_true_eq] at hok
    exact events_calls base n w hb0 hb1 hok.1 hok.2
  · exact events_none base n w
def evRes (base : Int) (nn : Bool) (n : Int) : List S87 × Int := if okNum nn n = true ∧ 0 ≤ base ∧ base ≤ 8144 then (evAll base nn n, 0) else ([], 2)
set_option maxHeartbeats 4000000 in
set_option maxRecDepth 100000 in
theorem Events_calls (base n : Int) (nn : Bool) (w : World) : Calls Try.prog 10 #[.int .i64 base, .agg #[.bool nn, .int .i64 n]] w fun e w' => ∃ v, e = .returned (.tuple #[v, .int .i64 (evRes base nn n).2]) ∧ Kd.R k87 87 w' w.heap.size (fun _ => True) v (evRes base nn n).1 ∧ Below w.heap.size w w' := by
  have HB := Aside0.mk (Below.refl w.heap.size w)
  have hu := Try.underlying23
  by_cases hok : okNum nn n = true
  · by_cases hb0 : 0 ≤ base
    · by_cases hb1 : base ≤ 8144
      · have he : evRes base nn n = (evAll base nn n, 0) := if_pos ⟨hok, hb0, hb1⟩
        rw [he]
        have hok' := hok
        go_enter Try.func10, Try.ntmps10
        go_wp2_with (first | ((with_reducible refine gate_dst (N := 3) rfl ?_); refine box_event ?hg (N := 3) ?hd (cs := #[.bool nn, .int .i64 n]) (t := 23) ?hr ?_; (case hd => rfl); (case hg => rfl); (case hr => first | (go_simp; done) | (go_simp; rfl)); intro gb hg wb hbox hb; have n0_ := Aside0.mk (below_step (by repeat (first | (with_reducible first | exact HB.out | apply below_alloc | apply pw_below_drewN | apply below_drew1 | refine below_set ?_ GE.out) | exact HB.out)) hb); have n1_ := Aside0.mk (hbox); have n2_ := Aside0.mk ((by rw [hg]; exact (below_size (by repeat (first | (with_reducible first | exact HB.out | apply below_alloc | apply pw_below_drewN | apply below_drew1 | refine below_set ?_ GE.out) | exact HB.out))) : w.heap.size ≤ gb)); clear HB; have HB := n0_; have BK := n1_; have GE := n2_; clear n0_ n1_ n2_; clear hb hbox hg; have hcz0 : wb.cell? ⟨gb, 0, none⟩ = some (.bool nn) := (blk_cell BK.out 0).trans rfl; have hcz1 : wb.cell? ⟨gb, 1, none⟩ = some (.int .i64 n) := (blk_cell BK.out 1).trans rfl; have hfz0 := blk_frozen BK.out 0; have hfz1 := blk_frozen BK.out 1) | (go_at_call 13; refine (number_Valid.calls nn n _ _ (valid_eq nn n)).mono ?_; rintro e wv ⟨rfl, hv⟩; have n1_ := Aside0.mk (blk_below BK.out hv); have n2_ := Aside0.mk (below_step HB.out hv); clear BK HB hv; have BK := n1_; have HB := n2_; clear n1_ n2_; have hcv0 : wv.cell? ⟨gb, 0, none⟩ = some (.bool nn) := (blk_cell BK.out 0).trans rfl; have hcv1 : wv.cell? ⟨gb, 1, none⟩ = some (.int .i64 n) := (blk_cell BK.out 1).trans rfl; have hfv0 := blk_frozen BK.out 0; have hfv1 := blk_frozen BK.out 1) | (go_at_call 45; refine (events_all base n nn _ hb0 (by omega) hok').mono ?_; rintro e we ⟨v, rfl, hR, hE⟩; have HR := Aside0.mk (Kd.R_lower hR (below_size HB.out)); have n2_ := Aside0.mk (below_step HB.out hE); clear hR hE HB; have HB := n2_; clear n2_))
        go_ret2
        exact ⟨v, rfl, HR.out, HB.out⟩
      · have he : evRes base nn n = ([], 2) := if_neg (fun h => hb1 h.2.2)
        rw [he]
        go_enter Try.func10, Try.ntmps10
        go_wp2_with (first | ((with_reducible refine gate_dst (N := 3) rfl ?_); refine box_event ?hg (N := 3) ?hd (cs := #[.bool nn, .int .i64 n]) (t := 23) ?hr ?_; (case hd => rfl); (case hg => rfl); (case hr => first | (go_simp; done) | (go_simp; rfl)); intro gb hg wb hbox hb; have n0_ := Aside0.mk (below_step (by repeat (first | (with_reducible first | exact HB.out | apply below_alloc | apply pw_below_drewN | apply below_drew1 | refine below_set ?_ GE.out) | exact HB.out)) hb); have n1_ := Aside0.mk (hbox); have n2_ := Aside0.mk ((by rw [hg]; exact (below_size (by repeat (first | (with_reducible first | exact HB.out | apply below_alloc | apply pw_below_drewN | apply below_drew1 | refine below_set ?_ GE.out) | exact HB.out))) : w.heap.size ≤ gb)); clear HB; have HB := n0_; have BK := n1_; have GE := n2_; clear n0_ n1_ n2_; clear hb hbox hg; have hcz0 : wb.cell? ⟨gb, 0, none⟩ = some (.bool nn) := (blk_cell BK.out 0).trans rfl; have hcz1 : wb.cell? ⟨gb, 1, none⟩ = some (.int .i64 n) := (blk_cell BK.out 1).trans rfl; have hfz0 := blk_frozen BK.out 0; have hfz1 := blk_frozen BK.out 1) | (go_at_call 13; refine (number_Valid.calls nn n _ _ (valid_eq nn n)).mono ?_; rintro e wv ⟨rfl, hv⟩; have n1_ := Aside0.mk (blk_below BK.out hv); have n2_ := Aside0.mk (below_step HB.out hv); clear BK HB hv; have BK := n1_; have HB := n2_; clear n1_ n2_; have hcv0 : wv.cell? ⟨gb, 0, none⟩ = some (.bool nn) := (blk_cell BK.out 0).trans rfl; have hcv1 : wv.cell? ⟨gb, 1, none⟩ = some (.int .i64 n) := (blk_cell BK.out 1).trans rfl; have hfv0 := blk_frozen BK.out 0; have hfv1 := blk_frozen BK.out 1))
        go_ret2
        exact ⟨_, rfl, Kd.R_nil _ _ _ _ _, HB.out⟩
    · have he : evRes base nn n = ([], 2) := if_neg (fun h => hb0 h.2.1)
      rw [he]
      go_enter Try.func10, Try.ntmps10
      go_wp2_with (first | ((with_reducible refine gate_dst (N := 3) rfl ?_); refine box_event ?hg (N := 3) ?hd (cs := #[.bool nn, .int .i64 n]) (t := 23) ?hr ?_; (case hd => rfl); (case hg => rfl); (case hr => first | (go_simp; done) | (go_simp; rfl)); intro gb hg wb hbox hb; have n0_ := Aside0.mk (below_step (by repeat (first | (with_reducible first | exact HB.out | apply below_alloc | apply pw_below_drewN | apply below_drew1 | refine below_set ?_ GE.out) | exact HB.out)) hb); have n1_ := Aside0.mk (hbox); have n2_ := Aside0.mk ((by rw [hg]; exact (below_size (by repeat (first | (with_reducible first | exact HB.out | apply below_alloc | apply pw_below_drewN | apply below_drew1 | refine below_set ?_ GE.out) | exact HB.out))) : w.heap.size ≤ gb)); clear HB; have HB := n0_; have BK := n1_; have GE := n2_; clear n0_ n1_ n2_; clear hb hbox hg; have hcz0 : wb.cell? ⟨gb, 0, none⟩ = some (.bool nn) := (blk_cell BK.out 0).trans rfl; have hcz1 : wb.cell? ⟨gb, 1, none⟩ = some (.int .i64 n) := (blk_cell BK.out 1).trans rfl; have hfz0 := blk_frozen BK.out 0; have hfz1 := blk_frozen BK.out 1) | (go_at_call 13; refine (number_Valid.calls nn n _ _ (valid_eq nn n)).mono ?_; rintro e wv ⟨rfl, hv⟩; have n1_ := Aside0.mk (blk_below BK.out hv); have n2_ := Aside0.mk (below_step HB.out hv); clear BK HB hv; have BK := n1_; have HB := n2_; clear n1_ n2_; have hcv0 : wv.cell? ⟨gb, 0, none⟩ = some (.bool nn) := (blk_cell BK.out 0).trans rfl; have hcv1 : wv.cell? ⟨gb, 1, none⟩ = some (.int .i64 n) := (blk_cell BK.out 1).trans rfl; have hfv0 := blk_frozen BK.out 0; have hfv1 := blk_frozen BK.out 1))
      go_ret2
      exact ⟨_, rfl, Kd.R_nil _ _ _ _ _, HB.out⟩
  · have he : evRes base nn n = ([], 2) := if_neg (fun h => hok h.1)
    have hok2 : okNum nn n = false := Bool.eq_false_iff.mpr hok
    rw [he]
    go_enter Try.func10, Try.ntmps10
    go_wp2_with (first | ((with_reducible refine gate_dst (N := 3) rfl ?_); refine box_event ?hg (N := 3) ?hd (cs := #[.bool nn, .int .i64 n]) (t := 23) ?hr ?_; (case hd => rfl); (case hg => rfl); (case hr => first | (go_simp; done) | (go_simp; rfl)); intro gb hg wb hbox hb; have n0_ := Aside0.mk (below_step (by repeat (first | (with_reducible first | exact HB.out | apply below_alloc | apply pw_below_drewN | apply below_drew1 | refine below_set ?_ GE.out) | exact HB.out)) hb); have n1_ := Aside0.mk (hbox); have n2_ := Aside0.mk ((by rw [hg]; exact (below_size (by repeat (first | (with_reducible first | exact HB.out | apply below_alloc | apply pw_below_drewN | apply below_drew1 | refine below_set ?_ GE.out) | exact HB.out))) : w.heap.size ≤ gb)); clear HB; have HB := n0_; have BK := n1_; have GE := n2_; clear n0_ n1_ n2_; clear hb hbox hg; have hcz0 : wb.cell? ⟨gb, 0, none⟩ = some (.bool nn) := (blk_cell BK.out 0).trans rfl; have hcz1 : wb.cell? ⟨gb, 1, none⟩ = some (.int .i64 n) := (blk_cell BK.out 1).trans rfl; have hfz0 := blk_frozen BK.out 0; have hfz1 := blk_frozen BK.out 1) | (go_at_call 13; refine (number_Valid.calls nn n _ _ (valid_eq nn n)).mono ?_; rintro e wv ⟨rfl, hv⟩; have n1_ := Aside0.mk (blk_below BK.out hv); have n2_ := Aside0.mk (below_step HB.out hv); clear BK HB hv; have BK := n1_; have HB := n2_; clear n1_ n2_; have hcv0 : wv.cell? ⟨gb, 0, none⟩ = some (.bool nn) := (blk_cell BK.out 0).trans rfl; have hcv1 : wv.cell? ⟨gb, 1, none⟩ = some (.int .i64 n) := (blk_cell BK.out 1).trans rfl; have hfv0 := blk_frozen BK.out 0; have hfv1 := blk_frozen BK.out 1))
    go_ret2
    exact ⟨_, rfl, Kd.R_nil _ _ _ _ _, HB.out⟩
end Go.Proofs.Ytlnhahnnjbfjdaa.Evs
namespace Go.Proofs.Ytlnhahnnjbfjdaa.RefEvs
open Go Go.RowKit Go.Proofs.YtlnhahnnjbfjdaaW.PrintWords Go.Proofs.YtlnhahnnjbfjdaaW.PrintLast Go.Proofs.YtlnhahnnjbfjdaaW.PrintMore Go.Proofs.Ytlnhahnnjbfjdaa.Aid Go.Proofs.Ytlnhahnnjbfjdaa.HandAid Go.Proofs.Ytlnhahnnjbfjdaa.U Go.Proofs.Ytlnhahnnjbfjdaa.Num Go.Proofs.Ytlnhahnnjbfjdaa.Evs
theorem same_l0 (l : List S87) (hn : l.length ≤ 1000000) : ∀ (d i : Nat), i + d = l.length → Ev (fun k => incunablelaw03_SameEvents.l0 k l l i) true
  | 0, i, hd => by
    refine ev_succ ?_
    simp only [incunablelaw03_SameEvents.l0]
    exact ev_neg (by omega) (Ev.now _)
  | d + 1, i, hd => by
    refine ev_succ ?_
    simp only [incunablelaw03_SameEvents.l0]
    refine ev_pos (by omega) (ev_pos (by omega) (ev_pos (by omega) (ev_neg (by simp) ?_)))
    rw [show wrap64 ((i : Int) + 1) = ((i + 1 : Nat) : Int) by rw [wrap_id] <;> omega]
    exact same_l0 l hn d (i + 1) (by omega)
theorem sameEvents_ev (l : List S87) (hn : l.length ≤ 1000000) : Ev (fun k => incunablelaw03_SameEvents.f k l l) true := by
  unfold incunablelaw03_SameEvents.f
  exact ev_pos rfl (same_l0 l hn l.length 0 (by omega))
end Go.Proofs.Ytlnhahnnjbfjdaa.RefEvs
namespace Go.Proofs.Ytlnhahnnjbfjdaa.Sane
open Go Go.RowKit Go.Proofs.YtlnhahnnjbfjdaaW.PrintWords Go.Proofs.YtlnhahnnjbfjdaaW.PrintLast Go.Proofs.YtlnhahnnjbfjdaaW.PrintMore Go.Proofs.Ytlnhahnnjbfjdaa.Aid Go.Proofs.Ytlnhahnnjbfjdaa.HandAid Go.Proofs.Ytlnhahnnjbfjdaa.U Go.Proofs.Ytlnhahnnjbfjdaa.Num Go.Proofs.Ytlnhahnnjbfjdaa.Evs Go.Proofs.Ytlnhahnnjbfjdaa.RefEvs
def sane5 : List S87 := [⟨0, 0⟩, ⟨1, 1⟩, ⟨2, 0⟩, ⟨24, 1⟩, ⟨22, 0⟩]
theorem sane_ev : evRes 0 false 2 = (sane5, 0) := by
  have h : numC 2 = 1 := by unfold numC numV numA; decide
  unfold evRes
  rw [if_pos ⟨by decide, by decide, by decide⟩]
  unfold evAll evList evHead evMid evDig evSign numV numA
  rw [h]
  rfl
set_option maxHeartbeats 4000000 in
set_option maxRecDepth 100000 in
theorem sane_calls (w : World) : Calls Try.prog 15 #[] w fun e w' => e = .returned (.bool true) ∧ Below w.heap.size w w' := by
  have HB := Aside0.mk (Below.refl w.heap.size w)
  have hE := sane_ev
  go_enter Try.func15, Try.ntmps15
  go_wp2_with (first | (go_at_call 10; refine (Events_calls 0 2 false _).mono ?_; rw [sane_ev]; rintro e wv ⟨v1, rfl, hR, hv⟩; obtain ⟨A1, c1, rfl⟩ := Kd.R_slice hR; have HR1 := Aside0.mk hR; have n2_ := Aside0.mk (below_step HB.out hv); clear hR HB hv; have HB := n2_; clear n2_) | ((with_reducible refine gate_dst (N := 17) rfl ?_); (refine gate_guard (by first | rfl | (go_simp; done)) ?_; refine Kd.R_lit k87 _ 87 ?hg (N := 17) ?hd (xs := sane5) (inner := [.int .i64 0, .int .i64 0, .int .i64 1, .int .i64 1, .int .i64 2, .int .i64 0, .int .i64 24, .int .i64 1, .int .i64 22, .int .i64 0]) (ok := fun _ => True) (okp := fun _ => True) ?hr ?hp (fun _ hk => hk) trivial (Below.refl _ _) (Nat.le_refl _) (by decide) ?_; (case hd => rfl); (case hg => rfl); (case hr => first | (go_simp; done) | (go_simp; rfl)); (case hp => exact (Reps.c2 (show Kd.M k87 _ _ _ (⟨0, 0⟩ : S87) [.int .i64 0, .int .i64 0] from (k87_mkM _ _ _ (⟨0, 0⟩ : S87))) (Reps.c2 (show Kd.M k87 _ _ _ (⟨1, 1⟩ : S87) [.int .i64 1, .int .i64 1] from (k87_mkM _ _ _ (⟨1, 1⟩ : S87))) (Reps.c2 (show Kd.M k87 _ _ _ (⟨2, 0⟩ : S87) [.int .i64 2, .int .i64 0] from (k87_mkM _ _ _ (⟨2, 0⟩ : S87))) (Reps.c2 (show Kd.M k87 _ _ _ (⟨24, 1⟩ : S87) [.int .i64 24, .int .i64 1] from (k87_mkM _ _ _ (⟨24, 1⟩ : S87))) (Reps.c2 (show Kd.M k87 _ _ _ (⟨22, 0⟩ : S87) [.int .i64 22, .int .i64 0] from (k87_mkM _ _ _ (⟨22, 0⟩ : S87))) (Reps.none _ _))))))); intro v5 wl ho hb hg_ hnew_; clear hg_ hnew_; obtain ⟨A5, c5, rfl⟩ := Kd.R_slice ho; have HO := Aside0.mk ho; have n1_ := Aside0.mk (Kd.R_below HR1.out hb); have n2_ := Aside0.mk (below_step HB.out hb); clear HB HR1; have HB := n2_; have HR1 := n1_; clear n1_ n2_; clear hb ho)) | (go_at_call 12; (obtain ⟨K5, hK5⟩ := sameEvents_ev sane5 (by decide); refine (incunablelaw03_SameEvents.calls K5 A1 c1 sane5 A5 c5 sane5 _ _ (Kd.R_reads' HR1.out).2.2 (Kd.R_reads' HR1.out).2.1 (Kd.R_reads' HO.out).2.2 (Kd.R_reads' HO.out).2.1 (hK5 K5 (Nat.le_refl _))).mono ?_; rintro e w5 ⟨rfl, m5, rfl⟩)))
  go_ret
  exact ⟨rfl, by repeat (first | (with_reducible first | exact HB.out | apply below_alloc | apply pw_below_drewN | apply below_drew1) | exact HB.out)⟩
end Go.Proofs.Ytlnhahnnjbfjdaa.Sane
namespace Go.Proofs.Ytlnhahnnjbfjdaa.Dec
open Go Go.RowKit Go.Proofs.YtlnhahnnjbfjdaaW.PrintWords Go.Proofs.YtlnhahnnjbfjdaaW.PrintLast Go.Proofs.YtlnhahnnjbfjdaaW.PrintMore Go.Proofs.Ytlnhahnnjbfjdaa.Aid Go.Proofs.Ytlnhahnnjbfjdaa.HandAid Go.Proofs.Ytlnhahnnjbfjdaa.Cod1 Go.Proofs.Ytlnhahnnjbfjdaa.Cod2 Go.Proofs.Ytlnhahnnjbfjdaa.Cod3 Go.Proofs.Ytlnhahnnjbfjdaa.Mod Go.Proofs.Ytlnhahnnjbfjdaa.Enc Go.Proofs.Ytlnhahnnjbfjdaa.Mods Go.Proofs.Ytlnhahnnjbfjdaa.EncAt Go.Proofs.Ytlnhahnnjbfjdaa.Put Go.Proofs.Ytlnhahnnjbfjdaa.End Go.Proofs.Ytlnhahnnjbfjdaa.Snc
/-- A decoder's state: how many bytes beyond the code were taken is a's business. -/
structure DS where
  kind : Int
  st : List Int
  low : Int
  high : Int
  code : List Int
  a : Nat
  value : Int
  ended : Bool
structure DS.ok (s : DS) : Prop where
  m : okModel s.kind s.st
  l : 0 ≤ s.low
  lh : s.low ≤ s.high
  h : s.high ≤ 4294967295
  n : s.low / 16777216 ≠ s.high / 16777216
  v0 : 0 ≤ s.value
  v1 : s.value ≤ 4294967295
  by_ : Bytes s.code
  len : s.code.length ≤ 1099511627776
  be : s.a - s.code.length ≤ 4
def DS.mid (s : DS) (i : Nat) : Int := midOf s.low s.high (likely s.kind (rd s.st i))
def DS.bit (s : DS) (i : Nat) : Int := if s.value ≤ s.mid i then 1 else 0
def DS.norm (s : DS) (i : Nat) : List Int × Int × Int := normE 4 (cutL s.low (s.mid i) (s.bit i)) (cutH s.high (s.mid i) (s.bit i))
/-- A decoder's cells. -/
def dec42 (kind : Int) (v : Value) (low high : Int) (vc : Value) (a value be : Int) (ended real : Bool) : Array Value := #[.int .i64 kind, v, .int .i64 2048, .int .i64 1792, .int .i64 1568, .int .i64 1372, .int .i64 1201, .int .i64 1051, .int .i64 920, .int .i64 805, .int .i64 705, .int .i64 617, .int .i64 540, .int .i64 473, .int .i64 414, .int .i64 363, .int .i64 318, .int .i64 279, .int .i64 245, .int .i64 215, .int .i64 189, .int .i64 166, .int .i64 146, .int .i64 128, .int .i64 112, .int .i64 98, .int .i64 86, .int .i64 76, .int .i64 67, .int .i64 59, .int .i64 52, .int .i64 46, .int .i64 41, .int .i64 36, .int .u64 low, .int .u64 high, vc, .int .i64 a, .int .u64 value, .int .i64 be, .bool ended, .bool real]
structure DecRow (W : World) (S : Nat → Prop) (g : Nat) (kind : Int) (A : Option Addr) (c : Nat) (st : List Int) (low high : Int) (vc : Value) (code : List Int) (a : Nat) (value : Int) (ended : Bool) : Prop where
  b : W.heap[g]? = some (.cells (dec42 kind (.slice A st.length c) low high vc a value ((a - code.length : Nat) : Int) ended true) 98 (0, 0))
  s : Kd.R (Kd.int .i64) 3 W 0 S (.slice A st.length c) st
  o : Kd.R (Kd.int .u8) 5 W 0 S vc code
  g : S g
section
variable {W W' : World} {S S' : Nat → Prop} {g : Nat} {kind : Int} {A : Option Addr} {c : Nat} {st : List Int} {low high : Int} {vc : Value} {code : List Int} {a : Nat} {value : Int} {ended : Bool}
theorem DecRow.kept (h : DecRow W S g kind A c st low high vc code a value ended) (hk : Mods W W' S') (hne : ∀ k, S k → ¬ S' k) : DecRow W' S g kind A c st low high vc code a value ended :=
  ⟨blk_kept h.b hk.kept (hne g h.g), Kd.R_kept h.s hk.kept hne, Kd.R_kept h.o hk.kept hne, h.g⟩
theorem DecRow.below (h : DecRow W S g kind A c st low high vc code a value ended) (hb : Below W.heap.size W W') : DecRow W' S g kind A c st low high vc code a value ended :=
  ⟨blk_below h.b hb, Kd.R_below h.s hb, Kd.R_below h.o hb, h.g⟩
theorem DecRow.drewN (h : DecRow W S g kind A c st low high vc code a value ended) (m : Nat) : DecRow (W.drewN m) S g kind A c st low high vc code a value ended := h.below (pw_below_drewN (Below.refl _ _) m)
theorem DecRow.drew (h : DecRow W S g kind A c st low high vc code a value ended) : DecRow W.drew S g kind A c st low high vc code a value ended := h.below (below_drew (Below.refl _ _))
theorem DecRow.mono (h : DecRow W S g kind A c st low high vc code a value ended) (hs : ∀ k, S k → S' k) : DecRow W S' g kind A c st low high vc code a value ended :=
  ⟨h.b, Kd.R_mono h.s hs, Kd.R_mono h.o hs, hs g h.g⟩
theorem DecRow.cell (h : DecRow W S g kind A c st low high vc code a value ended) {i : Nat} (hi : i < st.length) : ∃ b, A = some ⟨b, 0, none⟩ ∧ W.cell? ⟨b, i, none⟩ = some (.int .i64 (rd st i)) ∧ W.frozen? ⟨b, i, none⟩ = false ∧ b ≠ g := by
  obtain ⟨b, cap, hv, _, _, cells, hc⟩ := Kd.R_form h.s (by omega)
  injection hv with hA _ hcap
  subst hA hcap
  have h1 := Kd.R_cell (0 : Int) h.s (i : Int) (by omega) (by omega)
  have hne : b ≠ g := blk_ne hc h.b (by decide)
  exact ⟨b, rfl, h1.1, h1.2, hne⟩
theorem DecRow.put (h : DecRow W S g kind A c st low high vc code a value ended) (j : Nat) (u : Value) {kind' low' high' value' : Int} {a' : Nat} {ended' : Bool} (e : (dec42 kind (.slice A st.length c) low high vc a value ((a - code.length : Nat) : Int) ended true).setIfInBounds j u = dec42 kind' (.slice A st.length c) low' high' vc a' value' ((a' - code.length : Nat) : Int) ended' true) : DecRow (W.setCell ⟨g, j, none⟩ u) S g kind' A c st low' high' vc code a' value' ended' :=
  ⟨blk_put h.b j u e, Kd.R_set h.s h.b (by decide) _ _, Kd.R_set h.o h.b (by decide) _ _, h.g⟩
theorem DecRow.lost (h : DecRow W S g kind A c st low high vc code a value ended) (l' h' : Int) : DecRow ((W.setCell ⟨g, 34, none⟩ (.int .u64 l')).setCell ⟨g, 35, none⟩ (.int .u64 h')) S g kind A c st l' h' vc code a value ended :=
  DecRow.put (h.put (low' := l') 34 (.int .u64 l') rfl) 35 _ rfl
end
theorem dec_none_nil (w : World) : Calls Try.prog 62 #[.pointer none] w fun e w' => e = .returned (.bool true) ∧ w = w' := by
  go_enter Try.func62, Try.ntmps62
  go_wp2
  go_ret
  exact ⟨rfl, rfl⟩
end Go.Proofs.Ytlnhahnnjbfjdaa.Dec
namespace Go.Proofs.Ytlnhahnnjbfjdaa.Get
open Go Go.RowKit Go.Proofs.YtlnhahnnjbfjdaaW.PrintWords Go.Proofs.YtlnhahnnjbfjdaaW.PrintLast Go.Proofs.YtlnhahnnjbfjdaaW.PrintMore Go.Proofs.Ytlnhahnnjbfjdaa.Aid Go.Proofs.Ytlnhahnnjbfjdaa.HandAid Go.Proofs.Ytlnhahnnjbfjdaa.Cod1 Go.Proofs.Ytlnhahnnjbfjdaa.Cod2 Go.Proofs.Ytlnhahnnjbfjdaa.Cod3 Go.Proofs.Ytlnhahnnjbfjdaa.Mod Go.Proofs.Ytlnhahnnjbfjdaa.Enc Go.Proofs.Ytlnhahnnjbfjdaa.Mods Go.Proofs.Ytlnhahnnjbfjdaa.EncAt Go.Proofs.Ytlnhahnnjbfjdaa.Put Go.Proofs.Ytlnhahnnjbfjdaa.End Go.Proofs.Ytlnhahnnjbfjdaa.Snc Go.Proofs.Ytlnhahnnjbfjdaa.Dec
/-- A decoder in memory. -/
def DecAt (W : World) (S : Nat → Prop) (g : Nat) (s : DS) : Prop := ∃ A c vc, DecRow W S g s.kind A c s.st s.low s.high vc s.code s.a s.value s.ended
theorem DecAt.kept {W W' : World} {S S' : Nat → Prop} {g : Nat} {s : DS} (h : DecAt W S g s) (hk : Mods W W' S') (hne : ∀ k, S k → ¬ S' k) : DecAt W' S g s := by
  obtain ⟨A, c, vo, h⟩ := h
  exact ⟨A, c, vo, h.kept hk hne⟩
theorem DecAt.below {W W' : World} {S : Nat → Prop} {g : Nat} {s : DS} (h : DecAt W S g s) (hb : Below W.heap.size W W') : DecAt W' S g s := by
  obtain ⟨A, c, vo, h⟩ := h
  exact ⟨A, c, vo, h.below hb⟩
theorem DecAt.mono {W : World} {S S' : Nat → Prop} {g : Nat} {s : DS} (h : DecAt W S g s) (hs : ∀ k, S k → S' k) : DecAt W S' g s := by
  obtain ⟨A, c, vo, h⟩ := h
  exact ⟨A, c, vo, h.mono hs⟩
theorem get_nil (w : World) (i : Int) : Calls Try.prog 56 #[.pointer none, .int .i64 i] w fun e w' => e = .returned (.tuple #[.int .i64 0, .int .i64 7]) ∧ w = w' := by
  go_enter Try.func56, Try.ntmps56
  go_wp2_with (go_at_call 62; refine (dec_none_nil _).mono ?_; rintro e w' ⟨rfl, rfl⟩)
  go_ret2
  exact ⟨rfl, rfl⟩
end Go.Proofs.Ytlnhahnnjbfjdaa.Get
namespace Go.Proofs.Ytlnhahnnjbfjdaa.Nnl
open Go Go.RowKit Go.Proofs.YtlnhahnnjbfjdaaW.PrintWords Go.Proofs.YtlnhahnnjbfjdaaW.PrintLast Go.Proofs.YtlnhahnnjbfjdaaW.PrintMore Go.Proofs.Ytlnhahnnjbfjdaa.U Go.Proofs.Ytlnhahnnjbfjdaa.Aid Go.Proofs.Ytlnhahnnjbfjdaa.HandAid Go.Proofs.Ytlnhahnnjbfjdaa.Cod1 Go.Proofs.Ytlnhahnnjbfjdaa.Cod2 Go.Proofs.Ytlnhahnnjbfjdaa.Cod3 Go.Proofs.Ytlnhahnnjbfjdaa.Mod Go.Proofs.Ytlnhahnnjbfjdaa.Enc Go.Proofs.Ytlnhahnnjbfjdaa.Mods Go.Proofs.Ytlnhahnnjbfjdaa.EncAt Go.Proofs.Ytlnhahnnjbfjdaa.Put Go.Proofs.Ytlnhahnnjbfjdaa.End Go.Proofs.Ytlnhahnnjbfjdaa.Snc Go.Proofs.Ytlnhahnnjbfjdaa.Num Go.Proofs.Ytlnhahnnjbfjdaa.Evs Go.Proofs.Ytlnhahnnjbfjdaa.RefEvs Go.Proofs.Ytlnhahnnjbfjdaa.Sane Go.Proofs.Ytlnhahnnjbfjdaa.Dec Go.Proofs.Ytlnhahnnjbfjdaa.Get
theorem nput_nil (w : World) (base : Int) (nn : Bool) (N : Int) : Calls Try.prog 31 #[.pointer none, .int .i64 base, .agg #[.bool nn, .int .i64 N]] w fun e w' => e = .returned (.int .i64 7) ∧ Below w.heap.size w w' := by
  have hu := Try.underlying23
  go_enter Try.func31, Try.ntmps31
  go_wp2_with (fail)
  refine (enc_put_nil _ (-1) 0).mono ?_
  rintro e w2 ⟨rfl, rfl⟩
  go_wp2_with (fail)
  go_ret
  exact ⟨rfl, below_alloc (Below.refl _ _) _⟩
theorem nputid_nil (w : World) (base k id : Int) : Calls Try.prog 32 #[.pointer none, .int .i64 base, .int .i64 k, .int .i64 id] w fun e w' => e = .returned (.int .i64 7) ∧ w' = w := by
  go_enter Try.func32, Try.ntmps32
  go_wp2_with (fail)
  refine (enc_put_nil _ (-1) 0).mono ?_
  rintro e w2 ⟨rfl, rfl⟩
  go_wp2_with (fail)
  go_ret
  exact ⟨rfl, rfl⟩
theorem gret {W : World} {gz : Nat} {nn : Bool} {N err : Int} {tmps : Array Value} (hz : W.heap[gz]? = some (.cells #[.bool nn, .int .i64 N] 23 (0, 0))) (h2 : tmps.getD 4 undef = .pointer (some ⟨gz, 0, none⟩)) (h3 : tmps.getD 5 undef = .int .i64 err) :
    (results Try.f27 tmps).run Try.prog W = .ok (.tuple #[.agg #[.bool nn, .int .i64 N], .int .i64 err]) W := by
  have y0 : W.cell? ⟨gz, 0, none⟩ = some (.bool nn) := (blk_cell hz 0).trans rfl
  have y1 : W.cell? ⟨gz, 1, none⟩ = some (.int .i64 N) := (blk_cell hz 1).trans rfl
  have hu := Try.underlying23
  rw [results_cell_tmp rfl, h2, h3]
  go_simp
theorem nget_nil (w : World) (base : Int) : Calls Try.prog 27 #[.pointer none, .int .i64 base] w fun e w' => e = .returned (.tuple #[.agg #[.bool false, .int .i64 0], .int .i64 7]) ∧ Below w.heap.size w w' := by
  have hu := Try.underlying23
  go_enter Try.func27, Try.ntmps27
  go_wp2_with (fail)
  refine (get_nil _ (-1)).mono ?_
  rintro e w2 ⟨rfl, rfl⟩
  go_wp2_with (fail)
  exact bodyPost_ret (gret (heap_new w _) rfl rfl) rfl ⟨rfl, below_alloc (Below.refl _ _) _⟩
theorem ngetid_nil (w : World) (base k : Int) : Calls Try.prog 25 #[.pointer none, .int .i64 base, .int .i64 k] w fun e w' => e = .returned (.tuple #[.int .i64 0, .int .i64 7]) ∧ w' = w := by
  go_enter Try.func25, Try.ntmps25
  go_wp2_with (fail)
  refine (get_nil _ (-1)).mono ?_
  rintro e w2 ⟨rfl, rfl⟩
  go_wp2_with (fail)
  go_ret2
  exact ⟨rfl, rfl⟩
set_option maxHeartbeats 4000000 in
set_option maxRecDepth 100000 in
theorem nil_walk (w : World) (base : Int) (h0 : (Lit.int .i64 base).wf = true) (k : Int) (h1 : (Lit.int .i64 k).wf = true) (id : Int) (h2 : (Lit.int .i64 id).wf = true) (nn : Bool) (N : Int) (h3 : (Lit.int .i64 N).wf = true) :
    Calls Try.prog 7 #[.agg #[.int .i64 base, .int .i64 k, .int .i64 id, .bool nn, .int .i64 N]] w fun e w' => e = .returned (.bool true) ∧ Below w.heap.size w w' := by
  have hu := Try.underlying23
  have hu2 := Try.underlying65
  clear h0 h1 h2 h3
  obtain ⟨b1, hb1⟩ : ∃ x, w.heap.size = x := ⟨_, rfl⟩
  obtain ⟨W1, hW1⟩ : ∃ x, w.alloc (.cells #[.int .i64 base, .int .i64 k, .int .i64 id, .bool nn, .int .i64 N] 65) = x := ⟨_, rfl⟩
  have HB := Aside0.mk (show Below w.heap.size w W1 from hW1 ▸ below_alloc (Below.refl _ _) _)
  have HZ := Aside0.mk (show W1.heap[b1]? = some (.cells #[.int .i64 base, .int .i64 k, .int .i64 id, .bool nn, .int .i64 N] 65 (0, 0)) from hW1 ▸ hb1 ▸ heap_new w _)
  have c0 : W1.cell? ⟨b1, 0, none⟩ = some (.int .i64 base) := (blk_cell HZ.out 0).trans rfl
  have c1 : W1.cell? ⟨b1, 1, none⟩ = some (.int .i64 k) := (blk_cell HZ.out 1).trans rfl
  have c2 : W1.cell? ⟨b1, 2, none⟩ = some (.int .i64 id) := (blk_cell HZ.out 2).trans rfl
  have c3 : W1.cell? ⟨b1, 3, none⟩ = some (.bool nn) := (blk_cell HZ.out 3).trans rfl
  have c4 : W1.cell? ⟨b1, 4, none⟩ = some (.int .i64 N) := (blk_cell HZ.out 4).trans rfl
  have d0 : (W1.alloc (.cells #[.bool false, .int .i64 0] 23)).cell? ⟨b1, 0, none⟩ = some (.int .i64 base) := (blk_cell (blk_alloc HZ.out _) 0).trans rfl
  have d1 : (W1.alloc (.cells #[.bool false, .int .i64 0] 23)).cell? ⟨b1, 1, none⟩ = some (.int .i64 k) := (blk_cell (blk_alloc HZ.out _) 1).trans rfl
  have d2 : (W1.alloc (.cells #[.bool false, .int .i64 0] 23)).cell? ⟨b1, 2, none⟩ = some (.int .i64 id) := (blk_cell (blk_alloc HZ.out _) 2).trans rfl
  have d3 : (W1.alloc (.cells #[.bool false, .int .i64 0] 23)).cell? ⟨b1, 3, none⟩ = some (.bool nn) := (blk_cell (blk_alloc HZ.out _) 3).trans rfl
  have d4 : (W1.alloc (.cells #[.bool false, .int .i64 0] 23)).cell? ⟨b1, 4, none⟩ = some (.int .i64 N) := (blk_cell (blk_alloc HZ.out _) 4).trans rfl
  go_enter Try.func7, Try.ntmps7
  go_wp2_with (fail)
  go_region
  obtain ⟨b2, hb2⟩ : ∃ x, W1.heap.size = x := ⟨_, rfl⟩
  obtain ⟨W2, hW2⟩ : ∃ x, (W1.alloc (.cells #[.bool nn, .int .i64 N] 23)).drew = x := ⟨_, rfl⟩
  have HB2 := Aside0.mk (show Below w.heap.size w W2 from hW2 ▸ below_drew (below_alloc HB.out _))
  have HZ2 := Aside0.mk (show W2.heap[b2]? = some (.cells #[.bool nn, .int .i64 N] 23 (0, 0)) from hW2 ▸ hb2 ▸ heap_new W1 _)
  have e0 : W2.cell? ⟨b2, 0, none⟩ = some (.bool nn) := (blk_cell HZ2.out 0).trans rfl
  have e1 : W2.cell? ⟨b2, 1, none⟩ = some (.int .i64 N) := (blk_cell HZ2.out 1).trans rfl
  rw [hW2, hb2]
  clear hW2 hb2 c0 c1 c2 c3 c4 d0 d1 d2 d3 d4 HB HZ hW1 hb1
  go_wp2_with (fail)
  refine (nput_nil _ base nn N).mono ?_
  rintro e w3 ⟨rfl, hb3⟩
  have HB3 := Aside0.mk (below_then HB2.out HB2.out.size hb3)
  clear hb3
  go_wp2_with (fail)
  refine (nputid_nil _ base k id).mono ?_
  rintro e w4 ⟨rfl, rfl⟩
  go_wp2_with (fail)
  refine (nget_nil _ base).mono ?_
  rintro e w5 ⟨rfl, hb5⟩
  have HB5 := Aside0.mk (below_then HB3.out HB3.out.size hb5)
  clear hb5
  go_wp2_with (fail)
  refine (ngetid_nil _ base k).mono ?_
  rintro e w6 ⟨rfl, rfl⟩
  go_wp2_with (fail)
  refine (sane_calls _).mono ?_
  rintro e w7 ⟨rfl, hb7⟩
  have HB7 := Aside0.mk (below_then (below_alloc HB5.out (.cells #[.bool false, .int .i64 0] 23)) (below_alloc HB5.out (.cells #[.bool false, .int .i64 0] 23)).size hb7)
  go_wp2_with (fail)
  go_ret
  exact ⟨rfl, HB7.out⟩
end Go.Proofs.Ytlnhahnnjbfjdaa.Nnl
