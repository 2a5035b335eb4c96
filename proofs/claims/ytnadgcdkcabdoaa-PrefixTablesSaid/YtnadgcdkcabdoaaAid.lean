import Derived.Test.YtnadgcdkcabdoaaWWords
import Derived.Test.YtnadgcdkcabdoaaWMore
import Derived.RowKit
import Derived.Laws.BitsLemmas
namespace Go.Proofs.Ytnadgcdkcabdoaa.Aid
open Go Go.RowKit Go.Proofs.YtnadgcdkcabdoaaW.PrintWords Go.Proofs.YtnadgcdkcabdoaaW.PrintLast Go.Proofs.YtnadgcdkcabdoaaW.PrintMore

theorem wrap_id {n : Int} (h : -9223372036854775808 ≤ n) (h' : n ≤ 9223372036854775807) : wrap64 n = n := by
  unfold wrap64; omega
theorem tdiv_id {a b : Int} (h : 0 ≤ a) : Int.tdiv a b = a / b := Int.tdiv_eq_ediv_of_nonneg h
theorem tmod_id {a b : Int} (h : 0 ≤ a) : Int.tmod a b = a % b := Int.tmod_eq_emod_of_nonneg h
theorem wf_u8 {x : Int} (h : (Lit.int .u8 x).wf = true) : 0 ≤ x ∧ x ≤ 255 := by
  have h1 : (decide (IntKind.u8.min ≤ x) && decide (x ≤ IntKind.u8.max)) = true := h
  rw [show IntKind.u8.min = 0 from by decide, show IntKind.u8.max = 255 from by decide] at h1
  simpa using h1
theorem wf_i64 {x : Int} (h : (Lit.int .i64 x).wf = true) : -9223372036854775808 ≤ x ∧ x ≤ 9223372036854775807 := by
  have h1 : (decide (IntKind.i64.min ≤ x) && decide (x ≤ IntKind.i64.max)) = true := h
  rw [show IntKind.i64.min = -9223372036854775808 from by decide, show IntKind.i64.max = 9223372036854775807 from by decide] at h1
  simpa using h1
theorem ev_succ {α : Type} {g : Nat → Option α} {r : α} (h : Ev (fun k => g (k + 1)) r) : Ev g r := Ev.step (fun _ => rfl) h
theorem ev_pos {α : Type} {c : Prop} [Decidable c] {a b : Nat → Option α} {r : α} (hc : c) (h : Ev a r) : Ev (fun k => if c then a k else b k) r :=
  Ev.congr (fun _ => if_pos hc) h
theorem ev_neg {α : Type} {c : Prop} [Decidable c] {a b : Nat → Option α} {r : α} (hc : ¬ c) (h : Ev b r) : Ev (fun k => if c then a k else b k) r :=
  Ev.congr (fun _ => if_neg hc) h
theorem ev_some {α β : Type} {f : Nat → α → Option β} {a : α} {r : β} (h : Ev (fun n => f n a) r) : Ev (fun n => (some a).bind (f n)) r := h
theorem ev_bind {α β : Type} {g : Nat → Option α} {f : Nat → α → Option β} {a : α} {r : β} (h : Ev g a) (k : Ev (fun n => f n a) r) : Ev (fun n => (g n).bind (f n)) r := Ev.bind h k
theorem ev_const {α : Type} {o : Option α} {r : α} (h : o = some r) : Ev (fun _ => o) r := ⟨0, fun _ _ => h⟩
theorem ev_pure {α β : Type} {o : Option α} {f : Nat → α → Option β} {a : α} {r : β} (h : o = some a) (k : Ev (fun n => f n a) r) : Ev (fun n => o.bind (f n)) r := ev_bind (ev_const h) k
theorem ev_eq {α : Type} {g : Nat → Option α} {r r' : α} (h : Ev g r) (e : r = r') : Ev g r' := e ▸ h
theorem ev_all {α : Type} {g : Nat → Option α} {r : α} {K : Nat} (h : ∀ k, K < k → g k = some r) : Ev g r := ⟨K + 1, fun k hk => h k (by omega)⟩

/-- A list of bytes. -/
def Bytes (l : List Int) : Prop := ∀ x ∈ l, 0 ≤ x ∧ x ≤ 255
theorem bytes_of {l : List Int} (h : ∀ x ∈ l, (Lit.int .u8 x).wf = true) : Bytes l := fun x hx => wf_u8 (h x hx)
theorem rd_at {l : List Int} {i : Nat} (h : i < l.length) : rd l (i : Int) = l[i] := by
  simp [rd, List.getD_eq_getElem?_getD, List.getElem?_eq_getElem h]
theorem bytes_rd {l : List Int} (h : Bytes l) {i : Nat} (hi : i < l.length) : 0 ≤ rd l (i : Int) ∧ rd l (i : Int) ≤ 255 := by
  rw [rd_at hi]; exact h _ (List.getElem_mem hi)
theorem drop_rd {l : List Int} {i : Nat} (h : i < l.length) : l.drop i = rd l (i : Int) :: l.drop (i + 1) := by
  rw [rd_at h]; exact List.drop_eq_getElem_cons h
theorem toByte {x : Int} (h : 0 ≤ x ∧ x ≤ 255) : ((UInt8.ofNat x.toNat).toNat : Int) = x := by
  have : x.toNat < 256 := by omega
  simp [UInt8.toNat_ofNat', Nat.mod_eq_of_lt this]
  omega
theorem strOfNums_inj {a b : List Int} (ha : Bytes a) (hb : Bytes b) (h : strOfNums a = strOfNums b) : a = b := by
  have h1 : a.map (fun n => UInt8.ofNat n.toNat) = b.map (fun n => UInt8.ofNat n.toNat) := by
    simpa [strOfNums] using h
  have h2 := congrArg (List.map fun b : UInt8 => (b.toNat : Int)) h1
  simp only [List.map_map] at h2
  have e : ∀ l : List Int, Bytes l → l.map ((fun b : UInt8 => (b.toNat : Int)) ∘ fun n => UInt8.ofNat n.toNat) = l := by
    intro l hl
    conv => rhs; rw [← List.map_id l]
    exact List.map_congr_left fun x hx => toByte (hl x hx)
  rwa [e a ha, e b hb] at h2
theorem same_self (a : List Int) : ((strOfNums a).toList == (strOfNums a).toList) = true := by simp
theorem bytes_rdI {l : List Int} (h : Bytes l) {i : Int} (h0 : 0 ≤ i) (hi : i < l.length) : 0 ≤ rd l i ∧ rd l i ≤ 255 := by
  obtain ⟨j, rfl⟩ : ∃ j : Nat, i = (j : Int) := ⟨i.toNat, by omega⟩
  exact bytes_rd h (by omega)
theorem and_one {x : Int} (h : 0 ≤ x) (h' : x < 256) : Go.bits .and .u8 x 1 = x % 2 := bits_mask .u8 8 (by decide) wraps_u8 1 (by decide) x h h'
theorem or_add (i : Nat) {x y : Int} (hx : 0 ≤ x) (h : x % 2 ^ i = 0) (hx' : x < 256) (hy : 0 ≤ y) (h' : y < 2 ^ i) (hy' : y < 256) : Go.bits .or .u8 x y = x + y :=
  bits_join .u8 8 (by decide) wraps_u8 i x y hx h hx' hy h' hy'
theorem shl_u8 {x y : Int} (hx : 0 ≤ x) (hy : 0 ≤ y) (hy' : y ≤ 8) (h : x * 2 ^ y.toNat < 256) : shl .u8 x y = x * 2 ^ y.toNat := by
  unfold shl
  rw [show min y.toNat IntKind.u8.bits = y.toNat from Nat.min_eq_left (show y.toNat ≤ 8 by omega)]
  exact wraps_u8 _ (Int.mul_nonneg hx (Int.pow_nonneg (by decide))) h
theorem shr_u8 {x y : Int} (hy : 0 ≤ y) (hy' : y ≤ 8) : shr .u8 x y = x / 2 ^ y.toNat := by
  unfold shr
  rw [show min y.toNat IntKind.u8.bits = y.toNat from Nat.min_eq_left (show y.toNat ≤ 8 by omega)]
theorem rd_nonneg_out {l : List Int} {i : Int} (h : l.length ≤ i) : rd l i = 0 := by
  unfold rd
  rw [List.getD_eq_getElem?_getD, List.getElem?_eq_none (by omega)]
  rfl
theorem rd_mem {l : List Int} {i : Int} (h0 : 0 ≤ i) (h : i < l.length) : rd l i ∈ l := by
  obtain ⟨j, rfl⟩ : ∃ j : Nat, i = (j : Int) := ⟨i.toNat, by omega⟩
  rw [rd_at (by omega)]
  exact List.getElem_mem _
theorem exists_rd {l : List Int} {x : Int} (h : x ∈ l) : ∃ i : Nat, i < l.length ∧ rd l (i : Int) = x := by
  obtain ⟨i, hi, rfl⟩ := List.getElem_of_mem h
  exact ⟨i, hi, rd_at hi⟩
theorem rd_range_map {m : Nat} (f : Nat → Int) {i : Nat} (h : i < m) : rd ((List.range m).map f) (i : Int) = f i := by
  rw [rd_at (by simpa using h)]
  simp
theorem set_range_map {m : Nat} (f g : Nat → Int) (i : Nat) (v : Int) (_ : i < m) (hv : g i = v) (h : ∀ j, j < m → j ≠ i → f j = g j) : ((List.range m).map f).set i v = (List.range m).map g := by
  apply List.ext_getElem
  · simp
  intro j h1 h2
  simp at h1 h2
  rw [List.getElem_set]
  by_cases e : i = j
  · subst e; simp [hv]
  · rw [if_neg e]; simp [h j h1 (fun x => e x.symm)]
/-- The bit i of bytes. -/
def bitOf (b : List Int) (i : Int) : Int := rd b (i / 8) / 2 ^ (7 - i % 8).toNat % 2
theorem bitOf_range (b : List Int) (i : Int) : 0 ≤ bitOf b i ∧ bitOf b i ≤ 1 := by unfold bitOf; omega
end Go.Proofs.Ytnadgcdkcabdoaa.Aid
