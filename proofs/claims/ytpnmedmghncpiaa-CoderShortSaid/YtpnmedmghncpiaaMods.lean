import Derived.Test.YtpnmedmghncpiaaAid
import Derived.Test.YtpnmedmghncpiaaHandAid
-- needs: Aid HandAid
namespace Go.Proofs.Ytpnmedmghncpiaa.Mods
open Go Go.RowKit Go.Proofs.YtpnmedmghncpiaaW.PrintWords Go.Proofs.YtpnmedmghncpiaaW.PrintLast Go.Proofs.YtpnmedmghncpiaaW.PrintMore Go.Proofs.Ytpnmedmghncpiaa.Aid Go.Proofs.Ytpnmedmghncpiaa.HandAid
set_option linter.unusedVariables false
set_option linter.unusedSimpArgs false
/-- From w to W nothing has turned but the blocks of S, and what is new. -/
structure Mods (w W : World) (S : Nat → Prop) : Prop where
  os : W.os = w.os
  tape : W.tape = w.tape
  output : W.output = w.output
  size : w.heap.size ≤ W.heap.size
  block : ∀ i, i < w.heap.size → ¬ S i → W.heap[i]? = w.heap[i]?
section
variable {w W W2 : World} {S S2 S' : Nat → Prop}
theorem Mods.refl (w : World) (S : Nat → Prop) : Mods w w S := ⟨rfl, rfl, rfl, Nat.le_refl _, fun _ _ _ => rfl⟩
theorem Mods.kept (h : Mods w W S) : Kept w W S := ⟨h.size, h.block⟩
theorem Mods.of_below (h : Below w.heap.size w W) (S : Nat → Prop) : Mods w W S := ⟨h.os, h.tape, h.output, h.size, fun i hi _ => h.block i hi⟩
theorem Mods.mono (h : Mods w W S) (hs : ∀ k, S k → S' k) : Mods w W S' := ⟨h.os, h.tape, h.output, h.size, fun i hi hn => h.block i hi (fun hk => hn (hs i hk))⟩
theorem Mods.then_ (h : Mods w W S) (k : Mods W W2 S2) (hs : ∀ k, S2 k → S k ∨ w.heap.size ≤ k) : Mods w W2 S :=
  ⟨k.os.trans h.os, k.tape.trans h.tape, k.output.trans h.output, Nat.le_trans h.size k.size, fun i hi hn => (k.block i (Nat.lt_of_lt_of_le hi h.size) (fun h2 => (hs i h2).elim hn (fun h3 => by omega))).trans (h.block i hi hn)⟩
theorem Mods.of_grown {row : Option Nat} (hg : W.grownBy W2 row) (h : Mods w W S) (hr : ∀ k, row = some k → S k ∨ w.heap.size ≤ k) : Mods w W2 S :=
  h.then_ (S2 := fun k => row = some k) ⟨hg.os, hg.tape, hg.output, hg.size, fun i hi hn => hg.block i hi (fun he => hn he.symm)⟩ hr
theorem Mods.below (h : Mods w W S) (hb : Below W.heap.size W W2) : Mods w W2 S := h.then_ (Mods.of_below hb (fun _ => False)) (fun _ hk => hk.elim)
theorem Mods.alloc (h : Mods w W S) (o : Obj) : Mods w (W.alloc o) S := h.below (below_alloc (Below.refl _ _) o)
theorem Mods.drew (h : Mods w W S) : Mods w W.drew S := h.below (below_drew (Below.refl _ _))
theorem Mods.drewN (h : Mods w W S) (m : Nat) : Mods w (W.drewN m) S := h.below (pw_below_drewN (Below.refl _ _) m)
theorem Mods.setCell (h : Mods w W S) {p : Addr} (hp : S p.block ∨ w.heap.size ≤ p.block) (u : Value) : Mods w (W.setCell p u) S :=
  h.then_ (S2 := fun k => k = p.block) ⟨rfl, rfl, rfl, by simp [World.setCell], fun i _ hn => Below.heap_setCell W p u i hn⟩ (fun k hk => by rw [hk]; exact hp)
/-- What turns lies from B on. -/
theorem Mods.toBelow {B : Nat} (h : Mods w W S) (hs : ∀ k, S k → B ≤ k) (hB : B ≤ w.heap.size) : Below B w W :=
  ⟨h.os, h.tape, h.output, h.size, fun i hi => h.block i (by omega) (fun hk => by have := hs i hk; omega)⟩
theorem below_mods {B : Nat} {w0 : World} (hb : Below B w0 w) (h : Mods w W S) (hs : ∀ k, S k → B ≤ k) (hB : B ≤ w.heap.size) : Below B w0 W := hb.trans (h.toBelow hs hB)
theorem blk_mods {g : Nat} {o : Obj} (hb : w.heap[g]? = some o) (h : Mods w W S) (hne : ¬ S g) : W.heap[g]? = some o := (h.block g (blk_lt hb) hne).trans hb
end
end Go.Proofs.Ytpnmedmghncpiaa.Mods
