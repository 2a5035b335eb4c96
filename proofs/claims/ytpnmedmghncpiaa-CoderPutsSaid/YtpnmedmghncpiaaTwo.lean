import Derived.Test.YtpnmedmghncpiaaAid
import Derived.Test.YtpnmedmghncpiaaHandAid
import Derived.Test.YtpnmedmghncpiaaCod1
import Derived.Test.YtpnmedmghncpiaaCod2
import Derived.Test.YtpnmedmghncpiaaCod3
import Derived.Test.YtpnmedmghncpiaaMod
import Derived.Test.YtpnmedmghncpiaaEnc
import Derived.Test.YtpnmedmghncpiaaMods
import Derived.Test.YtpnmedmghncpiaaEncAt
import Derived.Test.YtpnmedmghncpiaaPut
import Derived.Test.YtpnmedmghncpiaaEnd
import Derived.Test.YtpnmedmghncpiaaEncode
import Derived.Test.YtpnmedmghncpiaaRefAt
import Derived.Test.YtpnmedmghncpiaaRefPut
import Derived.Test.YtpnmedmghncpiaaRefEnd
-- needs: Aid HandAid Cod1 Cod2 Cod3 Mod Enc Mods EncAt Put End Encode RefAt RefPut RefEnd
namespace Go.Proofs.Ytpnmedmghncpiaa.Two
open Go Go.RowKit Go.Proofs.YtpnmedmghncpiaaW.PrintWords Go.Proofs.YtpnmedmghncpiaaW.PrintLast Go.Proofs.YtpnmedmghncpiaaW.PrintMore Go.Proofs.Ytpnmedmghncpiaa.Aid Go.Proofs.Ytpnmedmghncpiaa.HandAid Go.Proofs.Ytpnmedmghncpiaa.Cod1 Go.Proofs.Ytpnmedmghncpiaa.Cod2 Go.Proofs.Ytpnmedmghncpiaa.Cod3 Go.Proofs.Ytpnmedmghncpiaa.Mod Go.Proofs.Ytpnmedmghncpiaa.Enc Go.Proofs.Ytpnmedmghncpiaa.Mods Go.Proofs.Ytpnmedmghncpiaa.EncAt Go.Proofs.Ytpnmedmghncpiaa.Put Go.Proofs.Ytpnmedmghncpiaa.End Go.Proofs.Ytpnmedmghncpiaa.Encode Go.Proofs.Ytpnmedmghncpiaa.RefAt Go.Proofs.Ytpnmedmghncpiaa.RefPut Go.Proofs.Ytpnmedmghncpiaa.RefEnd
set_option linter.unusedVariables false
set_option linter.unusedSimpArgs false
/-- The program's encoder (at g, in the state s) and the reference's (at h, in the state t) side by side; F: blocks that are neither's. -/
structure Two (w : World) (g h : Nat) (s t : ES) (F : Nat → Prop) (W : World) : Prop where
  ex : ∃ S1 S2 : Nat → Prop, EncAt W S1 g s ∧ RefAt W S2 h t ∧ (∀ k, S1 k → w.heap.size ≤ k ∧ k < W.heap.size) ∧ (∀ k, S2 k → w.heap.size ≤ k ∧ k < W.heap.size) ∧ (∀ k, S1 k → ¬ S2 k) ∧ (∀ k, F k → ¬ S1 k ∧ ¬ S2 k ∧ k < W.heap.size)
  b : Below w.heap.size w W
  sok : s.ok
  tok : t.ok
section
variable {w W W' : World} {g h : Nat} {s t : ES} {F F' : Nat → Prop}
theorem Two.below (H : Two w g h s t F W) (hb : Below W.heap.size W W') : Two w g h s t F W' := by
  obtain ⟨⟨S1, S2, h1, h2, h3, h4, h5, h6⟩, b, sok, tok⟩ := H
  exact ⟨⟨S1, S2, h1.below hb, h2.below hb, fun k hk => ⟨(h3 k hk).1, Nat.lt_of_lt_of_le (h3 k hk).2 hb.size⟩, fun k hk => ⟨(h4 k hk).1, Nat.lt_of_lt_of_le (h4 k hk).2 hb.size⟩, h5, fun k hk => ⟨(h6 k hk).1, (h6 k hk).2.1, Nat.lt_of_lt_of_le (h6 k hk).2.2 hb.size⟩⟩, below_then b b.size hb, sok, tok⟩
theorem Two.less (H : Two w g h s t F W) (hF : ∀ k, F' k → F k) : Two w g h s t F' W := by
  obtain ⟨⟨S1, S2, h1, h2, h3, h4, h5, h6⟩, b, sok, tok⟩ := H
  exact ⟨⟨S1, S2, h1, h2, h3, h4, h5, fun k hk => h6 k (hF k hk)⟩, b, sok, tok⟩
/-- A new block is neither's. -/
theorem Two.box (H : Two w g h s t F W) (o : Obj) : Two w g h s t (fun k => F k ∨ k = W.heap.size) (W.alloc o) := by
  obtain ⟨⟨S1, S2, h1, h2, h3, h4, h5, h6⟩, b, sok, tok⟩ := H
  have hb : Below W.heap.size W (W.alloc o) := below_alloc (Below.refl _ _) o
  refine ⟨⟨S1, S2, h1.below hb, h2.below hb, fun k hk => ⟨(h3 k hk).1, Nat.lt_of_lt_of_le (h3 k hk).2 hb.size⟩, fun k hk => ⟨(h4 k hk).1, Nat.lt_of_lt_of_le (h4 k hk).2 hb.size⟩, h5, fun k hk => ?_⟩, below_then b b.size hb, sok, tok⟩
  rcases hk with hk | rfl
  · exact ⟨(h6 k hk).1, (h6 k hk).2.1, Nat.lt_of_lt_of_le (h6 k hk).2.2 hb.size⟩
  · exact ⟨fun hk => by have := (h3 _ hk).2; omega, fun hk => by have := (h4 _ hk).2; omega, by simp⟩
theorem Two.put (H : Two w g h s t F W) (i bit : Int) (hlen : s.out.length ≤ 1099511627776) :
    Calls Try.prog 24 #[.pointer (some ⟨g, 0, none⟩), .int .i64 i, .int .i64 bit] W fun e W' => e = .returned (.int .i64 (s.err i bit)) ∧ Two w g h (s.putI i bit) t F W' ∧ ∀ k, F k → W'.heap[k]? = W.heap[k]? := by
  obtain ⟨⟨S1, S2, h1, h2, h3, h4, h5, h6⟩, b, sok, tok⟩ := H
  refine (put_calls W S1 g s i bit h1 sok hlen).mono ?_
  rintro e W' ⟨he, hE, hM⟩
  refine ⟨he, ⟨⟨_, S2, hE, h2.kept hM (fun k hk hk1 => h5 k hk1 hk), fun k hk => ⟨?_, hk.2⟩, fun k hk => ⟨(h4 k hk).1, Nat.lt_of_lt_of_le (h4 k hk).2 hM.size⟩, fun k hk hk2 => ?_, fun k hk => ⟨fun hk1 => ?_, (h6 k hk).2.1, Nat.lt_of_lt_of_le (h6 k hk).2.2 hM.size⟩⟩, below_mods b hM (fun k hk => (h3 k hk).1) b.size, ES.putI_ok sok _ _, tok⟩, fun k hk => hM.block k (h6 k hk).2.2 (h6 k hk).1⟩
  · rcases hk.1 with hk | hk
    · exact (h3 k hk).1
    · exact Nat.le_trans b.size hk
  · rcases hk.1 with hk | hk
    · exact h5 k hk hk2
    · have := (h4 k hk2).2
      omega
  · rcases hk1.1 with hk1 | hk1
    · exact (h6 k hk).1 hk1
    · have := (h6 k hk).2.2
      omega
theorem Two.rput (H : Two w g h s t F W) (i bit : Int) (hlen : t.out.length ≤ 1099511627776) :
    Calls Try.prog 25 #[.pointer (some ⟨h, 0, none⟩), .int .i64 i, .int .i64 bit] W fun e W' => e = .returned (.int .i64 (t.err i bit)) ∧ Two w g h s (t.putI i bit) F W' ∧ ∀ k, F k → W'.heap[k]? = W.heap[k]? := by
  obtain ⟨⟨S1, S2, h1, h2, h3, h4, h5, h6⟩, b, sok, tok⟩ := H
  refine (ref_put_calls W S2 h t i bit h2 tok hlen).mono ?_
  rintro e W' ⟨he, hE, hM⟩
  refine ⟨he, ⟨⟨S1, _, h1.kept hM (fun k hk hk1 => h5 k hk hk1), hE, fun k hk => ⟨(h3 k hk).1, Nat.lt_of_lt_of_le (h3 k hk).2 hM.size⟩, fun k hk => ⟨?_, hk.2⟩, fun k hk hk2 => ?_, fun k hk => ⟨(h6 k hk).1, fun hk1 => ?_, Nat.lt_of_lt_of_le (h6 k hk).2.2 hM.size⟩⟩, below_mods b hM (fun k hk => (h4 k hk).1) b.size, sok, ES.putI_ok tok _ _⟩, fun k hk => hM.block k (h6 k hk).2.2 (h6 k hk).2.1⟩
  · rcases hk.1 with hk | hk
    · exact (h4 k hk).1
    · exact Nat.le_trans b.size hk
  · rcases hk2.1 with hk2 | hk2
    · exact h5 k hk hk2
    · have := (h3 k hk).2
      omega
  · rcases hk1.1 with hk1 | hk1
    · exact (h6 k hk).2.1 hk1
    · have := (h6 k hk).2.2
      omega
theorem Two.end_ (H : Two w g h s t F W) (hlen : s.out.length ≤ 1099511627880) : Calls Try.prog 26 #[.pointer (some ⟨g, 0, none⟩)] W (EndPost W s.end_) := by
  obtain ⟨⟨S1, S2, h1, h2, h3, h4, h5, h6⟩, b, sok, tok⟩ := H
  exact end_calls W S1 g s h1 sok hlen
theorem Two.rend (H : Two w g h s t F W) (hlen : t.out.length ≤ 1099511627880) : Calls Try.prog 27 #[.pointer (some ⟨h, 0, none⟩)] W (EndPost W t.end_) := by
  obtain ⟨⟨S1, S2, h1, h2, h3, h4, h5, h6⟩, b, sok, tok⟩ := H
  exact ref_end_calls W S2 h t h2 tok hlen
theorem Two.model (H : Two w g h s t F W) : Calls Try.prog 28 #[.pointer (some ⟨g, 0, none⟩)] W (ModelPost W s.kind s.st) := by
  obtain ⟨⟨S1, S2, h1, h2, h3, h4, h5, h6⟩, b, sok, tok⟩ := H
  exact model_calls W S1 g s h1 sok
theorem Two.rmodel (H : Two w g h s t F W) : Calls Try.prog 29 #[.pointer (some ⟨h, 0, none⟩)] W (ModelPost W t.kind t.st) := by
  obtain ⟨⟨S1, S2, h1, h2, h3, h4, h5, h6⟩, b, sok, tok⟩ := H
  exact ref_model_calls W S2 h t h2 tok
theorem Two.new {W1 W2 : World} (hb : Below w.heap.size w W) (h1 : EncAt W1 (Since W.heap.size W1) g s) (hb1 : Below W.heap.size W W1) (h2 : RefAt W2 (Since W1.heap.size W2) h t) (hb2 : Below W1.heap.size W1 W2) (sok : s.ok) (tok : t.ok) : Two w g h s t (fun _ => False) W2 :=
  ⟨⟨_, _, h1.below hb2, h2, fun k hk => ⟨Nat.le_trans hb.size hk.1, Nat.lt_of_lt_of_le hk.2 hb2.size⟩, fun k hk => ⟨Nat.le_trans (Nat.le_trans hb.size hb1.size) hk.1, hk.2⟩, fun k hk hk2 => by have := hk.2; have := hk2.1; omega, fun k hk => hk.elim⟩, below_then (below_then hb hb.size hb1) (Nat.le_trans hb.size hb1.size) hb2, sok, tok⟩
end
end Go.Proofs.Ytpnmedmghncpiaa.Two
