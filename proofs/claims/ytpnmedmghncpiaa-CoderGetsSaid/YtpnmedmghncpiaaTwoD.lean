import Derived.Test.YtpnmedmghncpiaaAid
import Derived.Test.YtpnmedmghncpiaaHandAid
import Derived.Test.YtpnmedmghncpiaaCod1
import Derived.Test.YtpnmedmghncpiaaCod2
import Derived.Test.YtpnmedmghncpiaaCod3
import Derived.Test.YtpnmedmghncpiaaMod
import Derived.Test.YtpnmedmghncpiaaEnc
import Derived.Test.YtpnmedmghncpiaaMods
import Derived.Test.YtpnmedmghncpiaaEncAt
import Derived.Test.YtpnmedmghncpiaaPut
import Derived.Test.YtpnmedmghncpiaaEnd
import Derived.Test.YtpnmedmghncpiaaEncode
import Derived.Test.YtpnmedmghncpiaaRefAt
import Derived.Test.YtpnmedmghncpiaaRefPut
import Derived.Test.YtpnmedmghncpiaaRefEnd
import Derived.Test.YtpnmedmghncpiaaDec
import Derived.Test.YtpnmedmghncpiaaGet
import Derived.Test.YtpnmedmghncpiaaDecNew
import Derived.Test.YtpnmedmghncpiaaRDec
import Derived.Test.YtpnmedmghncpiaaRDecNew
-- needs: Aid HandAid Cod1 Cod2 Cod3 Mod Enc Mods EncAt Put End Encode RefAt RefPut RefEnd Dec Get DecNew RDec RDecNew
namespace Go.Proofs.Ytpnmedmghncpiaa.TwoD
open Go Go.RowKit Go.Proofs.YtpnmedmghncpiaaW.PrintWords Go.Proofs.YtpnmedmghncpiaaW.PrintLast Go.Proofs.YtpnmedmghncpiaaW.PrintMore Go.Proofs.Ytpnmedmghncpiaa.Aid Go.Proofs.Ytpnmedmghncpiaa.HandAid Go.Proofs.Ytpnmedmghncpiaa.Cod1 Go.Proofs.Ytpnmedmghncpiaa.Cod2 Go.Proofs.Ytpnmedmghncpiaa.Cod3 Go.Proofs.Ytpnmedmghncpiaa.Mod Go.Proofs.Ytpnmedmghncpiaa.Enc Go.Proofs.Ytpnmedmghncpiaa.Mods Go.Proofs.Ytpnmedmghncpiaa.EncAt Go.Proofs.Ytpnmedmghncpiaa.Put Go.Proofs.Ytpnmedmghncpiaa.End Go.Proofs.Ytpnmedmghncpiaa.Encode Go.Proofs.Ytpnmedmghncpiaa.RefAt Go.Proofs.Ytpnmedmghncpiaa.RefPut Go.Proofs.Ytpnmedmghncpiaa.RefEnd Go.Proofs.Ytpnmedmghncpiaa.Dec Go.Proofs.Ytpnmedmghncpiaa.Get Go.Proofs.Ytpnmedmghncpiaa.DecNew Go.Proofs.Ytpnmedmghncpiaa.RDec Go.Proofs.Ytpnmedmghncpiaa.RDecNew
set_option linter.unusedVariables false
set_option linter.unusedSimpArgs false
/-- The program's decoder (at g, in the state s) and the reference's (at h, in the state t) side by side. -/
structure TwoD (w : World) (g h : Nat) (s t : DS) (W : World) : Prop where
  ex : ∃ S1 S2 : Nat → Prop, DecAt W S1 g s ∧ RDecAt W S2 h t ∧ (∀ k, S1 k → w.heap.size ≤ k ∧ k < W.heap.size) ∧ (∀ k, S2 k → w.heap.size ≤ k ∧ k < W.heap.size) ∧ (∀ k, S1 k → ¬ S2 k)
  b : Below w.heap.size w W
  sok : s.ok
  tok : t.ok
section
variable {w W W' : World} {g h : Nat} {s t : DS}
theorem TwoD.below (H : TwoD w g h s t W) (hb : Below W.heap.size W W') : TwoD w g h s t W' := by
  obtain ⟨⟨S1, S2, h1, h2, h3, h4, h5⟩, b, sok, tok⟩ := H
  exact ⟨⟨S1, S2, h1.below hb, h2.below hb, fun k hk => ⟨(h3 k hk).1, Nat.lt_of_lt_of_le (h3 k hk).2 hb.size⟩, fun k hk => ⟨(h4 k hk).1, Nat.lt_of_lt_of_le (h4 k hk).2 hb.size⟩, h5⟩, below_then b b.size hb, sok, tok⟩
theorem TwoD.get (H : TwoD w g h s t W) (i : Int) :
    Calls Try.prog 34 #[.pointer (some ⟨g, 0, none⟩), .int .i64 i] W fun e W' => e = .returned (.tuple #[.int .i64 (s.getI i).2.1, .int .i64 (s.getI i).2.2]) ∧ TwoD w g h (s.getI i).1 t W' := by
  obtain ⟨⟨S1, S2, h1, h2, h3, h4, h5⟩, b, sok, tok⟩ := H
  refine (get_calls W S1 g s i h1 (fun k hk => (h3 k hk).2) sok).mono ?_
  rintro e W' ⟨he, hE, hM⟩
  exact ⟨he, ⟨⟨S1, S2, hE, h2.kept hM (fun k hk hk1 => h5 k hk1 hk), fun k hk => ⟨(h3 k hk).1, Nat.lt_of_lt_of_le (h3 k hk).2 hM.size⟩, fun k hk => ⟨(h4 k hk).1, Nat.lt_of_lt_of_le (h4 k hk).2 hM.size⟩, h5⟩, below_mods b hM (fun k hk => (h3 k hk).1) b.size, DS.getI_ok sok _, tok⟩⟩
theorem TwoD.rget (H : TwoD w g h s t W) (i : Int) :
    Calls Try.prog 39 #[.pointer (some ⟨h, 0, none⟩), .int .i64 i] W fun e W' => e = .returned (.tuple #[.int .i64 (t.getI i).2.1, .int .i64 (t.getI i).2.2]) ∧ TwoD w g h s (t.getI i).1 W' := by
  obtain ⟨⟨S1, S2, h1, h2, h3, h4, h5⟩, b, sok, tok⟩ := H
  refine (rget_calls W S2 h t i h2 (fun k hk => (h4 k hk).2) tok).mono ?_
  rintro e W' ⟨he, hE, hM⟩
  exact ⟨he, ⟨⟨S1, S2, h1.kept hM (fun k hk hk1 => h5 k hk hk1), hE, fun k hk => ⟨(h3 k hk).1, Nat.lt_of_lt_of_le (h3 k hk).2 hM.size⟩, fun k hk => ⟨(h4 k hk).1, Nat.lt_of_lt_of_le (h4 k hk).2 hM.size⟩, h5⟩, below_mods b hM (fun k hk => (h4 k hk).1) b.size, sok, DS.getI_ok tok _⟩⟩
theorem TwoD.beyond (H : TwoD w g h s t W) : Calls Try.prog 35 #[.pointer (some ⟨g, 0, none⟩)] W fun e w' => e = .returned (.int .i64 ((s.a - s.code.length : Nat) : Int)) ∧ W = w' := by
  obtain ⟨⟨S1, S2, h1, h2, h3, h4, h5⟩, b, sok, tok⟩ := H
  exact beyond_calls W S1 g s h1
theorem TwoD.rbeyond (H : TwoD w g h s t W) : Calls Try.prog 40 #[.pointer (some ⟨h, 0, none⟩)] W fun e w' => e = .returned (.int .i64 ((t.a - t.code.length : Nat) : Int)) ∧ W = w' := by
  obtain ⟨⟨S1, S2, h1, h2, h3, h4, h5⟩, b, sok, tok⟩ := H
  exact rbeyond_calls W S2 h t h2
theorem TwoD.model (H : TwoD w g h s t W) : Calls Try.prog 36 #[.pointer (some ⟨g, 0, none⟩)] W (ModelPost W s.kind s.st) := by
  obtain ⟨⟨S1, S2, h1, h2, h3, h4, h5⟩, b, sok, tok⟩ := H
  exact dec_model_calls W S1 g s h1 sok
theorem TwoD.rmodel (H : TwoD w g h s t W) : Calls Try.prog 41 #[.pointer (some ⟨h, 0, none⟩)] W (ModelPost W t.kind t.st) := by
  obtain ⟨⟨S1, S2, h1, h2, h3, h4, h5⟩, b, sok, tok⟩ := H
  exact rdec_model_calls W S2 h t h2 tok
theorem TwoD.new {W1 W2 : World} (hb : Below w.heap.size w W) (h1 : DecAt W1 (Since W.heap.size W1) g s) (hb1 : Below W.heap.size W W1) (h2 : RDecAt W2 (Since W1.heap.size W2) h t) (hb2 : Below W1.heap.size W1 W2) (sok : s.ok) (tok : t.ok) : TwoD w g h s t W2 :=
  ⟨⟨_, _, h1.below hb2, h2, fun k hk => ⟨Nat.le_trans hb.size hk.1, Nat.lt_of_lt_of_le hk.2 hb2.size⟩, fun k hk => ⟨Nat.le_trans (Nat.le_trans hb.size hb1.size) hk.1, hk.2⟩, fun k hk hk2 => by have := hk.2; have := hk2.1; omega⟩, below_then (below_then hb hb.size hb1) (Nat.le_trans hb.size hb1.size) hb2, sok, tok⟩
end
end Go.Proofs.Ytpnmedmghncpiaa.TwoD
