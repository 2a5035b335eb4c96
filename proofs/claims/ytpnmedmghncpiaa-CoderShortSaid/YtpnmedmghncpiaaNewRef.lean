import Derived.Test.YtpnmedmghncpiaaPCoderNewx1
import Derived.Test.YtpnmedmghncpiaaAid
import Derived.Test.YtpnmedmghncpiaaHandAid
import Derived.Test.YtpnmedmghncpiaaCod1
import Derived.Test.YtpnmedmghncpiaaCod2
import Derived.Test.YtpnmedmghncpiaaMod
-- needs: Aid HandAid Cod1 Cod2 Mod
-- printof CoderNew: incunableref02_New
namespace Go.Proofs.Ytpnmedmghncpiaa.NewRef
open Go Go.RowKit Go.Proofs.YtpnmedmghncpiaaW.PrintWords Go.Proofs.YtpnmedmghncpiaaW.PrintLast Go.Proofs.YtpnmedmghncpiaaW.PrintMore Go.Proofs.Ytpnmedmghncpiaa.Aid Go.Proofs.Ytpnmedmghncpiaa.HandAid Go.Proofs.Ytpnmedmghncpiaa.Cod1 Go.Proofs.Ytpnmedmghncpiaa.Cod2 Go.Proofs.Ytpnmedmghncpiaa.Mod
set_option linter.unusedVariables false
set_option linter.unusedSimpArgs false
theorem ref_new_eq (kind n : Int) : Go.Proofs.Ytpnmedmghncpiaa.PCoderNew.incunableref02_New.f kind n = some (newModel kind n) := new_eq kind n
theorem ref_new_calls (kind n : Int) (w : World) : Calls Try.prog 13 #[.int .i64 kind, .int .i64 n] w fun e w' => ∃ A c, e = .returned (.tuple #[.agg #[.int .i64 (newModel kind n).1, .slice A (newModel kind n).2.1.length c], .int .i64 (newModel kind n).2.2]) ∧ Kd.R (Kd.int .i64) 3 w' w.heap.size (fun _ => True) (.slice A (newModel kind n).2.1.length c) (newModel kind n).2.1 ∧ Below w.heap.size w w' := by
  refine (Go.Proofs.Ytpnmedmghncpiaa.PCoderNew.incunableref02_New.calls kind n _ _ _ w (ref_new_eq kind n)).mono ?_
  rintro e w' ⟨v, rfl, hR, hb⟩
  obtain ⟨A', c', rfl⟩ := Kd.R_slice hR
  exact ⟨A', c', rfl, hR, hb⟩
end Go.Proofs.Ytpnmedmghncpiaa.NewRef
