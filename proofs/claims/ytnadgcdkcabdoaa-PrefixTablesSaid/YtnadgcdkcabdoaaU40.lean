-- ext making
import Derived.Test.YtnadgcdkcabdoaaU0
import Derived.Test.YtnadgcdkcabdoaaHandAid
import Derived.Lib.LazyBuf
namespace Go.Proofs.Ytnadgcdkcabdoaa.U
open Go Go.RowKit Go.Proofs.YtnadgcdkcabdoaaW.PrintWords Go.Proofs.YtnadgcdkcabdoaaW.PrintLast Go.Proofs.YtnadgcdkcabdoaaW.PrintMore Go.Proofs.Ytnadgcdkcabdoaa.Aid Go.Proofs.Ytnadgcdkcabdoaa.HandAid
set_option linter.unusedVariables false
def slices_Clone_int_int.f (l0 : List Int) : Option (List Int) := if l0.length < 17592186044416 then some l0 else none
set_option maxHeartbeats 1000000 in
set_option maxRecDepth 100000 in
theorem slices_Clone_int_int.calls (A0 : Option Addr) (c0 : Nat) (l0 : List Int) (r : List Int) (w : World) (hr0 : Kd.C (Kd.int .i64) w A0 l0.length l0) (hc0 : l0.length ≤ c0) (h : slices_Clone_int_int.f l0 = some r) :
    Calls Try.prog 40 #[.slice A0 l0.length c0] w fun e w' => ∃ v0_ : Value, e = .returned (v0_) ∧ Kd.R (Kd.int .i64) 3 w' w.heap.size (fun _ => True) v0_ r ∧ Below w.heap.size w w' := by
  unfold slices_Clone_int_int.f at h
  split at h
  · rename_i hlt
    injection h with h
    subst h
    have HLT := Aside0.mk hlt
    clear hlt
    have HR0 := Aside0.mk hr0
    have hmax : l0.length ≤ 9223372036854775807 := Kd.C_max hr0
    clear hr0
    cases A0 with
    | none =>
      have hz : l0 = [] := by
        by_cases hp : l0 = []
        · exact hp
        · obtain ⟨ad, he, _⟩ := Kd.at_int HR0.out 0 (Int.le_refl _) (by have := List.length_pos_iff.2 hp; omega)
          cases he
      subst hz
      clear hmax
      simp only [List.length_nil]
      have hq := fun W : World => run_eql_slice_nil (P := Try.prog) W 22 3 none 0 c0 Try.underlying22
      go_enter Try.func40, Try.ntmps40
      go_wp2
      go_ret
      exact ⟨_, rfl, Kd.R_nil _ _ _ _ _, Below.refl _ _⟩
    | some ad =>
      have hq := fun W : World => run_eql_slice_nil (P := Try.prog) W 22 3 (some ad) l0.length c0 Try.underlying22
      have HR1 : Aside0 (Kd.R (Kd.int .i64) 3 (w.alloc (.cells #[] 3)) w.heap.size (fun _ => True) (.slice (some ⟨w.heap.size, 0, none⟩) 0 0) []) := ⟨Kd.R_of_own (enc := Value.int .i64) (World.ownsRow_lit w #[] 0 (Nat.le_refl _) (by decide) rfl) (fun _ _ => trivial)⟩
      have HB1 := Aside0.mk (below_alloc (Below.refl w.heap.size w) (.cells #[] 3))
      have HCB1 := Aside0.mk (Kd.C_below HR0.out HB1.out)
      go_enter Try.func40, Try.ntmps40
      go_wp2_with (at_builtin; refine Kd.R_append_rows (Kd.int .i64) (w0 := w) w.heap.size (by rfl) (.tmp 5) (.tmp 6) 22 3 (.int .i64 0) 8 rfl Try.underlying22 info3 rfl (by decide) (by omega) (.slice (some ⟨w.heap.size, 0, none⟩) 0 0) [] l0 _ _ _ (fun _ => True) (fun _ => False) rfl rfl HR1.out HCB1.out (fun _ _ h => h) (fun _ h => h.elim) (fun _ _ => trivial) HB1.out HB1.out.size (by have := HLT.out; simp only [List.length_nil]; omega) ?_; intro v3 w3 hR3 hB3 hg3 hat3; rw [List.nil_append] at hR3; have HR3 := Aside0.mk hR3; have HB3 := Aside0.mk hB3; clear hR3 hB3 hg3 hat3)
      go_ret
      exact ⟨_, rfl, HR3.out, HB3.out⟩
  · simp at h
end Go.Proofs.Ytnadgcdkcabdoaa.U
