import Derived.Test.YtlnhahnnjbfjdaaAid
import Derived.Test.YtlnhahnnjbfjdaaHandAid
import Derived.Test.YtlnhahnnjbfjdaaNum
import Derived.Test.YtlnhahnnjbfjdaaEvs
import Derived.Test.YtlnhahnnjbfjdaaRefEvs
-- needs: Aid HandAid Num Evs RefEvs
import Derived.Test.YtlnhahnnjbfjdaaGotEvents
import Derived.Test.YtlnhahnnjbfjdaaPNumberEventsx4
namespace Go.Proofs.Ytlnhahnnjbfjdaa.Sane
open Go Go.RowKit Go.Proofs.YtlnhahnnjbfjdaaW.PrintWords Go.Proofs.YtlnhahnnjbfjdaaW.PrintLast Go.Proofs.YtlnhahnnjbfjdaaW.PrintMore Go.Proofs.Ytlnhahnnjbfjdaa.Aid Go.Proofs.Ytlnhahnnjbfjdaa.HandAid Go.Proofs.Ytlnhahnnjbfjdaa.PNumberEvents Go.Proofs.Ytlnhahnnjbfjdaa.Num Go.Proofs.Ytlnhahnnjbfjdaa.Evs Go.Proofs.Ytlnhahnnjbfjdaa.RefEvs
set_option linter.unusedVariables false
set_option linter.unusedSimpArgs false
theorem ref_Events_calls (base n : Int) (nn : Bool) (w : World) : Calls Try.prog 11 #[.int .i64 base, .agg #[.bool nn, .int .i64 n]] w fun e w' => ∃ v, e = .returned (.tuple #[v, .int .i64 (evRes base nn n).2]) ∧ Kd.R k87 87 w' w.heap.size (fun _ => True) v (evRes base nn n).1 ∧ Below w.heap.size w w' := by
  obtain ⟨K, hK⟩ := ref_Events_ev base nn n
  exact incunableref03_Events.calls K base nn n _ _ w (hK K (Nat.le_refl _))
def sane5 : List S87 := [⟨0, 0⟩, ⟨1, 1⟩, ⟨2, 0⟩, ⟨24, 1⟩, ⟨22, 0⟩]
theorem sane_ev : evRes 0 false 2 = (sane5, 0) := by
  have h : numC 2 = 1 := by unfold numC numV numA; decide
  unfold evRes
  rw [if_pos ⟨by decide, by decide, by decide⟩]
  unfold evAll evList evHead evMid evDig evSign numV numA
  rw [h]
  rfl
set_option maxHeartbeats 4000000 in
set_option maxRecDepth 100000 in
theorem sane_calls (w : World) : Calls Try.prog 15 #[] w fun e w' => e = .returned (.bool true) ∧ Below w.heap.size w w' := by
  have HB := Aside0.mk (Below.refl w.heap.size w)
  have hE := sane_ev
  go_enter Try.func15, Try.ntmps15
  go_wp2_with (first | (go_at_call 10; refine (Events_calls 0 2 false _).mono ?_; rw [sane_ev]; rintro e wv ⟨v1, rfl, hR, hv⟩; obtain ⟨A1, c1, rfl⟩ := Kd.R_slice hR; have HR1 := Aside0.mk hR; have n2_ := Aside0.mk (below_step HB.out hv); clear hR HB hv; have HB := n2_; clear n2_) | ((with_reducible refine gate_dst (N := 17) rfl ?_); (refine gate_guard (by first | rfl | (go_simp; done)) ?_; refine Kd.R_lit k87 _ 87 ?hg (N := 17) ?hd (xs := sane5) (inner := [.int .i64 0, .int .i64 0, .int .i64 1, .int .i64 1, .int .i64 2, .int .i64 0, .int .i64 24, .int .i64 1, .int .i64 22, .int .i64 0]) (ok := fun _ => True) (okp := fun _ => True) ?hr ?hp (fun _ hk => hk) trivial (Below.refl _ _) (Nat.le_refl _) (by decide) ?_; (case hd => rfl); (case hg => rfl); (case hr => first | (go_simp; done) | (go_simp; rfl)); (case hp => exact (Reps.c2 (show Kd.M k87 _ _ _ (⟨0, 0⟩ : S87) [.int .i64 0, .int .i64 0] from (k87_mkM _ _ _ (⟨0, 0⟩ : S87))) (Reps.c2 (show Kd.M k87 _ _ _ (⟨1, 1⟩ : S87) [.int .i64 1, .int .i64 1] from (k87_mkM _ _ _ (⟨1, 1⟩ : S87))) (Reps.c2 (show Kd.M k87 _ _ _ (⟨2, 0⟩ : S87) [.int .i64 2, .int .i64 0] from (k87_mkM _ _ _ (⟨2, 0⟩ : S87))) (Reps.c2 (show Kd.M k87 _ _ _ (⟨24, 1⟩ : S87) [.int .i64 24, .int .i64 1] from (k87_mkM _ _ _ (⟨24, 1⟩ : S87))) (Reps.c2 (show Kd.M k87 _ _ _ (⟨22, 0⟩ : S87) [.int .i64 22, .int .i64 0] from (k87_mkM _ _ _ (⟨22, 0⟩ : S87))) (Reps.none _ _))))))); intro v5 wl ho hb hg_ hnew_; clear hg_ hnew_; obtain ⟨A5, c5, rfl⟩ := Kd.R_slice ho; have HO := Aside0.mk ho; have n1_ := Aside0.mk (Kd.R_below HR1.out hb); have n2_ := Aside0.mk (below_step HB.out hb); clear HB HR1; have HB := n2_; have HR1 := n1_; clear n1_ n2_; clear hb ho)) | (go_at_call 12; (obtain ⟨K5, hK5⟩ := sameEvents_ev sane5 (by decide); refine (incunablelaw03_SameEvents.calls K5 A1 c1 sane5 A5 c5 sane5 _ _ (Kd.R_reads' HR1.out).2.2 (Kd.R_reads' HR1.out).2.1 (Kd.R_reads' HO.out).2.2 (Kd.R_reads' HO.out).2.1 (hK5 K5 (Nat.le_refl _))).mono ?_; rintro e w5 ⟨rfl, m5, rfl⟩)))
  go_ret
  exact ⟨rfl, by repeat (first | (with_reducible first | exact HB.out | apply below_alloc | apply pw_below_drewN | apply below_drew1) | exact HB.out)⟩
end Go.Proofs.Ytlnhahnnjbfjdaa.Sane
