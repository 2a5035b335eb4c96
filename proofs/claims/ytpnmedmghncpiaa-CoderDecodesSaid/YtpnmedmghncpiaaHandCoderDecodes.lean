/- What any bytes are decoded to is what the reference decodes them to: for every model, list of bytes and list of contexts. -/
import Derived.Test.YtpnmedmghncpiaaPCoderShortx0
import Derived.Test.YtpnmedmghncpiaaAid
import Derived.Test.YtpnmedmghncpiaaHandAid
import Derived.Test.YtpnmedmghncpiaaCod1
import Derived.Test.YtpnmedmghncpiaaCod2
import Derived.Test.YtpnmedmghncpiaaCod3
import Derived.Test.YtpnmedmghncpiaaMod
import Derived.Test.YtpnmedmghncpiaaNewRef
import Derived.Test.YtpnmedmghncpiaaEnc
import Derived.Test.YtpnmedmghncpiaaMods
import Derived.Test.YtpnmedmghncpiaaEncAt
import Derived.Test.YtpnmedmghncpiaaPut
import Derived.Test.YtpnmedmghncpiaaEnd
import Derived.Test.YtpnmedmghncpiaaEncode
import Derived.Test.YtpnmedmghncpiaaAwake
import Derived.Test.YtpnmedmghncpiaaSame
import Derived.Test.YtpnmedmghncpiaaOpn
import Derived.Test.YtpnmedmghncpiaaRefAt
import Derived.Test.YtpnmedmghncpiaaDec
import Derived.Test.YtpnmedmghncpiaaGet
import Derived.Test.YtpnmedmghncpiaaDecNew
import Derived.Test.YtpnmedmghncpiaaRDec
import Derived.Test.YtpnmedmghncpiaaRDecNew
import Derived.Test.YtpnmedmghncpiaaDcd
import Derived.Test.YtpnmedmghncpiaaRows
import Derived.WalkKit
import Derived.ProofKit
import Derived.OpenShut
import Derived.ShutString
import Derived.ChangeOld
import Derived.Lib.SmallJoins
import Derived.Below
import Derived.SizedLaws
import Derived.Test.YtpnmedmghncpiaaWSized
namespace Go.Proofs.Ytpnmedmghncpiaa.HandCoderDecodes
open Go Go.RowKit Go.Proofs.Ytpnmedmghncpiaa.PCoderShort Go.Proofs.YtpnmedmghncpiaaW.PrintWords Go.Proofs.YtpnmedmghncpiaaW.PrintLast Go.Proofs.YtpnmedmghncpiaaW.PrintMore Go.Proofs.Ytpnmedmghncpiaa.Aid Go.Proofs.Ytpnmedmghncpiaa.HandAid Go.Proofs.Ytpnmedmghncpiaa.Cod1 Go.Proofs.Ytpnmedmghncpiaa.Cod2 Go.Proofs.Ytpnmedmghncpiaa.Cod3 Go.Proofs.Ytpnmedmghncpiaa.Mod Go.Proofs.Ytpnmedmghncpiaa.NewRef Go.Proofs.Ytpnmedmghncpiaa.Enc Go.Proofs.Ytpnmedmghncpiaa.Mods Go.Proofs.Ytpnmedmghncpiaa.EncAt Go.Proofs.Ytpnmedmghncpiaa.Put Go.Proofs.Ytpnmedmghncpiaa.End Go.Proofs.Ytpnmedmghncpiaa.Encode Go.Proofs.Ytpnmedmghncpiaa.Awake Go.Proofs.Ytpnmedmghncpiaa.Same Go.Proofs.Ytpnmedmghncpiaa.Opn Go.Proofs.Ytpnmedmghncpiaa.RefAt Go.Proofs.Ytpnmedmghncpiaa.Dec Go.Proofs.Ytpnmedmghncpiaa.Get Go.Proofs.Ytpnmedmghncpiaa.DecNew Go.Proofs.Ytpnmedmghncpiaa.RDec Go.Proofs.Ytpnmedmghncpiaa.RDecNew Go.Proofs.Ytpnmedmghncpiaa.Dcd
set_option linter.unusedVariables false
set_option linter.unusedSimpArgs false
open Go.Proofs.Ytpnmedmghncpiaa
set_option maxHeartbeats 8000000 in
set_option maxRecDepth 100000 in
theorem walk (w : World) (mk : Int) (h2 : (Lit.int .i64 mk).wf = true) (A : Option Addr) (c : Nat) (st : List Int) (hl : st.length ≤ c) (hC : Kd.C (Kd.int .i64) w A st.length st) (hW : st.length * 8 ≤ 140737488351232 ∧ ∀ x ∈ st, (Lit.int .i64 x).wf = true)
    (A1 : Option Addr) (c1 : Nat) (b : List Int) (hC1 : Kd.C (Kd.int .u8) w A1 b.length b) (hc1 : b.length ≤ c1) (y1 : b.length * 1 ≤ 140737488351232) (hw1 : ∀ x ∈ b, (Lit.int .u8 x).wf = true)
    (A2 : Option Addr) (c2 : Nat) (l : List Int) (hC2 : Kd.C (Kd.int .i64) w A2 l.length l) (hc2 : l.length ≤ c2) (y2 : l.length * 8 ≤ 140737488351232) (hw2 : ∀ x ∈ l, (Lit.int .i64 x).wf = true) :
    Calls Try.prog 9 #[.agg #[.int .i64 mk, .slice A st.length c], .slice A1 b.length c1, .slice A2 l.length c2] w fun e w' => e = .returned (.bool true) ∧ Below w.heap.size w w' := by
  have hu := Try.underlying24
  have hby : Bytes b := bytes_of hw1
  have hmax : l.length ≤ 9223372036854775807 := Kd.C_max hC2
  have hmax1 : b.length ≤ 9223372036854775807 := Kd.C_max hC1
  have hmax2 : st.length ≤ 9223372036854775807 := Kd.C_max hC
  have HB := Aside0.mk (below_alloc (Below.refl w.heap.size w) (.cells #[.int .i64 mk, .slice A st.length c] 24))
  by_cases hbig : l.length > 20000 ∨ b.length > 100000 ∨ st.length > 16384
  · have hb2 : (l.length : Int) > 20000 ∨ ((b.length : Int) > 100000 ∧ ¬ (l.length : Int) > 20000) ∨ ((st.length : Int) > 16384 ∧ ¬ (l.length : Int) > 20000 ∧ ¬ (b.length : Int) > 100000) := by omega
    clear hbig hC hC1 hC2 hW h2 y1 y2 hw1 hw2 hby
    rcases hb2 with h | ⟨h, h'⟩ | ⟨h, h', h''⟩
    · go_enter Try.func9, Try.ntmps9
      go_wp2_with (go_at_call 17; refine (awake_calls _).mono ?_; rintro e w2 ⟨rfl, hB⟩; have HB2 := Aside0.mk (below_then HB.out HB.out.size hB); clear hB)
      go_ret
      exact ⟨rfl, HB2.out⟩
    · go_enter Try.func9, Try.ntmps9
      go_wp2_with (go_at_call 17; refine (awake_calls _).mono ?_; rintro e w2 ⟨rfl, hB⟩; have HB2 := Aside0.mk (below_then HB.out HB.out.size hB); clear hB)
      go_ret
      exact ⟨rfl, HB2.out⟩
    · go_enter Try.func9, Try.ntmps9
      go_wp2_with (go_at_call 17; refine (awake_calls _).mono ?_; rintro e w2 ⟨rfl, hB⟩; have HB2 := Aside0.mk (below_then HB.out HB.out.size hB); clear hB)
      go_ret
      exact ⟨rfl, HB2.out⟩
  · have h1 : ¬ (l.length : Int) > 20000 := by omega
    have h1b : ¬ (b.length : Int) > 100000 := by omega
    have h3 : ¬ (st.length : Int) > 16384 := by omega
    have hn : st.length ≤ 16384 := by omega
    obtain ⟨rb, rk, rs, rn, re, hr⟩ : ∃ rb rk rs rn re, decodeR mk st b l = (rb, rk, rs, rn, re) := ⟨_, _, _, _, _, rfl⟩
    have HE : ∀ (W : World) (_ : Kd.C (Kd.int .i64) W A st.length st) (_ : Kd.C (Kd.int .u8) W A1 b.length b), Kd.C (Kd.int .i64) W A2 l.length l → Aside0 (Calls Try.prog 42 #[.agg #[.int .i64 mk, .slice A st.length c], .slice A1 b.length c1, .slice A2 l.length c2] W (DecodePost W (rb, rk, rs, rn, re))) := fun W h h' h'' => ⟨by have := decode_calls A c mk st A1 c1 b A2 c2 l W h hl h' hc1 h'' hc2 hby (by omega); rw [hr] at this; exact this⟩
    have HF : ∀ (W : World) (_ : Kd.C (Kd.int .i64) W A st.length st) (_ : Kd.C (Kd.int .u8) W A1 b.length b), Kd.C (Kd.int .i64) W A2 l.length l → Aside0 (Calls Try.prog 43 #[.agg #[.int .i64 mk, .slice A st.length c], .slice A1 b.length c1, .slice A2 l.length c2] W (DecodePost W (rb, rk, rs, rn, re))) := fun W h h' h'' => ⟨by have := rdecode_calls A c mk st A1 c1 b A2 c2 l W h hl h' hc1 h'' hc2 hby (by omega); rw [hr] at this; exact this⟩
    obtain ⟨b2, hsb2⟩ : ∃ x, w.heap.size = x := ⟨_, rfl⟩
    obtain ⟨W0, hsW0⟩ : ∃ x, w.alloc (.cells #[.int .i64 mk, .slice A st.length c] 24) = x := ⟨_, rfl⟩
    have HZ2 := Aside0.mk (show W0.heap[b2]? = some (.cells #[.int .i64 mk, .slice A st.length c] 24 (0, 0)) from hsW0 ▸ hsb2 ▸ heap_new w _)
    have HB := Aside0.mk (show Below w.heap.size w W0 from hsW0 ▸ HB.out)
    have HC := Aside0.mk (Kd.C_below hC HB.out)
    have HCb := Aside0.mk (Kd.C_below hC1 HB.out)
    have HCx := Aside0.mk (Kd.C_below hC2 HB.out)
    clear hbig hC hC1 hC2 hW h2 hr y1 y2 hw1 hw2 hby
    go_enter Try.func9, Try.ntmps9
    have kHZ2_0 : W0.cell? ⟨b2, 0, none⟩ = some (.int .i64 mk) := (blk_cell HZ2.out 0).trans rfl
    have kHZ2_1 : W0.cell? ⟨b2, 1, none⟩ = some (.slice A st.length c) := (blk_cell HZ2.out 1).trans rfl
    go_wp2_with (fail)
    refine ((HE _ HC.out HCb.out HCx.out).out).mono ?_
    rintro e q1 ⟨A6, c6, A7, c7, rfl, hR6, hR7, hB⟩
    clear hsW0 hsb2 kHZ2_0 kHZ2_1
    have HZ2 := Aside0.mk (blk_below HZ2.out hB)
    have HC := Aside0.mk (Kd.C_below HC.out hB)
    have HCb := Aside0.mk (Kd.C_below HCb.out hB)
    have HCx := Aside0.mk (Kd.C_below HCx.out hB)
    have HB := Aside0.mk (below_then HB.out HB.out.size hB)
    clear hB
    have HC6 := Aside0.mk (Kd.R_reads' hR6).2.2
    have HC7 := Aside0.mk (Kd.R_reads' hR7).2.2
    have hc6 := (Kd.R_reads' hR6).2.1
    have hc7 := (Kd.R_reads' hR7).2.1
    clear hR6 hR7
    obtain ⟨b7, hsb7⟩ : ∃ x_, q1.heap.size = x_ := ⟨_, rfl⟩
    obtain ⟨q2, hsq2⟩ : ∃ x_, q1.alloc (.cells #[.int .i64 rk, .slice A7 rs.length c7] 24) = x_ := ⟨_, rfl⟩
    have hB : Below q1.heap.size q1 q2 := hsq2 ▸ below_alloc (Below.refl _ _) _
    have HN := Aside0.mk (show q2.heap[b7]? = some (.cells #[.int .i64 rk, .slice A7 rs.length c7] 24 (0, 0)) from hsq2 ▸ hsb7 ▸ heap_new q1 _)
    have HZ2 := Aside0.mk (blk_below HZ2.out hB)
    have HC := Aside0.mk (Kd.C_below HC.out hB)
    have HCb := Aside0.mk (Kd.C_below HCb.out hB)
    have HCx := Aside0.mk (Kd.C_below HCx.out hB)
    have HC6 := Aside0.mk (Kd.C_below HC6.out hB)
    have HC7 := Aside0.mk (Kd.C_below HC7.out hB)
    have HB := Aside0.mk (below_then HB.out HB.out.size hB)
    have HZ7 := HN
    clear HN hB
    have kHZ2_0 : q2.cell? ⟨b2, 0, none⟩ = some (.int .i64 mk) := (blk_cell HZ2.out 0).trans rfl
    have kHZ2_1 : q2.cell? ⟨b2, 1, none⟩ = some (.slice A st.length c) := (blk_cell HZ2.out 1).trans rfl
    have kHZ7_0 : q2.cell? ⟨b7, 0, none⟩ = some (.int .i64 rk) := (blk_cell HZ7.out 0).trans rfl
    have kHZ7_1 : q2.cell? ⟨b7, 1, none⟩ = some (.slice A7 rs.length c7) := (blk_cell HZ7.out 1).trans rfl
    go_wp2_with (fail)
    refine ((HF _ HC.out HCb.out HCx.out).out).mono ?_
    rintro e q3 ⟨A9, c9, A10, c10, rfl, hR9, hR10, hB⟩
    clear hsb7 hsq2 kHZ2_0 kHZ2_1 kHZ7_0 kHZ7_1
    have HZ2 := Aside0.mk (blk_below HZ2.out hB)
    have HZ7 := Aside0.mk (blk_below HZ7.out hB)
    have HC := Aside0.mk (Kd.C_below HC.out hB)
    have HCb := Aside0.mk (Kd.C_below HCb.out hB)
    have HCx := Aside0.mk (Kd.C_below HCx.out hB)
    have HC6 := Aside0.mk (Kd.C_below HC6.out hB)
    have HC7 := Aside0.mk (Kd.C_below HC7.out hB)
    have HB := Aside0.mk (below_then HB.out HB.out.size hB)
    clear hB
    have HC9 := Aside0.mk (Kd.R_reads' hR9).2.2
    have HC10 := Aside0.mk (Kd.R_reads' hR10).2.2
    have hc9 := (Kd.R_reads' hR9).2.1
    have hc10 := (Kd.R_reads' hR10).2.1
    clear hR9 hR10
    obtain ⟨b10, hsb10⟩ : ∃ x_, q3.heap.size = x_ := ⟨_, rfl⟩
    obtain ⟨q4, hsq4⟩ : ∃ x_, q3.alloc (.cells #[.int .i64 rk, .slice A10 rs.length c10] 24) = x_ := ⟨_, rfl⟩
    have hB : Below q3.heap.size q3 q4 := hsq4 ▸ below_alloc (Below.refl _ _) _
    have HN := Aside0.mk (show q4.heap[b10]? = some (.cells #[.int .i64 rk, .slice A10 rs.length c10] 24 (0, 0)) from hsq4 ▸ hsb10 ▸ heap_new q3 _)
    have HZ2 := Aside0.mk (blk_below HZ2.out hB)
    have HZ7 := Aside0.mk (blk_below HZ7.out hB)
    have HC := Aside0.mk (Kd.C_below HC.out hB)
    have HCb := Aside0.mk (Kd.C_below HCb.out hB)
    have HCx := Aside0.mk (Kd.C_below HCx.out hB)
    have HC6 := Aside0.mk (Kd.C_below HC6.out hB)
    have HC7 := Aside0.mk (Kd.C_below HC7.out hB)
    have HC9 := Aside0.mk (Kd.C_below HC9.out hB)
    have HC10 := Aside0.mk (Kd.C_below HC10.out hB)
    have HB := Aside0.mk (below_then HB.out HB.out.size hB)
    have HZ10 := HN
    clear HN hB
    have kHZ2_0 : q4.cell? ⟨b2, 0, none⟩ = some (.int .i64 mk) := (blk_cell HZ2.out 0).trans rfl
    have kHZ2_1 : q4.cell? ⟨b2, 1, none⟩ = some (.slice A st.length c) := (blk_cell HZ2.out 1).trans rfl
    have kHZ7_0 : q4.cell? ⟨b7, 0, none⟩ = some (.int .i64 rk) := (blk_cell HZ7.out 0).trans rfl
    have kHZ7_1 : q4.cell? ⟨b7, 1, none⟩ = some (.slice A7 rs.length c7) := (blk_cell HZ7.out 1).trans rfl
    have kHZ10_0 : q4.cell? ⟨b10, 0, none⟩ = some (.int .i64 rk) := (blk_cell HZ10.out 0).trans rfl
    have kHZ10_1 : q4.cell? ⟨b10, 1, none⟩ = some (.slice A10 rs.length c10) := (blk_cell HZ10.out 1).trans rfl
    go_wp2_with (fail)
    refine (bytes_true A6 c6 A9 c9 rb _ _ _ rfl rfl HC6.out hc6 HC9.out hc9).mono ?_
    rintro e q5 ⟨rfl, hB⟩
    have hB := hB.below
    clear hsb10 hsq4 kHZ10_0 kHZ10_1 kHZ2_0 kHZ2_1 kHZ7_0 kHZ7_1
    have HZ2 := Aside0.mk (blk_below HZ2.out hB)
    have HZ7 := Aside0.mk (blk_below HZ7.out hB)
    have HZ10 := Aside0.mk (blk_below HZ10.out hB)
    have HC := Aside0.mk (Kd.C_below HC.out hB)
    have HCb := Aside0.mk (Kd.C_below HCb.out hB)
    have HCx := Aside0.mk (Kd.C_below HCx.out hB)
    have HC6 := Aside0.mk (Kd.C_below HC6.out hB)
    have HC7 := Aside0.mk (Kd.C_below HC7.out hB)
    have HC9 := Aside0.mk (Kd.C_below HC9.out hB)
    have HC10 := Aside0.mk (Kd.C_below HC10.out hB)
    have HB := Aside0.mk (below_then HB.out HB.out.size hB)
    clear hB
    have kHZ2_0 : q5.cell? ⟨b2, 0, none⟩ = some (.int .i64 mk) := (blk_cell HZ2.out 0).trans rfl
    have kHZ2_1 : q5.cell? ⟨b2, 1, none⟩ = some (.slice A st.length c) := (blk_cell HZ2.out 1).trans rfl
    have kHZ7_0 : q5.cell? ⟨b7, 0, none⟩ = some (.int .i64 rk) := (blk_cell HZ7.out 0).trans rfl
    have kHZ7_1 : q5.cell? ⟨b7, 1, none⟩ = some (.slice A7 rs.length c7) := (blk_cell HZ7.out 1).trans rfl
    have kHZ10_0 : q5.cell? ⟨b10, 0, none⟩ = some (.int .i64 rk) := (blk_cell HZ10.out 0).trans rfl
    have kHZ10_1 : q5.cell? ⟨b10, 1, none⟩ = some (.slice A10 rs.length c10) := (blk_cell HZ10.out 1).trans rfl
    go_wp2_with (fail)
    refine (same_true A7 c7 A10 c10 rk rs _ _ _ rfl rfl HC7.out hc7 HC10.out hc10).mono ?_
    rintro e q6 ⟨rfl, hB⟩
    clear kHZ10_0 kHZ10_1 kHZ2_0 kHZ2_1 kHZ7_0 kHZ7_1
    have HZ2 := Aside0.mk (blk_below HZ2.out hB)
    have HZ7 := Aside0.mk (blk_below HZ7.out hB)
    have HZ10 := Aside0.mk (blk_below HZ10.out hB)
    have HC := Aside0.mk (Kd.C_below HC.out hB)
    have HCb := Aside0.mk (Kd.C_below HCb.out hB)
    have HCx := Aside0.mk (Kd.C_below HCx.out hB)
    have HC6 := Aside0.mk (Kd.C_below HC6.out hB)
    have HC7 := Aside0.mk (Kd.C_below HC7.out hB)
    have HC9 := Aside0.mk (Kd.C_below HC9.out hB)
    have HC10 := Aside0.mk (Kd.C_below HC10.out hB)
    have HB := Aside0.mk (below_then HB.out HB.out.size hB)
    clear hB
    have kHZ2_0 : q6.cell? ⟨b2, 0, none⟩ = some (.int .i64 mk) := (blk_cell HZ2.out 0).trans rfl
    have kHZ2_1 : q6.cell? ⟨b2, 1, none⟩ = some (.slice A st.length c) := (blk_cell HZ2.out 1).trans rfl
    have kHZ7_0 : q6.cell? ⟨b7, 0, none⟩ = some (.int .i64 rk) := (blk_cell HZ7.out 0).trans rfl
    have kHZ7_1 : q6.cell? ⟨b7, 1, none⟩ = some (.slice A7 rs.length c7) := (blk_cell HZ7.out 1).trans rfl
    have kHZ10_0 : q6.cell? ⟨b10, 0, none⟩ = some (.int .i64 rk) := (blk_cell HZ10.out 0).trans rfl
    have kHZ10_1 : q6.cell? ⟨b10, 1, none⟩ = some (.slice A10 rs.length c10) := (blk_cell HZ10.out 1).trans rfl
    go_wp2_with (fail)
    refine (awake_calls _).mono ?_
    rintro e q7 ⟨rfl, hB⟩
    clear kHZ10_0 kHZ10_1 kHZ2_0 kHZ2_1 kHZ7_0 kHZ7_1
    have HZ2 := Aside0.mk (blk_below HZ2.out hB)
    have HZ7 := Aside0.mk (blk_below HZ7.out hB)
    have HZ10 := Aside0.mk (blk_below HZ10.out hB)
    have HC := Aside0.mk (Kd.C_below HC.out hB)
    have HCb := Aside0.mk (Kd.C_below HCb.out hB)
    have HCx := Aside0.mk (Kd.C_below HCx.out hB)
    have HC6 := Aside0.mk (Kd.C_below HC6.out hB)
    have HC7 := Aside0.mk (Kd.C_below HC7.out hB)
    have HC9 := Aside0.mk (Kd.C_below HC9.out hB)
    have HC10 := Aside0.mk (Kd.C_below HC10.out hB)
    have HB := Aside0.mk (below_then HB.out HB.out.size hB)
    clear hB
    go_wp2
    go_ret
    exact ⟨rfl, HB.out⟩
open Go.ChangeShapes Go.WideShapes Go.ChangeAt
open Go.ChangeMaps (open_string shut_string)
theorem own : ownKnob Try.prog.godebug = none := by kernel_rfl
theorem laidOut : laidOutB Try.prog = true := by kernel_rfl
def IsRow (k : IntKind) (w : World) (a : Option Addr) (len cap : Nat) (zs : List Int) : Prop :=
  (a = none ∧ len = 0 ∧ cap = 0 ∧ zs = []) ∨
  ∃ x, a = some x ∧ len ≤ cap ∧ cap ≤ maxLen ∧ zs.length = cap ∧ (∀ i, i < zs.length → w.cell? (x.add i) = some (.int k (zs.getD i 0))) ∧ ∀ n ∈ zs, (Lit.int k n).wf = true
set_option maxRecDepth 100000 in
theorem lifted (os : Os) (started : os.Started) (H : Type) (enc : TypeId × Value → H) :
    ReturnsInHanded {} Try.checked os 9 .any (Rows.coderDecodesSpec.pre6 enc Try.prog Try.f9 Rows.coderDecodesRow.domain false) (Rows.coderDecodesSpec.post enc Try.prog Try.f9 false true false false) := by
  refine returnsInHanded_of_change_sized (C := Try.checked) own started (by kernel_rfl) Try.func9
    (ChangeSpec.witness6 (enc := enc) (C := Try.checked) false ⟨#[], #[.agg #[.int .i64 0, .slice none 0 0], .slice none 0 0, .slice none 0 0], []⟩ 8 (by kernel_rfl) (by kernel_rfl) (by kernel_rfl) (by kernel_rfl)) ?_
  intro W base args ds gs before hval0 hW hcnd hsz0 _
  have hsz : (DataW.weightsEach Try.prog (Try.f9.params.toList ++ Rows.coderDecodesSpec.plain.varTypes Try.prog) (ds ++ gs)).all (· ≤ reachBytes) = true := hsz0
  have hval : ∀ (j : Nat) t v, Try.f9.params[j]? = some t → args[j]? = some v → Value.okWide Try.prog W .any base t v := hval0
  have hW' := hW
  obtain ⟨p, q, hA0, hV, rfl, hfz, hnd⟩ := hW
  have hA : DataW.TrodAll enc Try.prog W 0 (fun _ => true) true Try.f9.params.toList args.toList ds p := hA0
  rw [Try.params9] at hA hval hsz
  obtain ⟨v0, vs0, d0, ds0, p0, q0, hargs, rfl, rfl, h0, r0⟩ := trodAll_cons hA
  obtain ⟨v1, vs1, d1, ds1, p1, q1, rfl, rfl, rfl, h1, r1⟩ := trodAll_cons r0
  obtain ⟨v2, vs2, d2, ds2, p2, q2, rfl, rfl, rfl, h2, r2⟩ := trodAll_cons r1
  obtain ⟨rfl, rfl, rfl⟩ := trodAll_nil r2
  obtain rfl : args = #[v0, v1, v2] := by cases args; simp_all
  obtain ⟨rfl, rfl⟩ := trodVars_none hV
  have k0 := h0
  have lt0 : ∀ x ∈ p0, x.block < W.heap.size := by obtain ⟨m, hm⟩ := k0; exact DataW.trod_lt m _ _ _ hm
  obtain ⟨cs0, rfl, csz0⟩ := okWide_struct Try.underlying24 (hval 0 24 v0 rfl rfl)
  obtain ⟨⟨x0_0, x0_1⟩, ⟨_, _, hcs0, rfl, ⟨A0_1, c0_1, rfl, l0_1, g0_1⟩⟩, ⟨w0_0, w0_1⟩⟩ := Opn.open_arg (N := 8) (fun n => ((o_struct (d := (Kd.pair (Kd.int .i64) (Kd.slice 3 (Kd.int .i64)))) Try.underlying24 (by kernel_rfl) (f_cons rfl (o_int Try.underlying3 (by kernel_rfl)) (f_one rfl (o_slice (B := 8) Try.underlying22 (by kernel_rfl) (o_int Try.underlying3 (by kernel_rfl)) (by kernel_rfl))))) : Opn.OpensTo Try.prog (n + 8) 24 _ _)) h0 hsz (j := 0) (t := 24) rfl rfl
  obtain rfl : cs0 = #[.int .i64 x0_0, .slice A0_1 x0_1.length c0_1] := by rw [← Array.toList_inj]; exact hcs0
  obtain ⟨a1, len1, cap1, rfl⟩ := okWide_slice Try.underlying34 (hval 1 34 v1 rfl rfl)
  have k1 := h1
  have lt1 : ∀ x ∈ p1, x.block < W.heap.size := by obtain ⟨m, hm⟩ := k1; exact DataW.trod_lt m _ _ _ hm
  obtain ⟨z1, w1⟩ : ∃ zs, IsRow .u8 W a1 len1 cap1 zs := by
    obtain ⟨fuel, hf⟩ := h1
    rcases open_ints Try.underlying34 Try.underlying5 (by kernel_rfl) hf with ⟨hcs, _⟩ | ⟨x, l, c, zs, hcs, _, hl, hm, hz, _, hcell, hwz⟩
    · simp [Value.cells] at hcs
      obtain ⟨rfl, rfl, rfl⟩ := hcs
      exact ⟨[], .inl ⟨rfl, rfl, rfl, rfl⟩⟩
    · simp [Value.cells] at hcs
      obtain ⟨rfl, rfl, rfl⟩ := hcs
      exact ⟨zs, .inr ⟨_, rfl, hl, hm, by simpa using hz, hcell, hwz⟩⟩
  have y1 : len1 * 1 ≤ 140737488351232 := sized_ints hsz (j := 1) (t := 34) rfl rfl Try.underlying34 Try.underlying5 (by kernel_rfl) (by kernel_rfl) h1
  obtain ⟨l1, rfl, hr1, hm1, hw1, hc1⟩ := ReadsInt.ofRowC w1
  obtain ⟨a2, len2, cap2, rfl⟩ := okWide_slice Try.underlying22 (hval 2 22 v2 rfl rfl)
  have k2 := h2
  have lt2 : ∀ x ∈ p2, x.block < W.heap.size := by obtain ⟨m, hm⟩ := k2; exact DataW.trod_lt m _ _ _ hm
  obtain ⟨z2, w2⟩ : ∃ zs, IsRow .i64 W a2 len2 cap2 zs := by
    obtain ⟨fuel, hf⟩ := h2
    rcases open_ints Try.underlying22 Try.underlying3 (by kernel_rfl) hf with ⟨hcs, _⟩ | ⟨x, l, c, zs, hcs, _, hl, hm, hz, _, hcell, hwz⟩
    · simp [Value.cells] at hcs
      obtain ⟨rfl, rfl, rfl⟩ := hcs
      exact ⟨[], .inl ⟨rfl, rfl, rfl, rfl⟩⟩
    · simp [Value.cells] at hcs
      obtain ⟨rfl, rfl, rfl⟩ := hcs
      exact ⟨zs, .inr ⟨_, rfl, hl, hm, by simpa using hz, hcell, hwz⟩⟩
  have y2 : len2 * 8 ≤ 140737488351232 := sized_ints hsz (j := 2) (t := 22) rfl rfl Try.underlying22 Try.underlying3 (by kernel_rfl) (by kernel_rfl) h2
  obtain ⟨l2, rfl, hr2, hm2, hw2, hc2⟩ := ReadsInt.ofRowC w2
  clear hA0 hval0 hsz0 hsz
  refine (walk W x0_0 w0_0 A0_1 c0_1 x0_1 l0_1 g0_1 w0_1 _ _ l1 (Kd.C_of_reads (d := (0 : Int)) (h1 := fun _ => rfl) hr1) hc1 y1 hw1 _ _ l2 (Kd.C_of_reads (d := (0 : Int)) (h1 := fun _ => rfl) hr2) hc2 y2 hw2).mono fun e W' ⟨he, bel⟩ => ?_
  subst he
  exact ⟨_, rfl, _, _, _, [], _, [], hW', trodAll_mk1 (shut_bool Try.underlying4 _), (trodAll_cons_mk (Below.trod laidOut (by kernel_rfl) (of_decide_eq_true (by kernel_rfl)) k0 bel lt0) (trodAll_cons_mk (Below.trod laidOut (by kernel_rfl) (of_decide_eq_true (by kernel_rfl)) k1 bel lt1) (trodAll_cons_mk (Below.trod laidOut (by kernel_rfl) (of_decide_eq_true (by kernel_rfl)) k2 bel lt2) trodAll_mk0))), rfl, bel.frame _, fun h => by cases h⟩
theorem over : Rows.coderDecodesRow.holds Try.pinned (OpenSpec.ofChange Rows.coderDecodesSpec) :=
  OpenClaim.holds_of_wide 9 Try.f9 rfl rfl rfl rfl rfl rfl rfl ⟨rfl, rfl, rfl, rfl, rfl⟩ rfl rfl rfl rfl rfl (by kernel_rfl) Try.func9 (by kernel_rfl)
    (of_decide_eq_true (by kernel_rfl)) (by unfold Func.isWrapper; first | (rw [if_pos (by decide +kernel)]; kernel_rfl) | (rw [if_neg (by decide +kernel)]; exact ⟨rfl, rfl⟩))
    (fun os started H enc _ => lifted os started H enc)
theorem proved : Rows.CoderDecodesSaid := over
#print axioms proved
end Go.Proofs.Ytpnmedmghncpiaa.HandCoderDecodes
namespace Go.Proofs.Ytpnmedmghncpiaa
/-- The row, under a short name, for the claim. -/
theorem coderDecodes_holds : Rows.CoderDecodesSaid := HandCoderDecodes.proved
end Go.Proofs.Ytpnmedmghncpiaa
