/- Nil and zero readers tell ErrNil, 0 and nothing: for every number. -/
import Derived.Test.YtccahgjcaajpcaaPBitsNilx1
import Derived.Test.YtccahgjcaajpcaaAid
import Derived.Test.YtccahgjcaajpcaaHandAid
import Derived.Test.YtccahgjcaajpcaaRdr
import Derived.Test.YtccahgjcaajpcaaRows
import Derived.WalkKit
import Derived.ProofKit
import Derived.OpenShut
import Derived.ShutString
import Derived.ChangeOld
import Derived.Below
import Derived.SizedLaws
import Derived.Test.YtccahgjcaajpcaaWSized
namespace Go.Proofs.Ytccahgjcaajpcaa.HandBitsNil
open Go Go.RowKit Go.Proofs.Ytccahgjcaajpcaa.PBitsNil Go.Proofs.YtccahgjcaajpcaaW.PrintWords Go.Proofs.YtccahgjcaajpcaaW.PrintLast Go.Proofs.YtccahgjcaajpcaaW.PrintMore Go.Proofs.Ytccahgjcaajpcaa.Aid Go.Proofs.Ytccahgjcaajpcaa.HandAid Go.Proofs.Ytccahgjcaajpcaa.Rdr
set_option linter.unusedVariables false
set_option linter.unusedSimpArgs false
def sumFrom (s : Int) : List Int → Int
  | [] => s
  | c :: cs => sumFrom ((s * 31 + c) % 65521) cs
theorem bits_Sum_loop (l : List Int) (hl : Bytes l) (hn : l.length ≤ 140737488351232) : ∀ (d i : Nat) (s : Int), i + d = l.length → 0 ≤ s → s < 65521 → Ev (fun k => bits_Sum.l0 k s l (l.length : Int) (i : Int)) (sumFrom s (l.drop i))
  | 0, i, s, hd, h0, h1 => by
    refine ev_succ ?_
    simp only [bits_Sum.l0]
    refine ev_neg (by omega) ?_
    rw [List.drop_of_length_le (by omega)]
    exact Ev.now _
  | d + 1, i, s, hd, h0, h1 => by
    refine ev_succ ?_
    simp only [bits_Sum.l0]
    refine ev_pos (by omega) (ev_pos (by omega) (ev_pos (by omega) ?_))
    have hb := bytes_rd hl (i := i) (by omega)
    simp (disch := omega) only [wrap_id, tmod_id]
    rw [drop_rd (by omega)]
    exact bits_Sum_loop l hl hn d (i + 1) _ (by omega) (by omega) (by omega)
theorem bits_Sum_ev (l : List Int) (hl : Bytes l) (hn : l.length ≤ 140737488351232) : Ev (fun k => bits_Sum.f k l) (sumFrom 1 l) :=
  bits_Sum_loop l hl hn l.length 0 1 (by omega) (by omega) (by omega)
def sizeBytes (n : Int) : List Int :=
  if n < 128 then [n] else if n < 16384 then [n / 128 + 128, n % 128] else
  if n < 2097152 then [n / 16384 + 128, n / 128 % 128 + 128, n % 128] else
  if n < 268435456 then [n / 2097152 + 128, n / 16384 % 128 + 128, n / 128 % 128 + 128, n % 128] else
  [n / 268435456 + 128, n / 2097152 % 128 + 128, n / 16384 % 128 + 128, n / 128 % 128 + 128, n % 128]
theorem bits_Size_l0_end (n : Int) (acc : List Int) (h : n ≤ 0) : Ev (fun k => bits_Size.l0 k n acc) (acc, 0) := by
  refine ev_succ ?_
  simp only [bits_Size.l0]
  exact ev_neg (by omega) (Ev.now _)
theorem bits_Size_l0_go (n : Int) (acc : List Int) {r} (h : 0 < n) (h2 : n ≤ 2147483647) (ha : acc.length < 100) (hr : Ev (fun k => bits_Size.l0 k (n / 128) ((n % 128 + 128) :: acc)) r) : Ev (fun k => bits_Size.l0 k n acc) r := by
  refine ev_succ ?_
  simp only [bits_Size.l0]
  refine ev_pos (by omega) (ev_some (ev_pos (by simp; omega) ?_))
  simp (disch := omega) only [wrap_id, tmod_id, tdiv_id]
  rw [show (n % 128 % 256 + 128) % 256 = n % 128 + 128 by omega]
  exact hr
theorem bits_Size_ev (n : Int) (h : 0 ≤ n) (h2 : n ≤ 2147483647) : Ev (fun k => bits_Size.f k n) (sizeBytes n, 0) := by
  unfold bits_Size.f
  refine ev_neg (by omega) ?_
  rw [show decide (n > 2147483647) = false by simp; omega]
  refine ev_succ ?_
  simp only [bits_Size.j0]
  refine ev_neg (by simp) ?_
  simp (disch := omega) only [wrap_id, tmod_id, tdiv_id]
  rw [show n % 128 % 256 = n % 128 by omega]
  unfold sizeBytes
  by_cases c1 : n < 128
  · rw [if_pos c1]
    refine ev_eq (bits_Size_l0_end _ _ (by omega)) ?_
    rw [show n % 128 = n by omega]
  rw [if_neg c1]
  refine bits_Size_l0_go _ _ (by omega) (by omega) (by simp) ?_
  by_cases c2 : n < 16384
  · rw [if_pos c2]
    refine ev_eq (bits_Size_l0_end _ _ (by omega)) ?_
    rw [show n / 128 % 128 = n / 128 by omega]
  rw [if_neg c2]
  refine bits_Size_l0_go _ _ (by omega) (by omega) (by simp) ?_
  rw [show n / 128 / 128 = n / 16384 by omega]
  by_cases c3 : n < 2097152
  · rw [if_pos c3]
    refine ev_eq (bits_Size_l0_end _ _ (by omega)) ?_
    rw [show n / 16384 % 128 = n / 16384 by omega]
  rw [if_neg c3]
  refine bits_Size_l0_go _ _ (by omega) (by omega) (by simp) ?_
  rw [show n / 16384 / 128 = n / 2097152 by omega]
  by_cases c4 : n < 268435456
  · rw [if_pos c4]
    refine ev_eq (bits_Size_l0_end _ _ (by omega)) ?_
    rw [show n / 2097152 % 128 = n / 2097152 by omega]
  rw [if_neg c4]
  refine bits_Size_l0_go _ _ (by omega) (by omega) (by simp) ?_
  rw [show n / 2097152 / 128 = n / 268435456 by omega]
  refine ev_eq (bits_Size_l0_end _ _ (by omega)) ?_
  rw [show n / 268435456 % 128 = n / 268435456 by omega]
theorem bits_Size_bad (n : Int) (h : n < 0 ∨ 2147483647 < n) : Ev (fun k => bits_Size.f k n) ([], 2) := by
  unfold bits_Size.f
  by_cases c : n < 0
  · refine ev_pos c (ev_succ ?_)
    simp only [bits_Size.j0]
    exact ev_pos (by simp) (Ev.now _)
  · refine ev_neg c ?_
    rw [show decide (n > 2147483647) = true by simp; omega]
    refine ev_succ ?_
    simp only [bits_Size.j0]
    exact ev_pos (by simp) (Ev.now _)
theorem bits_Signed_ev (n : Int) (h : -1073741824 ≤ n) (h2 : n < 1073741824) : Ev (fun k => bits_Signed.f k n) (sizeBytes (if n < 0 then -2 * n - 1 else 2 * n), 0) := by
  unfold bits_Signed.f
  by_cases c : n < 0
  · refine ev_neg (by omega) (ev_succ ?_)
    simp only [bits_Signed.j0]
    refine ev_neg (by simp) (ev_pos c (ev_pos (by omega) ?_))
    simp (disch := omega) only [wrap_id]
    rw [if_pos c]
    exact ev_bind (bits_Size_ev _ (by omega) (by omega)) (Ev.now _)
  · refine ev_pos (by omega) ?_
    rw [show decide (n < 1073741824) = true by simp; omega]
    refine ev_succ ?_
    simp only [bits_Signed.j0]
    refine ev_pos (by simp) ?_
    simp (disch := omega) only [wrap_id]
    rw [if_neg c]
    exact ev_bind (bits_Size_ev _ (by omega) (by omega)) (Ev.now _)
theorem same_ev {α} {f : Nat → Bool → Option α} {r : α} (a : List Int) (h : Ev (fun k => f k true) r) : Ev (fun k => (incunableref01_SameBytes.f a a).bind (f k)) r := by
  refine ev_pure ?_ h
  unfold incunableref01_SameBytes.f
  rw [same_self]
theorem sane_ev : Ev (fun k => incunablelaw01_Sane.f k) true := by
  unfold incunablelaw01_Sane.f
  refine ev_bind (bits_Size_ev 300 (by omega) (by omega)) ?_
  refine ev_bind (bits_Signed_ev (-1) (by omega) (by omega)) ?_
  refine ev_pos rfl (ev_pos rfl ?_)
  refine same_ev [130, 44] (ev_pos rfl (same_ev [1] (ev_pos rfl ?_)))
  refine ev_bind (bits_Sum_ev [65] (by unfold Bytes; decide) (by decide)) (Ev.now _)
set_option maxHeartbeats 1000000 in
theorem walk (w : World) (n : Int) (w0 : (Lit.int .i64 n).wf = true) : Calls Try.prog 9 #[.int .i64 n] w fun e w' => e = .returned (.bool true) ∧ Below w.heap.size w w' := by
  obtain ⟨k, hsane⟩ := Ev.rounds sane_ev
  have hS := Aside0.mk hsane
  clear hsane
  have h2 : (w.alloc (.cells #[.slice none 0 0, .int .i64 0, .bool false] 41)).cell? ⟨w.heap.size, 2, none⟩ = some (.bool false) := (cell_new _ _ _ 2).trans rfl
  have HB : Aside0 (Below w.heap.size w (w.alloc (.cells #[.slice none 0 0, .int .i64 0, .bool false] 41))) := ⟨below_alloc (Below.refl _ _) _⟩
  go_enter Try.func9, Try.ntmps9
  go_wp2_with (first
    | (go_at_call 30; first | (with_reducible refine (bits_nil n _).mono ?_; rintro e w' ⟨rfl, rfl⟩) | (with_reducible refine (bits_zero n _ _ h2).mono ?_; rintro e w' ⟨rfl, rfl⟩))
    | (go_at_call 31; first | (with_reducible refine (align_nil _).mono ?_; rintro e w' ⟨rfl, rfl⟩) | (with_reducible refine (align_zero _ _ h2).mono ?_; rintro e w' ⟨rfl, rfl⟩))
    | (go_at_call 32; first | (with_reducible refine (at_nil _).mono ?_; rintro e w' ⟨rfl, rfl⟩) | (with_reducible refine (at_zero _ _ h2).mono ?_; rintro e w' ⟨rfl, rfl⟩))
    | (go_at_call 33; first | (with_reducible refine (left_nil _).mono ?_; rintro e w' ⟨rfl, rfl⟩) | (with_reducible refine (left_zero _ _ h2).mono ?_; rintro e w' ⟨rfl, rfl⟩))
    | (go_at_call 12; with_reducible refine (incunablelaw01_Sane.calls k true _ hS.out).mono ?_; rintro e w2 ⟨rfl, hb⟩; have HB2 := Aside0.mk hb; clear hb))
  go_ret
  exact ⟨rfl, below_then HB.out HB.out.size HB2.out⟩
open Go.ChangeShapes Go.WideShapes Go.ChangeAt
open Go.ChangeMaps (open_string shut_string)
theorem own : ownKnob Try.prog.godebug = none := by kernel_rfl
set_option maxRecDepth 100000 in
theorem lifted (os : Os) (started : os.Started) (H : Type) (enc : TypeId × Value → H) :
    ReturnsInHanded {} Try.checked os 9 .any (Rows.bitsNilSpec.pre6 enc Try.prog Try.f9 Rows.bitsNilRow.domain false) (Rows.bitsNilSpec.post enc Try.prog Try.f9 false true false false) := by
  refine returnsInHanded_of_change_sized (C := Try.checked) own started (by kernel_rfl) Try.func9
    (ChangeSpec.witness6 (enc := enc) (C := Try.checked) false ⟨#[], #[.int .i64 0], []⟩ 8 (by kernel_rfl) (by kernel_rfl) (by kernel_rfl) (by kernel_rfl)) ?_
  intro W base args ds gs before hval0 hW hcnd hsz0 _
  have hsz : (DataW.weightsEach Try.prog (Try.f9.params.toList ++ Rows.bitsNilSpec.plain.varTypes Try.prog) (ds ++ gs)).all (· ≤ reachBytes) = true := hsz0
  have hval : ∀ (j : Nat) t v, Try.f9.params[j]? = some t → args[j]? = some v → Value.okWide Try.prog W .any base t v := hval0
  have hW' := hW
  obtain ⟨p, q, hA0, hV, rfl, hfz, hnd⟩ := hW
  have hA : DataW.TrodAll enc Try.prog W 0 (fun _ => true) true Try.f9.params.toList args.toList ds p := hA0
  rw [Try.params9] at hA hval hsz
  obtain ⟨v0, vs0, d0, ds0, p0, q0, hargs, rfl, rfl, h0, r0⟩ := trodAll_cons hA
  obtain ⟨rfl, rfl, rfl⟩ := trodAll_nil r0
  obtain rfl : args = #[v0] := by cases args; simp_all
  obtain ⟨rfl, rfl⟩ := trodVars_none hV
  obtain ⟨a0, rfl, rfl, rfl, w0⟩ := open_int Try.underlying3 (hval 0 3 v0 rfl rfl) h0
  clear hA0 hval0 hsz0 hsz
  refine (walk W a0 w0).mono fun e W' ⟨he, bel⟩ => ?_
  subst he
  exact ⟨_, rfl, _, _, _, [], _, [], hW', trodAll_mk1 (shut_bool Try.underlying4 _), (trodAll_cons_mk (shut_int Try.underlying3 w0) trodAll_mk0), rfl, bel.frame _, fun h => by cases h⟩
theorem over : Rows.bitsNilRow.holds Try.pinned (OpenSpec.ofChange Rows.bitsNilSpec) :=
  OpenClaim.holds_of_wide 9 Try.f9 rfl rfl rfl rfl rfl rfl rfl ⟨rfl, rfl, rfl, rfl, rfl⟩ rfl rfl rfl rfl rfl (by kernel_rfl) Try.func9 (by kernel_rfl)
    (of_decide_eq_true (by kernel_rfl)) (by unfold Func.isWrapper; first | (rw [if_pos (by decide +kernel)]; kernel_rfl) | (rw [if_neg (by decide +kernel)]; exact ⟨rfl, rfl⟩))
    (fun os started H enc _ => lifted os started H enc)
theorem proved : Rows.BitsNilSaid := over
#print axioms proved
end Go.Proofs.Ytccahgjcaajpcaa.HandBitsNil
namespace Go.Proofs.Ytccahgjcaajpcaa
/-- The row, under a short name, for the claim. -/
theorem bitsNil_holds : Rows.BitsNilSaid := HandBitsNil.proved
end Go.Proofs.Ytccahgjcaajpcaa
