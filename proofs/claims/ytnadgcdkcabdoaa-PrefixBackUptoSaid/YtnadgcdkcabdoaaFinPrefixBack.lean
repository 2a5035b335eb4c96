/- Numbers come back, whatever stands behind, and how many bits they take: for every list of lines, list of numbers and list of bytes, the arguments together of bulk at most 1048576. -/
import Derived.Test.YtnadgcdkcabdoaaMPrefixBack3
import Derived.Test.YtnadgcdkcabdoaaMPrefixBack1
import Derived.Test.YtnadgcdkcabdoaaRows
import Derived.WalkKit
import Derived.ProofKit
import Derived.OpenShut
import Derived.ShutString
import Derived.ChangeOld
import Derived.Lib.SmallJoins
import Derived.Below
import Derived.SizedLaws
import Derived.Deep.CondSized
import Derived.Test.YtnadgcdkcabdoaaMPrefixBack0
namespace Go.Proofs.Ytnadgcdkcabdoaa.HandPrefixBack
open Go Go.RowKit Go.Proofs.Ytnadgcdkcabdoaa.U Go.Proofs.YtnadgcdkcabdoaaW.PrintWords Go.Proofs.YtnadgcdkcabdoaaW.PrintLast Go.Proofs.YtnadgcdkcabdoaaW.PrintMore Go.Proofs.Ytnadgcdkcabdoaa.Aid Go.Proofs.Ytnadgcdkcabdoaa.HandAid Go.Proofs.Ytnadgcdkcabdoaa.Opn Go.Proofs.Ytnadgcdkcabdoaa.Tab Go.Proofs.Ytnadgcdkcabdoaa.Cdx Go.Proofs.Ytnadgcdkcabdoaa.Cdy Go.Proofs.Ytnadgcdkcabdoaa.Cdz Go.Proofs.Ytnadgcdkcabdoaa.Cdb Go.Proofs.Ytnadgcdkcabdoaa.Ckp Go.Proofs.Ytnadgcdkcabdoaa.Rdp Go.Proofs.Ytnadgcdkcabdoaa.Mpp Go.Proofs.Ytnadgcdkcabdoaa.Dcm Go.Proofs.Ytnadgcdkcabdoaa.Nrd Go.Proofs.Ytnadgcdkcabdoaa.Nbr Go.Proofs.Ytnadgcdkcabdoaa.Nbw Go.Proofs.Ytnadgcdkcabdoaa.Dwk Go.Proofs.Ytnadgcdkcabdoaa.Gdc Go.Proofs.Ytnadgcdkcabdoaa.Dcq Go.Proofs.Ytnadgcdkcabdoaa.Bck
set_option linter.unusedVariables false
set_option linter.unusedSimpArgs false
open Go.Proofs.Ytnadgcdkcabdoaa Go.Proofs.Ytnadgcdkcabdoaa.Dwk Go.Proofs.Ytnadgcdkcabdoaa.Dcq Go.Proofs.Ytnadgcdkcabdoaa.Bck Go.Proofs.Ytnadgcdkcabdoaa.Ckp Go.Proofs.Ytnadgcdkcabdoaa.Cdb
def sumB (t : List Ln) : List Nm → Nat
  | [] => 0
  | x :: r => (match bitsR t x.f0 x.f1 with | some q => q.length | none => 0) + sumB t r
theorem sumB_all (t : List Ln) : ∀ (l : List Nm) (c : List Int), bitsL t l = some c → sumB t l = c.length ∧ ∀ x ∈ l, ∃ q, bitsR t x.f0 x.f1 = some q
  | [], c, h => by
    simp only [bitsL, Option.some.injEq] at h
    subst h
    exact ⟨rfl, fun x hx => absurd hx List.not_mem_nil⟩
  | x :: r, c, h => by
    unfold bitsL at h
    cases hR : bitsR t x.f0 x.f1 with
    | none => rw [hR] at h; simp at h
    | some q =>
      cases hL : bitsL t r with
      | none => rw [hR, hL] at h; simp at h
      | some p2 =>
        rw [hR, hL] at h
        simp only [Option.some.injEq] at h
        subst h
        obtain ⟨i1, i2⟩ := sumB_all t r p2 hL
        refine ⟨?_, fun y hy => ?_⟩
        · simp only [sumB]
          rw [hR, i1, List.length_append]
        · rcases List.mem_cons.1 hy with rfl | hy
          · exact ⟨q, hR⟩
          · exact i2 y hy
theorem tail_ev (t : List Ln) (hv : vldP t) (l : List Nm) (b c : List Int) (hl : l.length ≤ 2000) (hc : bitsL t l = some c) (hb : Bytes b) (hbl : b.length ≤ 1048576) (hw : ∀ x ∈ l, wf64 x.f1) : ∀ (d i : Nat), i + d = l.length →
    Ev (fun k => incunablelaw04_PrefixBack.l0 k t l b (packL c) ((c.length - sumB t (l.drop i) : Nat) : Int) l (l.length : Int) (i : Int)) true
  | 0, i, hd => by
    have hcl := bitsL_len hv l c hc
    have hcb := bits_bitsL t l c hc
    have hp := packL_len c
    have hpb := packUpTo_bytes c hcb c.length ((c.length + 7) / 8)
    have hall : ((packL c ++ b).all fun x => decide (0 ≤ x ∧ x ≤ 255)) = true := List.all_eq_true.2 fun x hx => decide_eq_true ((List.mem_append.1 hx).elim (hpb x) (hb x))
    have hdec : prefix_Decode.f t (packL c ++ b) (l.length : Int) = some (l, (c.length : Int), 0) := by
      unfold prefix_Decode.f
      rw [if_pos ⟨hall, by rw [List.length_append]; omega⟩]
      unfold decP
      rw [if_pos hv, if_neg (by omega), Int.toNat_natCast]
      have h := dec_back t hv b l [] c [] hc hcb
      rw [List.nil_append, List.nil_append] at h
      exact congrArg some h
    rw [List.drop_of_length_le (by omega)]
    refine ev_succ ?_
    unfold incunablelaw04_PrefixBack.l0
    refine ev_neg (by omega) (ev_some (ev_pos (by rw [List.length_nil]; omega) (ev_some (ev_pos (by rw [List.length_append, List.length_nil]; omega) ?_))))
    rw [List.nil_append]
    refine ev_pure hdec (ev_pos rfl (ev_bind (sn_true l (by omega)) (ev_pos rfl (ev_pos (by simp [sumB]) (ev_pos ?_ (ev_bind awake_ev (Ev.now _)))))))
    simp only [sumB, Nat.sub_zero]
    rw [wrap_id (n := (c.length : Int) + 7) (by omega) (by omega), tdiv_id (by omega), wrap_id (by omega) (by omega), hp]
    omega
  | d + 1, i, hd => by
    have hi : i < l.length := by omega
    have hcl := bitsL_len hv l c hc
    obtain ⟨s1, s2⟩ := sumB_all t l c hc
    obtain ⟨q, hq⟩ := s2 _ (rdN_mem hi)
    have ih := tail_ev t hv l b c hl hc hb hbl hw d (i + 1) (by omega)
    have hsum : ∀ (m : List Nm) (j : Nat), sumB t (m.drop j) ≤ sumB t m := by
      intro m
      induction m with
      | nil => intro j; simp
      | cons x r ih => intro j; cases j with
        | zero => exact Nat.le_refl _
        | succ j => simp only [List.drop_succ_cons, sumB]; exact Nat.le_trans (ih j) (Nat.le_add_left _ _)
    have hle := hsum l i
    have hstep : sumB t (l.drop i) = q.length + sumB t (l.drop (i + 1)) := by
      rw [drop_rdN hi]
      simp only [sumB]
      rw [hq]
    have hpb := pbits_ev t (rd_T48 l (i : Int)).f0 (rd_T48 l (i : Int)).f1 (hw _ (rdN_mem hi))
    rw [if_pos hv, hq] at hpb
    refine ev_succ ?_
    unfold incunablelaw04_PrefixBack.l0
    rw [wrap_id (n := (i : Int) + 1) (by omega) (by omega)]
    refine ev_pos (by omega) (ev_pos (by omega) (ev_pos (by omega) (ev_bind hpb (ev_pos rfl ?_))))
    dsimp only
    rw [wrap_id (by omega) (by omega), show ((c.length - sumB t (l.drop i) : Nat) : Int) + (q.length : Int) = ((c.length - sumB t (l.drop (i + 1)) : Nat) : Int) by omega]
    exact ih
theorem pure_ev (t : List Ln) (l : List Nm) (b : List Int) (hb : Bytes b) (hbl : b.length ≤ 1048576) (hw : ∀ x ∈ l, wf64 x.f1) : Ev (fun k => incunablelaw04_PrefixBack.f k t l b) true := by
  unfold incunablelaw04_PrefixBack.f
  by_cases c0 : (l.length : Int) > 2000
  · exact ev_pos c0 (ev_bind awake_ev (Ev.now _))
  · refine ev_neg c0 (ev_bind (pencode_ev t l (by omega) hw) ?_)
    by_cases hv : vldP t
    · cases hc : bitsL t l with
      | none =>
        have e : encodeP t l = ([], 5) := by
          unfold encodeP encR
          rw [if_pos hv, hc]
        rw [e]
        exact ev_neg (by decide) (ev_pos rfl (ev_bind awake_ev (Ev.now _)))
      | some c =>
        have e : encodeP t l = (packL c, 0) := by
          unfold encodeP encR
          rw [if_pos hv, hc]
          dsimp only
          rw [if_neg (by omega), List.nil_append]
        rw [e]
        have h := tail_ev t hv l b c (by omega) hc hb hbl hw l.length 0 (by omega)
        obtain ⟨s1, _⟩ := sumB_all t l c hc
        rw [List.drop_zero, s1, Nat.sub_self] at h
        exact ev_pos rfl h
    · have e : encodeP t l = ([], 20) := by
        unfold encodeP
        rw [if_neg hv]
      rw [e]
      exact ev_neg (by decide) (ev_pos rfl (ev_bind awake_ev (Ev.now _)))
theorem walk (w : World) (A : Option Addr) (c : Nat) (t : List Ln) (hle : t.length ≤ c) (hC : Kd.C k32 w A t.length t) (hW : t.length * 32 ≤ 140737488351232 ∧ ∀ x ∈ t, (Lit.int .i64 x.f0).wf = true ∧ (Lit.int .i64 x.f1).wf = true ∧ (Lit.int .i64 x.f2).wf = true ∧ (Lit.int .i64 x.f3).wf = true)
    (A2 : Option Addr) (c2 : Nat) (l : List Nm) (hle2 : l.length ≤ c2) (hC2 : Kd.C k48 w A2 l.length l) (hW2 : l.length * 16 ≤ 140737488351232 ∧ ∀ x ∈ l, True ∧ (Lit.int .i64 x.f1).wf = true)
    (A3 : Option Addr) (c3 : Nat) (b : List Int) (hC3 : Kd.C (Kd.int .u8) w A3 b.length b) (hc3 : b.length ≤ c3) (y3 : b.length * 1 ≤ 140737488351232) (hw3 : ∀ x ∈ b, (Lit.int .u8 x).wf = true) (u3 : b.length ≤ 1048576) :
    Calls Try.prog 12 #[.slice A t.length c, .slice A2 l.length c2, .slice A3 b.length c3] w fun e w' => e = .returned (.bool true) ∧ Below w.heap.size w w' := by
  obtain ⟨k, h⟩ := Ev.rounds (pure_ev t l b (bytes_of hw3) u3 (fun x hx => wf_i64 (hW2.2 x hx).2))
  exact incunablelaw04_PrefixBack.calls k A c t A2 c2 l A3 c3 b true w hC hle hC2 hle2 hC3 hc3 h
open Go.ChangeShapes Go.WideShapes Go.ChangeAt
open Go.ChangeMaps (open_string shut_string)
theorem own : ownKnob Try.prog.godebug = none := by kernel_rfl
theorem laidOut : laidOutB Try.prog = true := by kernel_rfl
def IsRow (k : IntKind) (w : World) (a : Option Addr) (len cap : Nat) (zs : List Int) : Prop :=
  (a = none ∧ len = 0 ∧ cap = 0 ∧ zs = []) ∨
  ∃ x, a = some x ∧ len ≤ cap ∧ cap ≤ maxLen ∧ zs.length = cap ∧ (∀ i, i < zs.length → w.cell? (x.add i) = some (.int k (zs.getD i 0))) ∧ ∀ n ∈ zs, (Lit.int k n).wf = true
theorem bulk_one {H : Type} (d : DataW H) : 1 ≤ Rows.uptoBulk d := by
  cases d with
  | lit x => cases x <;> simp [Rows.uptoBulk]
  | _ => simp [Rows.uptoBulk]
theorem bulk_all {H : Type} : ∀ l : List (DataW H), l.length ≤ Rows.uptoBulkAll l
  | [] => Nat.zero_le _
  | d :: l => by
    have h1 := bulk_one d
    have h2 := bulk_all l
    simp only [Rows.uptoBulkAll, List.length_cons]
    omega
theorem bulk_slice {H : Type} (elems spare : List (DataW H)) : elems.length ≤ Rows.uptoBulk (.slice elems spare) := by
  have h1 := bulk_all elems
  simp only [Rows.uptoBulk]
  omega
set_option maxRecDepth 100000 in
theorem lifted (os : Os) (started : os.Started) (H : Type) (enc : TypeId × Value → H) (F0 : Stop.Interp) :
    ReturnsInHanded {} Try.checked os 12 .any ((Rows.OpenSpec.upto Rows.prefixBackSpec).pre6 enc Try.prog Try.f12 Rows.prefixBackUptoRow.domain false) (((Rows.OpenSpec.upto Rows.prefixBackSpec).at F0).post enc Try.prog Try.f12 false true false false) := by
  refine returnsInHanded_of_cond_sized (C := Try.checked) (s := Rows.OpenSpec.upto Rows.prefixBackSpec) (k := Rows.uptoSmall) rfl own started (by kernel_rfl) Try.func12
    (OpenSpec.witness (enc := enc) (C := Try.checked) (s := Rows.OpenSpec.upto Rows.prefixBackSpec) (k := Rows.uptoSmall) rfl false ⟨#[], #[.slice none 0 0, .slice none 0 0, .slice none 0 0], []⟩ 8 (by kernel_rfl) (by kernel_rfl) (by kernel_rfl) (x := ([.nil, .nil, .nil], [], [])) (by kernel_rfl) (by kernel_rfl) (by kernel_rfl)) ?_
  intro W base args ds gs before hval0 hW hcnd hk0 hsz0 _
  have hsz : (DataW.weightsEach Try.prog (Try.f12.params.toList ++ Rows.prefixBackSpec.plain.varTypes Try.prog) (ds ++ gs)).all (· ≤ reachBytes) = true := hsz0
  have hval : ∀ (j : Nat) t v, Try.f12.params[j]? = some t → args[j]? = some v → Value.okWide Try.prog W .any base t v := hval0
  have hW' := hW
  obtain ⟨p, q, hA0, hV, rfl, hfz, hnd⟩ := hW
  have hA : DataW.TrodAll enc Try.prog W 0 (fun _ => true) true Try.f12.params.toList args.toList ds p := hA0
  rw [Try.params12] at hA hval hsz
  obtain ⟨v0, vs0, d0, ds0, p0, q0, hargs, rfl, rfl, h0, r0⟩ := trodAll_cons hA
  obtain ⟨v1, vs1, d1, ds1, p1, q1, rfl, rfl, rfl, h1, r1⟩ := trodAll_cons r0
  obtain ⟨v2, vs2, d2, ds2, p2, q2, rfl, rfl, rfl, h2, r2⟩ := trodAll_cons r1
  obtain ⟨rfl, rfl, rfl⟩ := trodAll_nil r2
  obtain rfl : args = #[v0, v1, v2] := by cases args; simp_all
  obtain ⟨rfl, rfl⟩ := trodVars_none hV
  have hbulk := of_decide_eq_true hk0
  simp only [List.append_nil, Rows.uptoBulkAll] at hbulk
  have k0 := h0
  have lt0 : ∀ x ∈ p0, x.block < W.heap.size := by obtain ⟨m, hm⟩ := k0; exact DataW.trod_lt m _ _ _ hm
  obtain ⟨a0, len0, cap0, rfl⟩ := okWide_slice Try.underlying30 (hval 0 30 v0 rfl rfl)
  obtain ⟨x0, ⟨A0, c0, hcs0, l0, g0⟩, w0⟩ := Opn.open_arg (N := 8) (fun n => ((o_slice (B := 32) Try.underlying30 (by kernel_rfl) (show OpensTo _ _ _ k32 _ from o_iso (f := (fun x : S32 => (x.f0, x.f1, x.f2, x.f3))) (fun a => ⟨a.1, a.2.1, a.2.2.1, a.2.2.2⟩) (fun _ => rfl) (o_struct (d := (Kd.pair (Kd.int .i64) (Kd.pair (Kd.int .i64) (Kd.pair (Kd.int .i64) (Kd.int .i64))))) Try.underlying32 (by kernel_rfl) (f_cons rfl (o_int Try.underlying3 (by kernel_rfl)) (f_cons rfl (o_int Try.underlying3 (by kernel_rfl)) (f_cons rfl (o_int Try.underlying3 (by kernel_rfl)) (f_one rfl (o_int Try.underlying3 (by kernel_rfl)))))))) (by kernel_rfl)) : Opn.OpensTo Try.prog (n + 8) 30 _ _)) h0 hsz (j := 0) (t := 30) rfl rfl
  simp only [Value.cells, List.cons.injEq, Value.slice.injEq, and_true] at hcs0
  obtain ⟨rfl, rfl, rfl⟩ := hcs0
  have k1 := h1
  have lt1 : ∀ x ∈ p1, x.block < W.heap.size := by obtain ⟨m, hm⟩ := k1; exact DataW.trod_lt m _ _ _ hm
  obtain ⟨a1, len1, cap1, rfl⟩ := okWide_slice Try.underlying54 (hval 1 54 v1 rfl rfl)
  obtain ⟨x1, ⟨A1, c1, hcs1, l1, g1⟩, w1⟩ := Opn.open_arg (N := 8) (fun n => ((o_slice (B := 16) Try.underlying54 (by kernel_rfl) (show OpensTo _ _ _ k48 _ from o_iso (f := (fun x : S48 => (x.f0, x.f1))) (fun a => ⟨a.1, a.2⟩) (fun _ => rfl) (o_struct (d := (Kd.pair Kd.bool (Kd.int .i64))) Try.underlying48 (by kernel_rfl) (f_cons rfl (o_bool Try.underlying4 (by kernel_rfl)) (f_one rfl (o_int Try.underlying3 (by kernel_rfl)))))) (by kernel_rfl)) : Opn.OpensTo Try.prog (n + 8) 54 _ _)) h1 hsz (j := 1) (t := 54) rfl rfl
  simp only [Value.cells, List.cons.injEq, Value.slice.injEq, and_true] at hcs1
  obtain ⟨rfl, rfl, rfl⟩ := hcs1
  obtain ⟨a2, len2, cap2, rfl⟩ := okWide_slice Try.underlying46 (hval 2 46 v2 rfl rfl)
  have k2 := h2
  have lt2 : ∀ x ∈ p2, x.block < W.heap.size := by obtain ⟨m, hm⟩ := k2; exact DataW.trod_lt m _ _ _ hm
  obtain ⟨z2, w2⟩ : ∃ zs, IsRow .u8 W a2 len2 cap2 zs := by
    obtain ⟨fuel, hf⟩ := h2
    rcases open_ints Try.underlying46 Try.underlying5 (by kernel_rfl) hf with ⟨hcs, _⟩ | ⟨x, l, c, zs, hcs, _, hl, hm, hz, _, hcell, hwz⟩
    · simp [Value.cells] at hcs
      obtain ⟨rfl, rfl, rfl⟩ := hcs
      exact ⟨[], .inl ⟨rfl, rfl, rfl, rfl⟩⟩
    · simp [Value.cells] at hcs
      obtain ⟨rfl, rfl, rfl⟩ := hcs
      exact ⟨zs, .inr ⟨_, rfl, hl, hm, by simpa using hz, hcell, hwz⟩⟩
  have u2 : len2 ≤ 1048576 := by
    obtain ⟨fuel, hf⟩ := k2
    rcases open_ints Try.underlying46 Try.underlying5 (by kernel_rfl) hf with ⟨hcs, _⟩ | ⟨x, l, c, zs, hcs, _, hl, hm, hz, hx, _, _⟩
    · simp [Value.cells] at hcs
      have := hcs.2.1
      omega
    · simp [Value.cells] at hcs
      have hln := hcs.2.1
      have hd := congrArg Prod.fst hx
      simp only at hd
      have hb := bulk_slice (H := H) (lits .u8 (zs.take l)) (lits .u8 (zs.drop l))
      rw [← hd] at hb
      have hlen : (lits (H := H) .u8 (zs.take l)).length = l := by
        simp only [lits, List.length_map, List.length_take]
        split at hz <;> omega
      omega
  have y2 : len2 * 1 ≤ 140737488351232 := sized_ints hsz (j := 2) (t := 46) rfl rfl Try.underlying46 Try.underlying5 (by kernel_rfl) (by kernel_rfl) h2
  obtain ⟨l2, rfl, hr2, hm2, hw2, hc2⟩ := ReadsInt.ofRowC w2
  clear hA0 hval0 hsz0 hsz
  refine (walk W _ _ x0 l0 g0 w0 _ _ x1 l1 g1 w1 _ _ l2 (Kd.C_of_reads (d := (0 : Int)) (h1 := fun _ => rfl) hr2) hc2 y2 hw2 u2).mono fun e W' ⟨he, bel⟩ => ?_
  subst he
  exact ⟨_, rfl, _, _, _, [], _, [], hW', trodAll_mk1 (shut_bool Try.underlying4 _), (trodAll_cons_mk (Below.trod laidOut (by kernel_rfl) (of_decide_eq_true (by kernel_rfl)) k0 bel lt0) (trodAll_cons_mk (Below.trod laidOut (by kernel_rfl) (of_decide_eq_true (by kernel_rfl)) k1 bel lt1) (trodAll_cons_mk (Below.trod laidOut (by kernel_rfl) (of_decide_eq_true (by kernel_rfl)) k2 bel lt2) trodAll_mk0))), rfl, bel.frame _, fun h => by cases h⟩
theorem over : Rows.prefixBackUptoRow.holds Try.pinned (Rows.OpenSpec.upto Rows.prefixBackSpec) :=
  OpenClaim.holds_of_cond 12 Try.f12 rfl rfl rfl rfl rfl rfl rfl ⟨rfl, rfl, rfl, rfl, rfl⟩ rfl rfl rfl rfl rfl (by kernel_rfl) Try.func12 (by kernel_rfl)
    (of_decide_eq_true (by kernel_rfl)) (by unfold Func.isWrapper; first | (rw [if_pos (by decide +kernel)]; kernel_rfl) | (rw [if_neg (by decide +kernel)]; exact ⟨rfl, rfl⟩))
    (fun os started H enc _ F0 => lifted os started H enc F0)
theorem proved : Rows.PrefixBackUptoSaid := over
#print axioms proved
end Go.Proofs.Ytnadgcdkcabdoaa.HandPrefixBack
namespace Go.Proofs.Ytnadgcdkcabdoaa
/-- The row, under a short name, for the claim. -/
theorem prefixBack_holds : Rows.PrefixBackUptoSaid := HandPrefixBack.proved
end Go.Proofs.Ytnadgcdkcabdoaa
