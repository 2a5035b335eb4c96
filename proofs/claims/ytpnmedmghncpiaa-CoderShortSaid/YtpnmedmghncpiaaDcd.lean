import Derived.Test.YtpnmedmghncpiaaAid
import Derived.Test.YtpnmedmghncpiaaHandAid
import Derived.Test.YtpnmedmghncpiaaCod1
import Derived.Test.YtpnmedmghncpiaaCod2
import Derived.Test.YtpnmedmghncpiaaCod3
import Derived.Test.YtpnmedmghncpiaaMod
import Derived.Test.YtpnmedmghncpiaaEnc
import Derived.Test.YtpnmedmghncpiaaMods
import Derived.Test.YtpnmedmghncpiaaEncAt
import Derived.Test.YtpnmedmghncpiaaPut
import Derived.Test.YtpnmedmghncpiaaEnd
import Derived.Test.YtpnmedmghncpiaaEncode
import Derived.Test.YtpnmedmghncpiaaDec
import Derived.Test.YtpnmedmghncpiaaGet
import Derived.Test.YtpnmedmghncpiaaDecNew
-- needs: Aid HandAid Cod1 Cod2 Cod3 Mod Enc Mods EncAt Put End Encode Dec Get DecNew
namespace Go.Proofs.Ytpnmedmghncpiaa.Dcd
open Go Go.RowKit Go.Proofs.YtpnmedmghncpiaaW.PrintWords Go.Proofs.YtpnmedmghncpiaaW.PrintLast Go.Proofs.YtpnmedmghncpiaaW.PrintMore Go.Proofs.Ytpnmedmghncpiaa.Aid Go.Proofs.Ytpnmedmghncpiaa.HandAid Go.Proofs.Ytpnmedmghncpiaa.Cod1 Go.Proofs.Ytpnmedmghncpiaa.Cod2 Go.Proofs.Ytpnmedmghncpiaa.Cod3 Go.Proofs.Ytpnmedmghncpiaa.Mod Go.Proofs.Ytpnmedmghncpiaa.Enc Go.Proofs.Ytpnmedmghncpiaa.Mods Go.Proofs.Ytpnmedmghncpiaa.EncAt Go.Proofs.Ytpnmedmghncpiaa.Put Go.Proofs.Ytpnmedmghncpiaa.End Go.Proofs.Ytpnmedmghncpiaa.Encode Go.Proofs.Ytpnmedmghncpiaa.Dec Go.Proofs.Ytpnmedmghncpiaa.Get Go.Proofs.Ytpnmedmghncpiaa.DecNew
set_option linter.unusedVariables false
set_option linter.unusedSimpArgs false
/-- Bits are got as far as they go well. -/
def getsD : DS → List Int → List Int → DS × List Int × Int
  | s, acc, [] => (s, acc, 0)
  | s, acc, c :: l => if (s.getI c).2.2 = 0 then getsD (s.getI c).1 (acc ++ [(s.getI c).2.1]) l else ((s.getI c).1, acc, (s.getI c).2.2)
def bad1 (n : Nat) (c : Int) : Bool := decide (c < 0) || decide ((n : Int) ≤ c)
def badK (n : Nat) (l : List Int) (k : Nat) : Bool := decide (100000 < l.length) || (l.take k).any (bad1 n)
/-- Decode's answer: the bits, the model, how many bytes beyond the end, the error. -/
def decodeR (kind : Int) (st code l : List Int) : List Int × Int × List Int × Int × Int :=
  if okModel kind st then
    (if badK st.length l l.length = true then ([], 0, [], 0, 2) else if (getsD (newDS kind st code) [] l).2.2 = 0 then ((getsD (newDS kind st code) [] l).2.1, (getsD (newDS kind st code) [] l).1.kind, (getsD (newDS kind st code) [] l).1.st, (((getsD (newDS kind st code) [] l).1.a - (getsD (newDS kind st code) [] l).1.code.length : Nat) : Int), 0) else ([], 0, [], 0, (getsD (newDS kind st code) [] l).2.2))
  else ([], 0, [], 0, 10)
def DecodePost (w : World) (r : List Int × Int × List Int × Int × Int) (e : Ending) (w' : World) : Prop :=
  ∃ A c A' c', e = .returned (.tuple #[.slice A r.1.length c, .agg #[.int .i64 r.2.1, .slice A' r.2.2.1.length c'], .int .i64 r.2.2.2.1, .int .i64 r.2.2.2.2]) ∧ Kd.R (Kd.int .u8) 5 w' w.heap.size (fun _ => True) (.slice A r.1.length c) r.1 ∧ Kd.R (Kd.int .i64) 3 w' w.heap.size (fun _ => True) (.slice A' r.2.2.1.length c') r.2.2.1 ∧ Below w.heap.size w w'
theorem dec_fail (w w' : World) (x : Int) (hb : Below w.heap.size w w') (e : Ending) (he : e = .returned (.tuple #[.slice none 0 0, .agg #[.int .i64 0, .slice none 0 0], .int .i64 0, .int .i64 x])) : DecodePost w ([], 0, [], 0, x) e w' :=
  ⟨none, 0, none, 0, he, Kd.R_nil _ _ _ _ _, Kd.R_nil _ _ _ _ _, hb⟩
theorem drop_rd {l : List Int} {i : Nat} (h : i < l.length) : l.drop i = rd l (i : Int) :: l.drop (i + 1) := by
  rw [List.drop_eq_getElem_cons h]
  simp [rd, List.getD_eq_getElem?_getD, List.getElem?_eq_getElem h]
theorem take_rd {l : List Int} {i : Nat} (h : i < l.length) : l.take (i + 1) = l.take i ++ [rd l (i : Int)] := by
  rw [List.take_add_one, List.getElem?_eq_getElem h]
  simp [rd, List.getD_eq_getElem?_getD, List.getElem?_eq_getElem h]
theorem getsD_step {l : List Int} {i : Nat} (h : i < l.length) (s : DS) (acc : List Int) : getsD s acc (l.drop i) = if (s.getI (rd l i)).2.2 = 0 then getsD (s.getI (rd l i)).1 (acc ++ [(s.getI (rd l i)).2.1]) (l.drop (i + 1)) else ((s.getI (rd l i)).1, acc, (s.getI (rd l i)).2.2) := by
  rw [drop_rd h]
  rfl
theorem any_succ {l : List Int} {i : Nat} (h : i < l.length) (n : Nat) : (l.take (i + 1)).any (bad1 n) = ((l.take i).any (bad1 n) || bad1 n (rd l i)) := by
  rw [take_rd h, List.any_append]
  simp
theorem badK_succ {l : List Int} {i : Nat} (h : i < l.length) (n : Nat) : badK n l (i + 1) = (badK n l i || bad1 n (rd l i)) := by
  unfold badK
  rw [any_succ h, Bool.or_assoc]
theorem badK_mono {l : List Int} {n i : Nat} (h : badK n l i = true) : badK n l l.length = true := by
  unfold badK at h ⊢
  rw [Bool.or_eq_true] at h ⊢
  rcases h with h | h
  · exact .inl h
  · right
    rw [List.take_length]
    rw [List.any_eq_true] at h ⊢
    obtain ⟨x, hx, hb⟩ := h
    exact ⟨x, List.mem_of_mem_take hx, hb⟩
theorem getI_bit (s : DS) (i : Int) : 0 ≤ (s.getI i).2.1 ∧ (s.getI i).2.1 ≤ 1 := by
  unfold DS.getI
  split
  · split
    · exact ⟨Int.le_refl _, by show (0 : Int) ≤ 1; decide⟩
    · split
      · exact ⟨Int.le_refl _, by show (0 : Int) ≤ 1; decide⟩
      · have := DS.bit_ s i.toNat
        show 0 ≤ s.bit i.toNat ∧ s.bit i.toNat ≤ 1
        omega
  · exact ⟨Int.le_refl _, by show (0 : Int) ≤ 1; decide⟩
theorem cell_far {W : World} {g b i j : Nat} (hne : g ≠ b) (u : Value) {v : Value} (h : W.cell? ⟨g, i, none⟩ = some v) : (W.setCell ⟨b, j, none⟩ u).cell? ⟨g, i, none⟩ = some v := by
  unfold World.cell? at h ⊢
  rw [Below.heap_setCell W ⟨b, j, none⟩ u g hne]
  exact h
/-- What stands in Decode's loop. -/
structure DMem (At : World → (Nat → Prop) → Nat → DS → Prop) (w : World) (B E b1 g : Nat) (s : DS) (A : Option Addr) (c : Nat) (acc : List Int) (W : World) : Prop where
  e : At W (fun j => B ≤ j ∧ j < E) g s
  ok : s.ok
  z : W.heap[b1]? = some (.cells #[.int .i64 0, .slice none 0 0] 24 (0, 0))
  r : Kd.R (Kd.int .u8) 5 W w.heap.size (fun j => E ≤ j) (.slice A acc.length c) acc
  b : Below w.heap.size w W
  wB : w.heap.size ≤ B
  BE : B ≤ E
  EW : E ≤ W.heap.size
  bB : b1 < B
  wb : w.heap.size ≤ b1
section
variable {At : World → (Nat → Prop) → Nat → DS → Prop} {w : World} {B E b1 g : Nat} {s s' : DS} {A A' : Option Addr} {c c' : Nat} {acc acc' : List Int} {W W' : World}
theorem DMem.get (H : DMem At w B E b1 g s A c acc W) (hE : At W' (fun j => B ≤ j ∧ j < E) g s') (hok : s'.ok) (hM : Mods W W' (fun j => B ≤ j ∧ j < E)) : DMem At w B E b1 g s' A c acc W' :=
  ⟨hE, hok, blk_mods H.z hM (fun hk => by have := H.bB; omega), Kd.R_kept H.r hM.kept (fun k hk hk2 => by omega), below_mods H.b hM (fun k hk => Nat.le_trans H.wB hk.1) H.b.size, H.wB, H.BE, Nat.le_trans H.EW hM.size, H.bB, H.wb⟩
theorem DMem.app (hkept : ∀ {W W' : World} {S S' : Nat → Prop} {g : Nat} {s : DS}, At W S g s → Mods W W' S' → (∀ k, S k → ¬ S' k) → At W' S g s) (H : DMem At w B E b1 g s A c acc W) (hg : W.grownBy W' (Value.slice A acc.length c).ownBlock) (hR : Kd.R (Kd.int .u8) 5 W' w.heap.size (fun j => E ≤ j) (.slice A' acc'.length c') acc') (hB : Below w.heap.size w W') : DMem At w B E b1 g s A' c' acc' W' := by
  have hM : Mods W W' (fun j => E ≤ j) := Mods.of_grown hg (Mods.refl _ _) (fun k hk => .inl (H.r.1 k hk))
  exact ⟨hkept H.e hM (fun k hk hk2 => by omega), H.ok, blk_mods H.z hM (fun hk => by have := H.bB; have := H.BE; omega), hR, hB, H.wB, H.BE, Nat.le_trans H.EW hM.size, H.bB, H.wb⟩
end
set_option maxHeartbeats 8000000 in
set_option maxRecDepth 100000 in
theorem decode_calls (A : Option Addr) (c : Nat) (kind : Int) (st : List Int) (Ac : Option Addr) (cc : Nat) (code : List Int) (Ax : Option Addr) (cx : Nat) (l : List Int) (w : World) (hC : Kd.C (Kd.int .i64) w A st.length st) (hc : st.length ≤ c) (hCc : Kd.C (Kd.int .u8) w Ac code.length code) (hcc : code.length ≤ cc) (hCx : Kd.C (Kd.int .i64) w Ax l.length l) (hcx : l.length ≤ cx) (hby : Bytes code) (hlen : code.length ≤ 1099511627776) :
    Calls Try.prog 42 #[.agg #[.int .i64 kind, .slice A st.length c], .slice Ac code.length cc, .slice Ax l.length cx] w (DecodePost w (decodeR kind st code l)) := by
  have HC := Aside0.mk hC
  have HCC := Aside0.mk hCc
  have HCX := Aside0.mk hCx
  have HBY := Aside0.mk hby
  have hu := Try.underlying24
  have hmax : l.length ≤ 9223372036854775807 := Kd.C_max hCx
  have hmax2 : st.length ≤ 9223372036854775807 := Kd.C_max hC
  clear hC hCc hCx hby
  obtain ⟨r, hr⟩ : ∃ r, r = decodeR kind st code l := ⟨_, rfl⟩
  rw [← hr]
  have HR := Aside0.mk hr
  clear hr
  by_cases hm : okModel kind st
  · have HM := Aside0.mk hm
    clear hm
    go_enter Try.func42, Try.ntmps42
    go_wp2_with (fail)
    obtain ⟨W0, hW0⟩ : ∃ W0, W0 = (w.alloc (.cells #[.int .i64 kind, .slice A st.length c] 24)).alloc (.cells #[.int .i64 0, .slice none 0 0] 24) := ⟨_, rfl⟩
    have hb0 := Aside0.mk (show Below w.heap.size w W0 from hW0 ▸ below_alloc (below_alloc (Below.refl w.heap.size w) _) _)
    obtain ⟨b0, hb0e⟩ : ∃ b0, w.heap.size = b0 := ⟨_, rfl⟩
    obtain ⟨b1, hb1e⟩ : ∃ b1, w.heap.size + 1 = b1 := ⟨_, rfl⟩
    have hy0 : Aside0 (W0.heap[b0]? = some (.cells #[.int .i64 kind, .slice A st.length c] 24 (0, 0))) := ⟨by rw [hW0, ← hb0e]; exact blk_alloc (heap_new w _) _⟩
    have hz0 : Aside0 (W0.heap[b1]? = some (.cells #[.int .i64 0, .slice none 0 0] 24 (0, 0))) := ⟨by
      have h := heap_new (w.alloc (.cells #[.int .i64 kind, .slice A st.length c] 24)) (.cells #[.int .i64 0, .slice none 0 0] 24)
      rw [World.size_alloc] at h
      rw [hW0, ← hb1e]
      exact h⟩
    have hsz : Aside0 (W0.heap.size = w.heap.size + 2 ∧ b0 = w.heap.size ∧ b1 = w.heap.size + 1) := ⟨by rw [hW0]; simp, hb0e.symm, hb1e.symm⟩
    rw [← hW0, hb1e, hb0e]
    clear hW0 hb1e hb0e
    refine (new_dec A c kind st Ac cc code _ (Kd.C_below HC.out hb0.out) hc HM.out (Kd.C_below HCC.out hb0.out) hcc HBY.out hlen).mono ?_
    rintro e w1 ⟨g, rfl, hE1, hB1⟩
    obtain ⟨E, hE⟩ : ∃ E, w1.heap.size = E := ⟨_, rfl⟩
    have HD0 : Aside0 (DMem DecAt w W0.heap.size E b1 g (newDS kind st code) none 0 [] w1) := ⟨⟨hE1.mono (fun j hj => ⟨hj.1, hE ▸ hj.2⟩), newDS_ok HM.out HBY.out hlen, blk_below hz0.out hB1, Kd.R_nil _ _ _ _ _, below_then hb0.out hb0.out.size hB1, hb0.out.size, hE ▸ hB1.size, Nat.le_of_eq hE.symm, by have := hsz.out; omega, by have := hsz.out; omega⟩⟩
    have HY1 := Aside0.mk (blk_below hy0.out hB1)
    have y1 : w1.cell? ⟨b0, 1, none⟩ = some (.slice A st.length c) := (blk_cell HY1.out 1).trans rfl
    clear hE1 hB1 hE hy0 hz0
    go_wp2
    go_loopw [11, 33] (fun bv i wr => ∃ (k : Nat) (bb : Bool), k ≤ l.length ∧ bv = .bool bb ∧ i = .int .i64 k ∧ wr = w1 ∧ Aside0 (bb = badK st.length l k)) (fun _ i _ => l.length - (intOf i).toNat)
    case atStart => exact ⟨0, _, Nat.zero_le _, rfl, rfl, rfl, ⟨by simp [badK]; omega⟩⟩
    case round =>
    obtain ⟨k, bb, hk, rfl, rfl, rfl, HBB⟩ := hrel
    by_cases hlt : k < l.length
    · obtain ⟨ad, hA, hx⟩ := Kd.at_int (Kd.C_below HCX.out HD0.out.b) (k : Int) (by omega) (by omega)
      subst hA
      rw [Int.toNat_natCast] at hx
      have hst := badK_succ hlt st.length
      rw [← HBB.out] at hst
      obtain ⟨x, hx0⟩ : ∃ x, rd l (k : Int) = x := ⟨_, rfl⟩
      rw [hx0] at hx hst
      have HST := Aside0.mk hst
      clear hx0 hst
      cases bb with
      | true =>
        go_wp2
        go_roundw
        case rel => exact ⟨k + 1, true, by omega, rfl, by go_num, (by first | rfl | trivial), ⟨by rw [HST.out]; rfl⟩⟩
        case measure => simp [intOf]; omega
      | false =>
        by_cases h1 : x < 0
        · have hb : bad1 st.length x = true := by simp [bad1, h1]
          have HB1 := Aside0.mk hb
          clear hb
          go_wp2
          go_roundw
          case rel => exact ⟨k + 1, true, by omega, rfl, by go_num, (by first | rfl | trivial), ⟨by rw [HST.out, HB1.out]; rfl⟩⟩
          case measure => simp [intOf]; omega
        · by_cases h2 : x ≥ (st.length : Int)
          · have hb : bad1 st.length x = true := by simp [bad1, h2]
            have HB1 := Aside0.mk hb
            clear hb
            go_wp2
            go_roundw
            case rel => exact ⟨k + 1, true, by omega, rfl, by go_num, (by first | rfl | trivial), ⟨by rw [HST.out, HB1.out]; rfl⟩⟩
            case measure => simp [intOf]; omega
          · have hb : bad1 st.length x = false := by simp only [bad1, Bool.or_eq_false_iff, decide_eq_false_iff_not]; omega
            have HB1 := Aside0.mk hb
            clear hb
            go_wp2
            go_roundw
            case rel => exact ⟨k + 1, false, by omega, rfl, by go_num, (by first | rfl | trivial), ⟨by rw [HST.out, HB1.out]; rfl⟩⟩
            case measure => simp [intOf]; omega
    have hkl : k = l.length := by omega
    subst hkl
    cases bb with
    | true =>
      have z0 : wr.cell? ⟨b1, 0, none⟩ = some (.int .i64 0) := (blk_cell HD0.out.z 0).trans rfl
      have z1 : wr.cell? ⟨b1, 1, none⟩ = some (.slice none 0 0) := (blk_cell HD0.out.z 1).trans rfl
      have zf0 := blk_frozen HD0.out.z 0
      have zf1 := blk_frozen HD0.out.z 1
      go_wp2
      refine bodyPost_ret (results_list (rs := [.tmp 6, .cell 7 24, .tmp 8, .tmp 9]) rfl (by simp) (.tmp (.cell b1 24 #[.int .i64 0, .slice none 0 0] (0, 0) _ rfl (by refine blk_put (cs := #[.int .i64 0, .slice none 0 0]) ?_ 1 _ rfl; exact blk_put (cs := #[.int .i64 0, .slice none 0 0]) HD0.out.z 0 _ rfl) Try.underlying24 rfl (by kernel_rfl) (.tmp (.tmp .nil))))) rfl ?_
      have hr := HR.out
      unfold decodeR at hr
      rw [if_pos HM.out, if_pos HBB.out.symm] at hr
      rw [hr]
      have hwb := HD0.out.wb
      exact dec_fail w _ 2 ((HD0.out.b.setCell hwb _).setCell hwb _) _ rfl
    | false =>
    have HBD := Aside0.mk (show ¬ badK st.length l l.length = true from by rw [← HBB.out]; decide)
    have hl5 : l.length ≤ 100000 := by
      have h := HBB.out
      unfold badK at h
      have h2 := (Bool.or_eq_false_iff.1 h.symm).1
      simpa using h2
    clear hk hlt y1 HY1
    go_wp2
    go_loopw [6, 54] (fun o i wr => ∃ (k : Nat) (s : DS) (A5 : Option Addr) (c5 : Nat) (acc : List Int), k ≤ l.length ∧ o = .slice A5 acc.length c5 ∧ i = .int .i64 k ∧ Aside0 (acc.length = k) ∧ Aside0 (DMem DecAt w W0.heap.size E b1 g s A5 c5 acc wr) ∧ Aside0 (getsD s acc (l.drop k) = getsD (newDS kind st code) [] l)) (fun _ i _ => l.length - (intOf i).toNat)
    case atStart => exact ⟨0, newDS kind st code, none, 0, [], Nat.zero_le _, rfl, rfl, ⟨rfl⟩, HD0, ⟨rfl⟩⟩
    clear HD0
    case round =>
      obtain ⟨k, s, A5, c5, acc, hk, rfl, rfl, HAL, HD, HP⟩ := hrel
      by_cases hlt : k < l.length
      · obtain ⟨ad, hA, hx⟩ := Kd.at_int (Kd.C_below HCX.out HD.out.b) (k : Int) (by omega) (by omega)
        subst hA
        rw [Int.toNat_natCast] at hx
        have hst := getsD_step hlt s acc
        rw [HP.out] at hst
        obtain ⟨x, hx0⟩ : ∃ x, rd l (k : Int) = x := ⟨_, rfl⟩
        rw [hx0] at hx hst
        have hbit := getI_bit s x
        have hg0 := get_calls wr (fun j => W0.heap.size ≤ j ∧ j < E) g s x HD.out.e (fun j hj => Nat.lt_of_lt_of_le hj.2 HD.out.EW) HD.out.ok
        have hok := DS.getI_ok HD.out.ok x
        obtain ⟨s', bit, er, hs'⟩ : ∃ s' bit er, s.getI x = (s', bit, er) := ⟨_, _, _, rfl⟩
        rw [hs'] at hst hbit hg0 hok
        have HG := Aside0.mk hg0
        have HST := Aside0.mk hst
        have HOK := Aside0.mk hok
        obtain ⟨hbit0, hbit1⟩ := hbit
        clear hx0 hs' hg0 hst hok
        by_cases her : er = 0
        · subst her
          obtain ⟨acc', hac⟩ : ∃ acc', acc ++ [bit] = acc' := ⟨_, rfl⟩
          have HAC := Aside0.mk hac
          have hlen8 : acc.length ≤ 100000 := by have := HAL.out; omega
          have HACL := Aside0.mk (show acc'.length = k + 1 by rw [← hac, List.length_append, HAL.out]; rfl)
          clear hac
          go_wp2_with (first
            | (go_at_call 34; refine HG.out.mono ?_; rintro e w6 ⟨rfl, hE6, hM6⟩; have HD6 := Aside0.mk (HD.out.get hE6 HOK.out hM6); clear hE6 hM6)
            | (at_builtin; refine Kd.R_append (Kd.int .u8) (w0 := w) w.heap.size (by rfl) (.tmp 68) (.tmp 71) 34 5 (.int .u8 0) 1 rfl Try.underlying34 infoU8 rfl (by decide) (by decide) (.slice A5 acc.length c5) acc bit [.int .u8 bit] (fun j => E ≤ j) (fun _ => False) rfl rfl rfl (fun _ h => h.elim) (fun _ h => Nat.le_trans HD6.out.EW h) HD6.out.r HD6.out.b HD6.out.b.size (by omega) ?_; intro v8 w8 hR8 hB8 hg8 hat8; rw [HAC.out] at hR8; obtain ⟨A8, c8, hv8⟩ := Kd.R_slice hR8; subst hv8; have HD8 := Aside0.mk (DMem.app (At := DecAt) (fun h hk hn => DecAt.kept h hk hn) HD6.out hg8 hR8 hB8); clear hR8 hB8 hg8 hat8))
          go_roundw
          case rel => exact ⟨k + 1, s', A8, c8, acc', by omega, rfl, by go_num, HACL, HD8, ⟨by rw [← HAC.out]; exact HST.out.symm⟩⟩
          case measure => simp [intOf]; omega
        · have HER := Aside0.mk her
          go_wp2_with (go_at_call 34; refine HG.out.mono ?_; rintro e w6 ⟨rfl, hE6, hM6⟩; have HD6 := Aside0.mk (HD.out.get hE6 HOK.out hM6); have z0 : w6.cell? ⟨b1, 0, none⟩ = some (.int .i64 0) := (blk_cell HD6.out.z 0).trans rfl; have z1 : w6.cell? ⟨b1, 1, none⟩ = some (.slice none 0 0) := (blk_cell HD6.out.z 1).trans rfl; have zf0 := blk_frozen HD6.out.z 0; have zf1 := blk_frozen HD6.out.z 1; clear hE6 hM6)
          refine bodyPost_ret (results_list (rs := [.tmp 6, .cell 7 24, .tmp 8, .tmp 9]) rfl (by simp) (.tmp (.cell b1 24 #[.int .i64 0, .slice none 0 0] (0, 0) _ rfl (by refine blk_put (cs := #[.int .i64 0, .slice none 0 0]) ?_ 1 _ rfl; exact blk_put (cs := #[.int .i64 0, .slice none 0 0]) HD6.out.z 0 _ rfl) Try.underlying24 rfl (by kernel_rfl) (.tmp (.tmp .nil))))) rfl ?_
          have hr := HR.out
          unfold decodeR at hr
          have h5 := HST.out
          rw [if_neg HER.out] at h5
          rw [if_pos HM.out, if_neg HBD.out, h5, if_neg HER.out] at hr
          rw [hr]
          have hwb := HD6.out.wb
          exact dec_fail w _ er ((HD6.out.b.setCell hwb _).setCell hwb _) _ rfl
      · have hkl : k = l.length := by omega
        have hp := HP.out
        rw [hkl, List.drop_length] at hp
        have HP := Aside0.mk hp.symm
        clear hp hkl
        obtain ⟨A0, c0, vc0, hEr⟩ := HD.out.e
        have HEr := Aside0.mk hEr
        clear hEr
        go_wp2
        have HEr := Aside0.mk HEr.out.drew
        have p0 := HEr.out.iv.k
        have p1 := HEr.out.iv.s
        have p2 := HEr.out.c39
        have HRr := Aside0.mk (Kd.R_drew (Kd.R_mono HD.out.r (fun _ _ => (trivial : (fun _ => True) _))))
        have HBr := Aside0.mk (below_drew HD.out.b)
        have HKA := Aside0.mk HEr.out.g
        have hgb : g ≠ b1 := fun he => by have h1 := HEr.out.g.1; have h2 := HD.out.bB; omega
        have HZ : Aside0 (wr.drew.heap[b1]? = some (.cells #[.int .i64 0, .slice none 0 0] 24 (0, 0))) := ⟨HD.out.z⟩
        have z0 : wr.drew.cell? ⟨b1, 0, none⟩ = some (.int .i64 0) := (blk_cell HZ.out 0).trans rfl
        have z1 : wr.drew.cell? ⟨b1, 1, none⟩ = some (.slice none 0 0) := (blk_cell HZ.out 1).trans rfl
        have zf0 := blk_frozen HZ.out 0
        have zf1 := blk_frozen HZ.out 1
        refine start_ (n := 14) (S := fun w' => w'.cell? ⟨g, 0, none⟩ = some (.int .i64 s.kind) ∧ w'.cell? ⟨g, 1, none⟩ = some (.slice A0 s.st.length c0) ∧ w'.cell? ⟨g, 39, none⟩ = some (.int .i64 ((s.a - s.code.length : Nat) : Int))) (ds := []) #[false, false, false, false, false, false, false, false, false, false, false, false, false, false] (by kernel_rfl) rfl rfl ⟨p0, p1, p2⟩ (fun hHeld => ?_)
        generalize wr.drew = wd at p0 p1 p2 z0 z1 zf0 zf1 HEr HZ HRr HBr hHeld ⊢
        refine pure_ (i := 0) (N := some 74) (v := ?_) (a' := ?_) #[true, false, false, false, false, false, false, false, false, false, false, false, false, false] rfl rfl (by kernel_rfl) (fun _ _ _ h => h) (Or.inl ⟨by rfl, ?_⟩) ?_ ?_
        rotate_left
        · intro w'
          go_simp
          with_reducible rfl
        rotate_left
        · simp only [Act.put, List.setIfInBounds_toArray, List.set_cons_zero, List.set_cons_succ, i64_w, i32_w]
          rfl
        refine pure_ (i := 1) (N := some 75) (v := ?_) (a' := ?_) #[true, true, false, false, false, false, false, false, false, false, false, false, false, false] rfl rfl (by kernel_rfl) (fun _ _ _ h => h) (Or.inl ⟨by rfl, ?_⟩) ?_ ?_
        rotate_left
        · intro w'
          go_simp
          with_reducible rfl
        rotate_left
        · simp only [Act.put, List.setIfInBounds_toArray, List.set_cons_zero, List.set_cons_succ, i64_w, i32_w]
          rfl
        refine pure_ (i := 2) (N := some 76) (v := ?_) (a' := ?_) #[true, true, true, false, false, false, false, false, false, false, false, false, false, false] rfl rfl (by kernel_rfl) (fun _ _ _ h => h) (Or.inl ⟨by rfl, ?_⟩) ?_ ?_
        rotate_left
        · intro w'
          go_simp
          with_reducible rfl
        rotate_left
        · simp only [Act.put, List.setIfInBounds_toArray, List.set_cons_zero, List.set_cons_succ, i64_w, i32_w]
          rfl
        refine pure_ (i := 3) (N := some 77) (v := ?_) (a' := ?_) #[true, true, true, true, false, false, false, false, false, false, false, false, false, false] rfl rfl (by kernel_rfl) (fun _ _ _ h => h) (Or.inl ⟨by rfl, ?_⟩) ?_ ?_
        rotate_left
        · intro w'
          go_simp
          with_reducible rfl
        rotate_left
        · simp only [Act.put, List.setIfInBounds_toArray, List.set_cons_zero, List.set_cons_succ, i64_w, i32_w]
          rfl
        refine pure_ (i := 4) (N := some 78) (v := ?_) (a' := ?_) #[true, true, true, true, true, false, false, false, false, false, false, false, false, false] rfl rfl (by kernel_rfl) (fun _ _ _ h => h) (Or.inl ⟨by rfl, ?_⟩) ?_ ?_
        rotate_left
        · intro w'
          go_simp
          with_reducible rfl
        rotate_left
        · simp only [Act.put, List.setIfInBounds_toArray, List.set_cons_zero, List.set_cons_succ, i64_w, i32_w]
          rfl
        refine pure_ (i := 6) (N := some 80) (v := ?_) (a' := ?_) #[true, true, true, true, true, false, true, false, false, false, false, false, false, false] rfl rfl (by kernel_rfl) (fun _ _ _ h => h) (Or.inl ⟨by rfl, ?_⟩) ?_ ?_
        rotate_left
        · intro w'
          go_simp
          with_reducible rfl
        rotate_left
        · simp only [Act.put, List.setIfInBounds_toArray, List.set_cons_zero, List.set_cons_succ, i64_w, i32_w]
          rfl
        refine pure_ (i := 7) (N := some 81) (v := ?_) (a' := ?_) #[true, true, true, true, true, false, true, true, false, false, false, false, false, false] rfl rfl (by kernel_rfl) (fun _ _ _ h => h) (Or.inl ⟨by rfl, ?_⟩) ?_ ?_
        rotate_left
        · intro w'
          go_simp
          with_reducible rfl
        rotate_left
        · simp only [Act.put, List.setIfInBounds_toArray, List.set_cons_zero, List.set_cons_succ, i64_w, i32_w]
          rfl
        refine pure_ (i := 8) (N := some 82) (v := ?_) (a' := ?_) #[true, true, true, true, true, false, true, true, true, false, false, false, false, false] rfl rfl (by kernel_rfl) (fun _ _ _ h => h) (Or.inl ⟨by rfl, ?_⟩) ?_ ?_
        rotate_left
        · intro w'
          go_simp
          with_reducible rfl
        rotate_left
        · simp only [Act.put, List.setIfInBounds_toArray, List.set_cons_zero, List.set_cons_succ, i64_w, i32_w]
          rfl
        refine pure_ (i := 10) (N := some 6) (v := ?_) (a' := ?_) #[true, true, true, true, true, false, true, true, true, false, true, false, false, false] rfl rfl (by kernel_rfl) (fun _ _ _ h => h) (Or.inl ⟨by rfl, ?_⟩) ?_ ?_
        rotate_left
        · intro w'
          go_simp
          with_reducible rfl
        rotate_left
        · simp only [Act.put, List.setIfInBounds_toArray, List.set_cons_zero, List.set_cons_succ, i64_w, i32_w]
          rfl
        refine take_ (i := 5) (N := some 79) (v := ?_) (a' := ?_) #[true, true, true, true, true, true, true, true, true, false, true, false, false, false] rfl rfl (by kernel_rfl) (fun _ _ _ h => h) (Or.inl ⟨by rfl, ?_⟩) hHeld ?_ ?_
        rotate_left
        · rintro w' ⟨s0, s1, s2⟩
          go_simp
          with_reducible rfl
        rotate_left
        · simp only [Act.put, List.setIfInBounds_toArray, List.set_cons_zero, List.set_cons_succ, i64_w, i32_w]
          rfl
        refine take_ (i := 9) (N := some 83) (v := ?_) (a' := ?_) #[true, true, true, true, true, true, true, true, true, true, true, false, false, false] rfl rfl (by kernel_rfl) (fun _ _ _ h => h) (Or.inl ⟨by rfl, ?_⟩) hHeld ?_ ?_
        rotate_left
        · rintro w' ⟨s0, s1, s2⟩
          go_simp
          with_reducible rfl
        rotate_left
        · simp only [Act.put, List.setIfInBounds_toArray, List.set_cons_zero, List.set_cons_succ, i64_w, i32_w]
          rfl
        refine one_ (i := 11) (N := none) #[true, true, true, true, true, true, true, true, true, true, true, true, false, false] rfl rfl (by kernel_rfl) (by decide) (fun K hK => ?_)
        refine skip_ (w1 := ?_) (by rfl) rfl ?_ ?_
        rotate_left
        · go_simp
          rfl
        refine hK.out _ _ ⟨cell_far hgb _ (cell_far hgb _ p0), cell_far hgb _ (cell_far hgb _ p1), cell_far hgb _ (cell_far hgb _ p2)⟩ (fun hHeld => ?_)
        clear hK K
        refine pure_ (i := 12) (N := some 8) (v := ?_) (a' := ?_) #[true, true, true, true, true, true, true, true, true, true, true, true, true, false] rfl rfl (by kernel_rfl) (fun _ _ _ h => h) (Or.inl ⟨by rfl, ?_⟩) ?_ ?_
        rotate_left
        · intro w'
          go_simp
          with_reducible rfl
        rotate_left
        · simp only [Act.put, List.setIfInBounds_toArray, List.set_cons_zero, List.set_cons_succ, i64_w, i32_w]
          rfl
        refine pure_ (i := 13) (N := some 9) (v := ?_) (a' := ?_) #[true, true, true, true, true, true, true, true, true, true, true, true, true, true] rfl rfl (by kernel_rfl) (fun _ _ _ h => h) (Or.inl ⟨by rfl, ?_⟩) ?_ ?_
        rotate_left
        · intro w'
          go_simp
          with_reducible rfl
        rotate_left
        · simp only [Act.put, List.setIfInBounds_toArray, List.set_cons_zero, List.set_cons_succ, i64_w, i32_w]
          rfl
        refine done_ (by kernel_rfl) ?_

        go_wp2
        have hz2 : (wd.setCell ⟨b1, 0, none⟩ (.int .i64 s.kind)).heap[b1]? = some (.cells #[.int .i64 s.kind, .slice none 0 0] 24 (0, 0)) := blk_put (cs := #[.int .i64 0, .slice none 0 0]) HZ.out 0 _ rfl
        refine bodyPost_ret (results_list (rs := [.tmp 6, .cell 7 24, .tmp 8, .tmp 9]) rfl (by simp) (.tmp (.cell b1 24 #[.int .i64 s.kind, .slice A0 s.st.length c0] (0, 0) _ rfl (blk_put (cs := #[.int .i64 s.kind, .slice none 0 0]) hz2 1 _ rfl) Try.underlying24 rfl (by kernel_rfl) (.tmp (.tmp .nil))))) rfl ?_
        have hr := HR.out
        unfold decodeR at hr
        rw [if_pos HM.out, if_neg HBD.out, HP.out] at hr
        rw [hr]
        have hwb := HD.out.wb
        refine ⟨A5, c5, A0, c0, rfl, ?_, ?_, (HBr.out.setCell hwb _).setCell hwb _⟩
        · exact Kd.R_set (Kd.R_set HRr.out HZ.out (by decide) _ _) hz2 (by decide) _ _
        · refine Kd.R_set (Kd.R_set ?_ HZ.out (by decide) _ _) hz2 (by decide) _ _
          exact Kd.R_raise (b := 0) (fun _ _ _ _ h => h) (Kd.R_mono HEr.out.s (fun _ _ => trivial)) (fun k hk => Nat.le_trans HD.out.wB (HEr.out.s.1 k hk).1)
  · have HM := Aside0.mk hm
    clear hm
    go_enter Try.func42, Try.ntmps42
    go_wp2_with (fail)
    obtain ⟨W0, hW0⟩ : ∃ W0, W0 = (w.alloc (.cells #[.int .i64 kind, .slice A st.length c] 24)).alloc (.cells #[.int .i64 0, .slice none 0 0] 24) := ⟨_, rfl⟩
    have hb0 := Aside0.mk (show Below w.heap.size w W0 from hW0 ▸ below_alloc (below_alloc (Below.refl w.heap.size w) _) _)
    obtain ⟨b0, hb0e⟩ : ∃ b0, w.heap.size = b0 := ⟨_, rfl⟩
    obtain ⟨b1, hb1e⟩ : ∃ b1, w.heap.size + 1 = b1 := ⟨_, rfl⟩
    have hy0 : Aside0 (W0.heap[b0]? = some (.cells #[.int .i64 kind, .slice A st.length c] 24 (0, 0))) := ⟨by rw [hW0, ← hb0e]; exact blk_alloc (heap_new w _) _⟩
    have hz0 : Aside0 (W0.heap[b1]? = some (.cells #[.int .i64 0, .slice none 0 0] 24 (0, 0))) := ⟨by
      have h := heap_new (w.alloc (.cells #[.int .i64 kind, .slice A st.length c] 24)) (.cells #[.int .i64 0, .slice none 0 0] 24)
      rw [World.size_alloc] at h
      rw [hW0, ← hb1e]
      exact h⟩
    have hsz : Aside0 (W0.heap.size = w.heap.size + 2 ∧ b0 = w.heap.size ∧ b1 = w.heap.size + 1) := ⟨by rw [hW0]; simp, hb0e.symm, hb1e.symm⟩
    rw [← hW0, hb1e, hb0e]
    clear hW0 hb1e hb0e
    refine (newdec_bad A c kind st _ _ (Kd.C_below HC.out hb0.out) hc HM.out).mono ?_
    rintro e w1 ⟨rfl, hB1⟩
    have HB1 := Aside0.mk (below_then hb0.out hb0.out.size hB1)
    have HZ1 := Aside0.mk (blk_below hz0.out hB1)
    have HWB := Aside0.mk (show w.heap.size ≤ b1 by have := hsz.out; omega)
    clear hB1 hy0 hz0 hb0
    have z0 : w1.cell? ⟨b1, 0, none⟩ = some (.int .i64 0) := (blk_cell HZ1.out 0).trans rfl
    have z1 : w1.cell? ⟨b1, 1, none⟩ = some (.slice none 0 0) := (blk_cell HZ1.out 1).trans rfl
    have zf0 := blk_frozen HZ1.out 0
    have zf1 := blk_frozen HZ1.out 1
    go_wp2
    refine bodyPost_ret (results_list (rs := [.tmp 6, .cell 7 24, .tmp 8, .tmp 9]) rfl (by simp) (.tmp (.cell b1 24 #[.int .i64 0, .slice none 0 0] (0, 0) _ rfl (by refine blk_put (cs := #[.int .i64 0, .slice none 0 0]) ?_ 1 _ rfl; exact blk_put (cs := #[.int .i64 0, .slice none 0 0]) HZ1.out 0 _ rfl) Try.underlying24 rfl (by kernel_rfl) (.tmp (.tmp .nil))))) rfl ?_
    have hr := HR.out
    unfold decodeR at hr
    rw [if_neg HM.out] at hr
    rw [hr]
    exact dec_fail w _ 10 ((HB1.out.setCell HWB.out _).setCell HWB.out _) _ rfl
end Go.Proofs.Ytpnmedmghncpiaa.Dcd
