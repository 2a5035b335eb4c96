import Derived.Test.YtmndieohblpgaaaMTopCodes1
import Derived.Laws.ResultCell
import Derived.Test.YtmndieohblpgaaaMTopCodes0
set_option linter.unusedVariables false
set_option linter.unusedSimpArgs false
namespace Go.Proofs.Ytmndieohblpgaaa.Pse
open Go Go.RowKit YtmndieohblpgaaaW PrintWords PrintLast PrintMore U Aid HandAid Cod1 Cod2 Cod3 Ytmndieohblpgaaa.Mod Enc Mods EncAt Put End Snc
/-- Events are put as far as they go well. -/
def putsE : ES → List S46 → ES × Int
 | s, [] => (s, 0)
 | s, x :: l => if s.err x.f0 x.f1 = 0 then putsE (s.putI x.f0 x.f1) l else (s, s.err x.f0 x.f1)
theorem putsE_out : ∀ (l : List S46) (s : ES), (putsE s l).1.out.length ≤ s.out.length + 4 * l.length
 | [], s => by simp [putsE]
 | x :: l, s => by
   unfold putsE
   split
   · have h1 := putsE_out l (s.putI x.f0 x.f1)
     have h2 := (ES.putI_len s x.f0 x.f1).1
     simp only [List.length_cons]
     omega
   · simp
theorem putsE_ok : ∀ (l : List S46) (s : ES), s.ok → (putsE s l).1.ok
 | [], s, h => h
 | x :: l, s, h => by
   unfold putsE
   split
   · exact putsE_ok l _ (ES.putI_ok h _ _)
   · exact h
theorem drop_rdE {l : List S46} {i : Nat} (h : i < l.length) : l.drop i = rd_T46 l (i : Int) :: l.drop (i + 1) := by
 rw [List.drop_eq_getElem_cons h]
 simp [rd_T46, List.getD_eq_getElem?_getD, List.getElem?_eq_getElem h]
theorem putsE_step {l : List S46} {i : Nat} (h : i < l.length) (s : ES) : putsE s (l.drop i) = if s.err (rd_T46 l i).f0 (rd_T46 l i).f1 = 0 then putsE (s.putI (rd_T46 l i).f0 (rd_T46 l i).f1) (l.drop (i + 1)) else (s, s.err (rd_T46 l i).f0 (rd_T46 l i).f1) := by
 rw [drop_rdE h]
 rfl
/-- An event that n contexts take. -/
def goodL (n : Nat) (x : S46) : Bool := decide (0 ≤ x.f0) && decide (x.f0 < n) && (decide (x.f1 = 0) || decide (x.f1 = 1))
theorem putsE_err : ∀ (l : List S46) (s : ES), (putsE s l).2 = if l.all (goodL s.st.length) = true then 0 else 2
 | [], s => rfl
 | x :: l, s => by
   unfold putsE
   rw [List.all_cons]
   by_cases c : goodL s.st.length x = true
   · rw [if_pos (show s.err x.f0 x.f1 = 0 from if_pos c), putsE_err l, (ES.putI_len s x.f0 x.f1).2.2, c, Bool.true_and]
   · have e2 : s.err x.f0 x.f1 = 2 := if_neg c
     rw [if_neg (by rw [e2]; decide), show goodL s.st.length x = false by simpa using c]
     rw [Bool.false_and, if_neg (by decide)]
     exact e2
theorem putsE_app : ∀ (l m : List S46) (s : ES), (putsE s l).2 = 0 → putsE s (l ++ m) = putsE (putsE s l).1 m
 | [], m, s, _ => rfl
 | x :: l, m, s, h => by
   unfold putsE at h
   by_cases c : s.err x.f0 x.f1 = 0
   · rw [if_pos c] at h
     rw [List.cons_append]
     conv => lhs; unfold putsE
     conv => rhs; arg 1; unfold putsE
     rw [if_pos c, if_pos c]
     exact putsE_app l m _ h
   · rw [if_neg c] at h
     exact absurd h c
theorem putsE_len : ∀ (l : List S46) (s : ES), (putsE s l).1.st.length = s.st.length
 | [], s => rfl
 | x :: l, s => by
   unfold putsE
   split
   · rw [putsE_len l]
     exact (ES.putI_len s x.f0 x.f1).2.2
   · rfl
end Go.Proofs.Ytmndieohblpgaaa.Pse
namespace Go.Proofs.Ytmndieohblpgaaa.Npu
open Go Go.RowKit YtmndieohblpgaaaW PrintWords PrintLast PrintMore U Aid HandAid Cod1 Cod2 Cod3 Ytmndieohblpgaaa.Mod Enc Mods EncAt Put End Snc Pse
/-- What an encoder's row in memory is kept by. -/
class EnL (At : World → (Nat → Prop) → Nat → ES → Prop) : Prop where
 kept : ∀ {W W' : World} {S S' : Nat → Prop} {g : Nat} {s : ES}, At W S g s → Mods W W' S' → (∀ k, S k → ¬ S' k) → At W' S g s
 below : ∀ {W W' : World} {S : Nat → Prop} {g : Nat} {s : ES}, At W S g s → Below W.heap.size W W' → At W' S g s
 mono : ∀ {W : World} {S S' : Nat → Prop} {g : Nat} {s : ES}, At W S g s → (∀ k, S k → S' k) → At W S' g s
instance : EnL EncAt := ⟨fun h hk hne => EncAt.kept h hk hne, fun h hb => EncAt.below h hb, fun h hs => EncAt.mono h hs⟩
/-- An encoder in a world that came of w by what it did. -/
structure PW (At : World → (Nat → Prop) → Nat → ES → Prop) (w : World) (S : Nat → Prop) (g : Nat) (s : ES) (W : World) : Prop where
 e : At W (fun k => (S k ∨ w.heap.size ≤ k) ∧ k < W.heap.size) g s
 m : Mods w W S
 ok : s.ok
section
variable {At : World → (Nat → Prop) → Nat → ES → Prop} [EnL At] {w W W' : World} {S : Nat → Prop} {g : Nat} {s s' : ES}
theorem PW.start (h : At w S g s) (hS : ∀ k, S k → k < w.heap.size) (hok : s.ok) : PW At w S g s w := ⟨EnL.mono h (fun k hk => ⟨.inl hk, hS k hk⟩), Mods.refl w S, hok⟩
theorem PW.below (H : PW At w S g s W) (hb : Below W.heap.size W W') : PW At w S g s W' := ⟨EnL.mono (EnL.below H.e hb) (fun k hk => ⟨hk.1, Nat.lt_of_lt_of_le hk.2 hb.size⟩), H.m.below hb, H.ok⟩
omit [EnL At] in
theorem PW.next [EnL At] (H : PW At w S g s W) (hE : At W' (fun k => (((S k ∨ w.heap.size ≤ k) ∧ k < W.heap.size) ∨ W.heap.size ≤ k) ∧ k < W'.heap.size) g s') (hM : Mods W W' (fun k => (S k ∨ w.heap.size ≤ k) ∧ k < W.heap.size)) (ok' : s'.ok) : PW At w S g s' W' :=
 ⟨EnL.mono hE (fun k hk => ⟨by rcases hk.1 with h | h; exact h.1; exact .inr (Nat.le_trans H.m.size h), hk.2⟩), H.m.then_ hM (fun k hk => hk.1), ok'⟩
end
theorem PW.put {w W : World} {S : Nat → Prop} {g : Nat} {s : ES} (H : PW EncAt w S g s W) (hlen : s.out.length ≤ 1099511627776) (i bit : Int) :
 Calls Try.prog 24 #[.pointer (some ⟨g, 0, none⟩), .int .i64 i, .int .i64 bit] W fun e W' => e = .returned (.int .i64 (s.err i bit)) ∧ PW EncAt w S g (s.putI i bit) W' := by
 refine (put_calls W _ g s i bit H.e H.ok hlen).mono ?_
 rintro e W' ⟨he, hE, hM⟩
 exact ⟨he, H.next hE hM (ES.putI_ok H.ok _ _)⟩
theorem err_or (s : ES) (i bit : Int) : s.err i bit = 0 ∨ s.err i bit = 2 := by
 unfold ES.err
 split
 · exact .inl rfl
 · exact .inr rfl
set_option maxHeartbeats 2000000 in
set_option maxRecDepth 100000 in
/-- Events are put, as far as they go well. -/
theorem nput_calls (w : World) (S : Nat → Prop) (g : Nat) (s : ES) (A : Option Addr) (c : Nat) (l : List S46) (hE : EncAt w S g s) (hS : ∀ k, S k → k < w.heap.size) (hok : s.ok) (hlen : s.out.length + 4 * l.length ≤ 1099511627776) (hC : ∀ W, Mods w W S → Kd.C k46 W A l.length l) (R : ES × Int) (hR : putsE s l = R) :
 Calls Try.prog 17 #[.pointer (some ⟨g, 0, none⟩), .slice A l.length c] w fun e W => e = .returned (.int .i64 R.2) ∧ PW EncAt w S g R.1 W := by
 have HC := A' hC
 have HP := A' (PW.start (At := EncAt) hE hS hok)
 have hu2 := Try.underlying46
 have hmax : l.length ≤ 9223372036854775807 := Kd.C_max (hC w (Mods.refl w S))
 clear hC hE hS hok
 go_enter Try.func17, Try.ntmps17
 go_wp2_with (fail)
 go_loopw [10] (fun i wr => ∃ (k : Nat) (s1 : ES), k ≤ l.length ∧ i = .int .i64 k ∧ putsE s1 (l.drop k) = R ∧ s1.out.length ≤ s.out.length + 4 * k ∧ Aside0 (PW EncAt w S g s1 wr)) (fun i _ => l.length - (intOf i).toNat)
 case atStart => exact ⟨0, s, Nat.zero_le _, rfl, hR, by omega, HP⟩
 clear HP
 case round =>
  obtain ⟨k, s1, hk, rfl, hR1, hn, HP⟩ := hrel
  by_cases hlt : k < l.length
  · obtain ⟨ad, hA, hx0, hx1⟩ := at_T46 (HC.out _ HP.out.m) (k : Int) (by omega) (by omega)
    subst hA
    rw [putsE_step hlt] at hR1
    obtain ⟨x, hx⟩ : ∃ x, rd_T46 l (k : Int) = x := ⟨_, rfl⟩
    rw [hx] at hx0 hx1 hR1
    simp only [Int.toNat_natCast] at hx0 hx1
    have hPp := fun W' (hp : PW EncAt w S g s1 W') => hp.put (by omega) x.f0 x.f1
    have hle := (ES.putI_len s1 x.f0 x.f1).1
    have HP2 := A' (HP.out.below (below_alloc (Below.refl _ _) (.cells #[.int .i64 x.f0, .int .i64 x.f1] 46)))
    clear hx
    by_cases her : s1.err x.f0 x.f1 = 0
    · rw [if_pos her] at hR1
      rw [her] at hPp
      have HPp := A' hPp
      clear hPp her
      go_wp2_with (go_at_call 24; refine (HPp.out _ HP2.out).mono ?_; rintro e w6 ⟨rfl, hP6⟩; have HP6 := A' hP6; clear hP6)
      go_roundw
      case rel => exact ⟨k + 1, _, by omega, by go_num, hR1, by omega, HP6⟩
      case measure => simp [intOf]; omega
    · have he2 : s1.err x.f0 x.f1 = 2 := (err_or _ _ _).resolve_left her
      have hpu : s1.putI x.f0 x.f1 = s1 := by
       unfold ES.err at her
       unfold ES.putI
       split
       · rename_i h; rw [if_pos h] at her; exact absurd rfl her
       · rfl
      rw [if_neg her, he2] at hR1
      rw [he2, hpu] at hPp
      have HPp := A' hPp
      subst hR1
      clear hPp her he2 hpu
      go_wp2_with (go_at_call 24; refine (HPp.out _ HP2.out).mono ?_; rintro e w6 ⟨rfl, hP6⟩; have HP6 := A' hP6; clear hP6)
      go_ret
      exact ⟨rfl, HP6.out⟩
  · rw [List.drop_eq_nil_of_le (by omega)] at hR1
    subst hR1
    go_wp2_with (fail)
    go_ret
    exact ⟨rfl, HP.out⟩
end Go.Proofs.Ytmndieohblpgaaa.Npu
namespace Go.Proofs.Ytmndieohblpgaaa.Nen
open Go Go.RowKit YtmndieohblpgaaaW PrintWords PrintLast PrintMore U Aid HandAid Cod1 Cod2 Cod3 Ytmndieohblpgaaa.Mod Enc Mods EncAt Put End Snc Num Evs RefEvs Pse Npu
/-- The events of numbers in the tree at 0. -/
def evsL (l : List S28) : List S46 := l.flatMap fun x => evAll 0 x.f0 x.f1
def okL (l : List S28) : Bool := l.all fun x => okNum x.f0 x.f1
theorem ev_bits (base : Int) (nn : Bool) (n : Int) : ∀ x ∈ evAll base nn n, x.f1 = 0 ∨ x.f1 = 1 := by
 unfold evAll
 cases nn
 · intro x hx
   rw [if_neg (by decide)] at hx
   unfold evList evHead evMid evDig evSign at hx
   simp only [List.mem_append, List.mem_cons, List.mem_map, List.mem_range] at hx
   rcases hx with ((( rfl | ⟨i, hi, rfl⟩) | hx) | ⟨i, hi, rfl⟩) | hx
   · exact .inl rfl
   · exact .inr rfl
   · split at hx
     · simp only [List.mem_singleton] at hx; subst hx; exact .inl rfl
     · simp at hx
   · simp only; omega
   · split at hx
     · simp at hx
     · simp only [List.mem_singleton] at hx; subst hx; simp only; split <;> simp
 · intro x hx
   rw [if_pos rfl] at hx
   simp only [List.mem_singleton] at hx
   subst hx; exact .inr rfl
/-- A number's events are good events of a tree that the model has. -/
theorem ev_all_good (base : Int) (nn : Bool) (n : Int) (hok : okNum nn n = true) (N : Nat) (h0 : 0 ≤ base) (h1 : base + 48 ≤ N) : (evAll base nn n).all (goodL N) = true := by
 rw [List.all_eq_true]
 intro x hx
 have hb := ev_bits base nn n x hx
 rw [← evAll_shift] at hx
 obtain ⟨y, hy, e⟩ := List.mem_map.1 hx
 have hc := evAll_ctx nn n hok y hy
 have e0 : y.f0 + base = x.f0 := congrArg (fun z => z.f0) e
 clear e
 unfold goodL
 simp only [Bool.and_eq_true, Bool.or_eq_true, decide_eq_true_eq]
 exact ⟨⟨by omega, by omega⟩, hb⟩
theorem evsL_good (N : Nat) (hN : 48 ≤ N) : ∀ (l : List S28), okL l = true → (evsL l).all (goodL N) = true
 | [], _ => rfl
 | x :: l, h => by
   unfold okL at h
   rw [List.all_cons, Bool.and_eq_true] at h
   have h2 := evsL_good N hN l h.2
   unfold evsL at h2 ⊢
   rw [List.flatMap_cons, List.all_append, ev_all_good 0 x.f0 x.f1 h.1 N (by decide) (by omega), h2]
   rfl
theorem evsL_len : ∀ (l : List S28), okL l = true → (evsL l).length ≤ 60 * l.length
 | [], _ => Nat.le_refl _
 | x :: l, h => by
   unfold okL at h
   rw [List.all_cons, Bool.and_eq_true] at h
   have h1 := evAll_len 0 x.f0 x.f1 h.1
   have h2 := evsL_len l h.2
   unfold evsL at h2 ⊢
   rw [List.flatMap_cons, List.length_append, List.length_cons]
   omega
theorem evsL_take {l : List S28} {k : Nat} (h : k < l.length) (x : S28) (hx : rd_T28 l (k : Int) = x) : evsL (l.take (k + 1)) = evsL (l.take k) ++ evAll 0 x.f0 x.f1 ∧ okL (l.take (k + 1)) = (okL (l.take k) && okNum x.f0 x.f1) ∧ x ∈ l := by
 have e : l[k] = x := by rw [← hx]; simp [rd_T28, List.getD_eq_getElem?_getD, List.getElem?_eq_getElem h]
 refine ⟨?_, ?_, e ▸ List.getElem_mem h⟩
 · unfold evsL
   rw [List.take_succ_eq_append_getElem h, List.flatMap_append, e]
   simp
 · unfold okL
   rw [List.take_succ_eq_append_getElem h, List.all_append, e]
   simp
theorem putsE_good (l : List S46) (s : ES) (h : l.all (goodL s.st.length) = true) : (putsE s l).2 = 0 := by
 rw [putsE_err, if_pos h]
/-- Encode's answer. -/
def encN (kind : Int) (l : List S28) : List Int × Int := if (kind = 0 ∨ kind = 1) ∧ l.length ≤ 20000 ∧ okL l = true then ((putsE (newES kind (List.replicate 48 0)) (evsL l)).1.end_, 0) else ([], 2)
def NEnc (w : World) (r : List Int × Int) (e : Ending) (w' : World) : Prop := ∃ A c, e = .returned (.tuple #[.slice A r.1.length c, .int .i64 r.2]) ∧ Kd.R (Kd.int .u8) 5 w' w.heap.size (fun _ => True) (.slice A r.1.length c) r.1 ∧ Below w.heap.size w w'
theorem NEnc.bad (w w' : World) (hb : Below w.heap.size w w') (e : Ending) (he : e = .returned (.tuple #[.slice none 0 0, .int .i64 2])) : NEnc w ([], 2) e w' := ⟨none, 0, he, Kd.R_nil _ _ _ _ _, hb⟩
section
variable {At : World → (Nat → Prop) → Nat → ES → Prop} [EnL At] {w W4 W5 W6 : World} {S : Nat → Prop} {g : Nat} {s s' : ES}
theorem _root_.Go.Proofs.Ytmndieohblpgaaa.Npu.PW.trans (H : PW At w S g s W4) (hb : Below W4.heap.size W4 W5) (H6 : PW At W5 (fun k => (S k ∨ w.heap.size ≤ k) ∧ k < W4.heap.size) g s' W6) : PW At w S g s' W6 :=
 ⟨EnL.mono H6.e (fun k hk => ⟨by rcases hk.1 with h | h; exact h.1; exact .inr (Nat.le_trans H.m.size (Nat.le_trans hb.size h)), hk.2⟩), (H.m.below hb).then_ H6.m (fun k hk => hk.1), H6.ok⟩
end
/-- Events that were made behind the encoder are put. -/
theorem _root_.Go.Proofs.Ytmndieohblpgaaa.Npu.PW.putl {w W4 W5 : World} {S : Nat → Prop} {g : Nat} {s : ES} (H : PW EncAt w S g s W4) (hb : Below W4.heap.size W4 W5) {ok : Nat → Prop} {A : Option Addr} {c : Nat} {l : List S46} (hR : Kd.R k46 46 W5 W4.heap.size ok (.slice A l.length c) l) (hlen : s.out.length + 4 * l.length ≤ 1099511627776) :
 Calls Try.prog 17 #[.pointer (some ⟨g, 0, none⟩), .slice A l.length c] W5 fun e W => e = .returned (.int .i64 (putsE s l).2) ∧ PW EncAt w S g (putsE s l).1 W := by
 refine (nput_calls W5 (fun k => (S k ∨ w.heap.size ≤ k) ∧ k < W4.heap.size) g s A c l (EnL.below H.e hb) (fun k hk => Nat.lt_of_lt_of_le hk.2 hb.size) H.ok hlen ?_ _ rfl).mono ?_
 · intro W hM
   exact (Kd.R_reads' (Kd.R_step (Kd.R_bound hR) (fun k hk hlt => hM.block k hlt (fun hs => by have := hs.2; have := hk.2.1; omega)))).2.2
 · rintro e W ⟨he, hP⟩
   exact ⟨he, H.trans hb hP⟩
theorem newM48 (kind : Int) : ((kind = 0 ∨ kind = 1) ∧ newModel kind 48 = (kind, List.replicate 48 0, 0)) ∨ (¬ (kind = 0 ∨ kind = 1) ∧ newModel kind 48 = (0, [], 2)) := by
 unfold newModel
 by_cases c : kind = 0 ∨ kind = 1
 · rw [if_pos ⟨c, by decide, by decide⟩]; exact .inl ⟨c, rfl⟩
 · rw [if_neg (fun h => c h.1)]; exact .inr ⟨c, rfl⟩
set_option maxHeartbeats 2000000 in
set_option maxRecDepth 100000 in
theorem nencode_calls (kind : Int) (A0 : Option Addr) (c0 : Nat) (l : List S28) (w : World) (hC0 : Kd.C k28 w A0 l.length l) (hc0 : l.length ≤ c0) :
 Calls Try.prog 6 #[.int .i64 kind, .slice A0 l.length c0] w (NEnc w (encN kind l)) := by
 have HC0 := A' hC0
 have hu := Try.underlying48
 have hu23 := Try.underlying28
 have hmax : l.length ≤ 9223372036854775807 := Kd.C_max hC0
 clear hC0
 obtain ⟨R, hR⟩ : ∃ r, encN kind l = r := ⟨_, rfl⟩
 rw [hR]
 unfold encN at hR
 go_enter Try.func6, Try.ntmps6
 go_wp2_with (fail)
 refine (new_calls kind 48 w).mono ?_
 rintro e w1 ⟨A, c, rfl, hRM, hb1⟩
 rcases newM48 kind with ⟨hk, hnm⟩ | ⟨hk, hnm⟩
 · have hmok : okModel kind (List.replicate 48 0) := by have := new_ok kind 48 (by rw [hnm]); rw [hnm] at this; exact this
   rw [hnm] at hRM ⊢
   generalize hst : List.replicate 48 (0 : Int) = st at hR hRM hmok ⊢
   have HST := A' (show st.length = 48 by rw [← hst]; exact List.length_replicate)
   clear hst
   have HM := A' hmok
   obtain ⟨hcA, hcB, hCM⟩ := Kd.R_reads' hRM
   obtain ⟨b6, hb6⟩ : ∃ x, w1.heap.size = x := ⟨_, rfl⟩
   obtain ⟨W2, hW2⟩ : ∃ x, w1.alloc (.cells #[.int .i64 kind, .slice A st.length c] 48) = x := ⟨_, rfl⟩
   have HB2 := A' (show Below w.heap.size w W2 from hW2 ▸ below_alloc hb1 _)
   have HCM := A' (show Kd.C (Kd.int .i64) W2 A st.length st from hW2 ▸ Kd.C_below hCM (below_alloc (Below.refl _ _) _))
   have HZ2 := A' (show W2.heap[b6]? = some (.cells #[.int .i64 kind, .slice A st.length c] 48 (0, 0)) from hW2 ▸ hb6 ▸ heap_new w1 _)
   have k0 : W2.cell? ⟨b6, 0, none⟩ = some (.int .i64 kind) := (blk_cell HZ2.out 0).trans rfl
   have k1 : W2.cell? ⟨b6, 1, none⟩ = some (.slice A st.length c) := (blk_cell HZ2.out 1).trans rfl
   clear hmok hRM hCM hnm hcA hb1
   by_cases hl : l.length ≤ 20000
   · have hl2 : ¬ (l.length : Int) > 20000 := by omega
     go_wp2_with (fail)
     clear hW2 hb6
     refine (new_enc A c kind st W2 HCM.out hcB HM.out).mono ?_
     rintro e W3 ⟨g, rfl, hE3, hB3⟩
     have HP3 := A' (PW.start (At := EncAt) hE3 (fun k hk => hk.2) (newES_ok HM.out))
     have HB3 := A' (below_then HB2.out HB2.out.size hB3)
     have HS3 := A' (show ∀ k, Since W2.heap.size W3 k → w.heap.size ≤ k from fun k hk => Nat.le_trans HB2.out.size hk.1)
     clear hE3 hB3 k0 k1 HZ2 HCM HM
     go_wp2_with (fail)
     go_loopw [31] (fun i wr => ∃ (k : Nat) (s : ES), k ≤ l.length ∧ i = .int .i64 k ∧ okL (l.take k) = true ∧ putsE (newES kind st) (evsL (l.take k)) = (s, 0) ∧ Aside0 (s.st.length = 48) ∧ s.out.length ≤ 240 * k ∧ Aside0 (PW EncAt W3 (Since W2.heap.size W3) g s wr)) (fun i _ => l.length - (intOf i).toNat)
     case atStart => exact ⟨0, newES kind st, Nat.zero_le _, rfl, rfl, rfl, HST, Nat.zero_le _, HP3⟩
     clear HP3
     case round =>
      obtain ⟨k, s, hkl, rfl, hok, hpu, hsl, hsn, HP⟩ := hrel
      have HBr := A' (below_mods HB3.out HP.out.m HS3.out HB3.out.size)
      by_cases hlt : k < l.length
      · obtain ⟨ad, hA, hx0, hx1⟩ := at_T28 (Kd.C_below HC0.out HBr.out) (k : Int) (by omega) (by omega)
        subst hA
        obtain ⟨x, hx⟩ : ∃ x, rd_T28 l (k : Int) = x := ⟨_, rfl⟩
        obtain ⟨et, eo, hmem⟩ := evsL_take hlt x hx
        rw [hx] at hx0 hx1
        simp only [Int.toNat_natCast] at hx0 hx1
        obtain ⟨b11, hb11⟩ : ∃ x, wr.heap.size = x := ⟨_, rfl⟩
        obtain ⟨W4, hW4⟩ : ∃ y, wr.alloc (.cells #[.bool x.f0, .int .i64 x.f1] 28) = y := ⟨_, rfl⟩
        have HP4 := A' (show PW EncAt W3 (Since W2.heap.size W3) g s W4 from hW4 ▸ HP.out.below (below_alloc (Below.refl _ _) _))
        have HZ4 := A' (show W4.heap[b11]? = some (.cells #[.bool x.f0, .int .i64 x.f1] 28 (0, 0)) from hW4 ▸ hb11 ▸ heap_new wr _)
        have v0 : W4.cell? ⟨b11, 0, none⟩ = some (.bool x.f0) := (blk_cell HZ4.out 0).trans rfl
        have v1 : W4.cell? ⟨b11, 1, none⟩ = some (.int .i64 x.f1) := (blk_cell HZ4.out 1).trans rfl
        go_wp2_with (fail)
        clear hW4 hb11 HP hx0 hx1
        refine (number_Valid.calls x.f0 x.f1 (okNum x.f0 x.f1) W4 (valid_eq _ _)).mono ?_
        rintro e W5 ⟨rfl, hb5⟩
        have HP5 := A' (HP4.out.below hb5)
        have HZ5 := A' (blk_below HZ4.out hb5)
        clear v0 v1 hb5 HP4 HZ4
        have v0 : W5.cell? ⟨b11, 0, none⟩ = some (.bool x.f0) := (blk_cell HZ5.out 0).trans rfl
        have v1 : W5.cell? ⟨b11, 1, none⟩ = some (.int .i64 x.f1) := (blk_cell HZ5.out 1).trans rfl
        by_cases hxo : okNum x.f0 x.f1 = true
        · rw [hxo]
          go_wp2_with (fail)
          refine (events_all 0 x.f1 x.f0 W5 (by decide) (by decide) hxo).mono ?_
          rintro e W6 ⟨v, rfl, hRv, hb6⟩
          obtain ⟨Av, cv, rfl⟩ := Kd.R_slice hRv
          have hle := evAll_len 0 x.f0 x.f1 hxo
          have hgd := putsE_good (evAll 0 x.f0 x.f1) s (ev_all_good 0 x.f0 x.f1 hxo s.st.length (by decide) (by have := hsl.out; omega))
          have hq := HP5.out.putl hb6 hRv (by omega)
          rw [hgd] at hq
          have HQ := A' hq
          clear hRv hb6 hq v0 v1
          go_wp2_with (fail)
          refine HQ.out.mono ?_
          rintro e W7 ⟨rfl, hP7⟩
          have HP7 := A' hP7
          clear hP7 HQ HP5 HZ5 HBr
          go_wp2_with (fail)
          refine ⟨⟨k + 1, _, by omega, by go_num, ?_, ?_, ?_, ?_, HP7⟩, by simp [intOf]; omega⟩
          · rw [eo, hok, hxo]; rfl
          · have h2 := putsE_app (evsL (l.take k)) (evAll 0 x.f0 x.f1) (newES kind st) (by rw [hpu])
            rw [et, h2, hpu]
            exact Prod.ext rfl hgd
          · exact ⟨by rw [putsE_len]; exact hsl.out⟩
          · have := putsE_out (evAll 0 x.f0 x.f1) s; omega
        · have hxf : okNum x.f0 x.f1 = false := by simpa using hxo
          have hall : ¬ okL l = true := fun h => hxo (by unfold okL at h; rw [List.all_eq_true] at h; exact h x hmem)
          rw [if_neg (fun h => hall h.2.2)] at hR
          subst hR
          rw [hxf]
          have HBe := A' (below_mods HB3.out HP5.out.m HS3.out HB3.out.size)
          clear hall hxf hxo
          go_wp2_with (fail)
          go_ret2
          exact NEnc.bad _ _ HBe.out _ rfl
      · have e : l.take k = l := List.take_of_length_le (by omega)
        rw [e] at hok hpu
        rw [if_pos ⟨hk, hl, hok⟩, hpu] at hR
        subst hR
        go_wp2_with (fail)
        refine (end_calls wr _ g s HP.out.e HP.out.ok (by omega)).mono ?_
        rintro e W8 ⟨A8, c8, rfl, hR8, hb8⟩
        have HR8 := A' (Kd.R_lower hR8 HBr.out.size)
        have HB8 := A' (below_then HBr.out HBr.out.size hb8)
        clear hR8 hb8
        go_wp2_with (fail)
        go_ret2
        exact ⟨A8, c8, rfl, HR8.out, HB8.out⟩
   · have hl2 : (l.length : Int) > 20000 := by omega
     rw [if_neg (fun h => hl h.2.1)] at hR
     subst hR
     clear hl
     go_wp2_with (fail)
     go_ret2
     exact NEnc.bad _ _ HB2.out _ rfl
 · rw [hnm] at hRM ⊢
   rw [if_neg (fun h => hk h.1)] at hR
   subst hR
   have HB2 := A' (below_alloc hb1 (.cells #[.int .i64 0, .slice A ([] : List Int).length c] 48))
   clear hRM hk hb1 hnm
   go_wp2_with (fail)
   go_ret2
   exact NEnc.bad _ _ HB2.out _ rfl
end Go.Proofs.Ytmndieohblpgaaa.Nen
namespace Go.Proofs.Ytmndieohblpgaaa.U
open Go Go.RowKit YtmndieohblpgaaaW PrintWords PrintLast PrintMore Aid HandAid Nen
def number_Encode.f (a0 : Int) (l1 : List S28) : Option (List Int × Int) := some (encN a0 l1)
theorem number_Encode.calls (a0 : Int) (A1 : Option Addr) (c1 : Nat) (l1 : List S28) (r1 : List Int) (r2 : Int) (w : World) (hr1 : Kd.C k28 w A1 l1.length l1) (hc1 : l1.length ≤ c1) (h : number_Encode.f a0 l1 = some (r1, r2)) :
 Calls Try.prog 6 #[.int .i64 a0, .slice A1 l1.length c1] w fun e w' => ∃ v0_ : Value, e = .returned (.tuple #[v0_, .int .i64 r2]) ∧ Kd.R (Kd.int .u8) 5 w' w.heap.size (fun _ => True) v0_ r1 ∧ Below w.heap.size w w' := by
 have e := Option.some.inj h
 have hd := nencode_calls a0 A1 c1 l1 w hr1 hc1
 rw [e] at hd
 refine hd.mono ?_
 rintro e w' ⟨A, c, he, hR, hB⟩
 exact ⟨_, he, hR, hB⟩
end Go.Proofs.Ytmndieohblpgaaa.U
namespace Go.Proofs.Ytmndieohblpgaaa.U
open Go.RowKit YtmndieohblpgaaaW PrintWords PrintLast PrintMore
attribute [local go_sem] max2_int min2_int max_two min_two max_three min_three max_four min_four
mutual
def bits_Size.j0 : Nat → Int → Bool → Option (List Int × Int)
 | 0, _, _ => none
 | k + 1, x0, x10 => if x10 = true then (some (([] : List Int), 2)) else (bits_Size.l0 k (wrap64 (Int.tdiv x0 128)) (([(Int.tmod x0 128) % 256] : List Int)))
def bits_Size.l0 : Nat → Int → List Int → Option (List Int × Int)
 | 0, _, _ => none
 | k + 1, x0, x4 => if x0 > 0 then ((some (([(((Int.tmod x0 128) % 256) + 128) % 256] : List Int) : List Int)).bind fun y107 => (if y107.length + x4.length < 140737488355328 then (bits_Size.l0 k (wrap64 (Int.tdiv x0 128)) (y107 ++ x4)) else (none))) else (some (x4, 0))
end
def bits_Size.f (k : Nat) (a0 : Int) : Option (List Int × Int) := if a0 < 0 then (bits_Size.j0 k a0 true) else (bits_Size.j0 k a0 (decide (a0 > 2147483647)))
theorem bits_Size.mono_l : ∀ k, (∀ y0 y1, LeO (bits_Size.j0 k y0 y1) (bits_Size.j0 (k + 1) y0 y1)) ∧ (∀ y0 y1, LeO (bits_Size.l0 k y0 y1) (bits_Size.l0 (k + 1) y0 y1))
 | 0 => ⟨fun _ _ r h => by simp [bits_Size.j0] at h, fun _ _ r h => by simp [bits_Size.l0] at h⟩
 | k + 1 => by
   obtain ⟨ih0, ih1⟩ := bits_Size.mono_l k
   refine ⟨?_, ?_⟩
   · intro y0 y1
     unfold bits_Size.j0
     repeat' first
     | (with_reducible exact ih0 _ _)
     | (with_reducible exact ih1 _ _)
     | (with_reducible exact LeO.refl _)
     | (with_reducible exact LeO.none _)
     | (with_reducible refine LeO.ite ?_ ?_)
     | (with_reducible refine LeO.bind ?_ (fun _ => ?_))
     | exact ih0 _ _
     | exact ih1 _ _
     | exact LeO.none _
     | refine LeO.ite ?_ ?_
     | refine LeO.bind ?_ (fun _ => ?_)
   · intro y0 y1
     unfold bits_Size.l0
     repeat' first
     | (with_reducible exact ih0 _ _)
     | (with_reducible exact ih1 _ _)
     | (with_reducible exact LeO.refl _)
     | (with_reducible exact LeO.none _)
     | (with_reducible refine LeO.ite ?_ ?_)
     | (with_reducible refine LeO.bind ?_ (fun _ => ?_))
     | exact ih0 _ _
     | exact ih1 _ _
     | exact LeO.none _
     | refine LeO.ite ?_ ?_
     | refine LeO.bind ?_ (fun _ => ?_)
theorem bits_Size.mono : ∀ a0 k, LeO (bits_Size.f k a0) (bits_Size.f (k + 1) a0) := by
 intro a0 k; obtain ⟨ih0, ih1⟩ := bits_Size.mono_l k; unfold bits_Size.f
 repeat' first
  | (with_reducible exact ih0 _ _)
  | (with_reducible exact ih1 _ _)
  | (with_reducible exact LeO.refl _)
  | (with_reducible exact LeO.none _)
  | (with_reducible refine LeO.ite ?_ ?_)
  | (with_reducible refine LeO.bind ?_ (fun _ => ?_))
  | exact ih0 _ _
  | exact ih1 _ _
  | exact LeO.none _
  | refine LeO.ite ?_ ?_
  | refine LeO.bind ?_ (fun _ => ?_)
set_option maxHeartbeats 8000000 in
set_option maxRecDepth 100000 in
theorem bits_Size.calls (k : Nat) (a0 : Int) (r1 : List Int) (r2 : Int) (w : World) (h : bits_Size.f k a0 = some (r1, r2)) :
 Calls Try.prog 7 #[.int .i64 a0] w fun e w' => ∃ v0_ : Value, e = .returned (.tuple #[v0_, .int .i64 r2]) ∧ Kd.R (Kd.int .u8) 5 w' w.heap.size (fun _ => True) v0_ r1 ∧ Below w.heap.size w w' := by
 have HB := A' (Below.refl w.heap.size w); have H : (if a0 < 0 then (bits_Size.j0 k a0 true) else (bits_Size.j0 k a0 (decide (a0 > 2147483647)))) = some (r1, r2) := h; clear h; have HC2 := A' H; clear H; go_enter Try.func7, Try.ntmps7; go_upto_region 1 with (fail); go_cut [10] (fun v10 wc => ∃ (kq : Nat) (x10_1 : Bool), v10 = .bool x10_1 ∧ Aside0 (bits_Size.j0 kq a0 x10_1 = some (r1, r2)) ∧ Aside0 (kq ≤ k) ∧ Aside0 (Below w.heap.size w wc)); (case first => have H := HC2.out; clear HC2; by_cases c3 : a0 < 0; (· rw [if_pos c3] at H; have c3b0 : decide (a0 < 0) = true := decide_eq_true c3; clear c3; (first | rw [c3b0] | (simp only [i64_w, i32_w]; rw [c3b0]) | skip); have H' := A' H; clear H; go_wp2; go_meet; (case rel => exact ⟨_, (true), (by first | rfl | (simp; done) | (simp [*]; done)), H', ⟨by first | omega | exact Nat.le_refl _⟩, ⟨by repeat (first | (with_reducible first | exact HB.out | apply below_alloc | apply pw_below_drewN | apply below_drew1) | exact HB.out)⟩⟩)); (· rw [if_neg c3] at H; have c3b0 : decide (a0 < 0) = false := decide_eq_false c3; clear c3; (first | rw [c3b0] | (simp only [i64_w, i32_w]; rw [c3b0]) | skip); have H' := A' H; clear H; go_wp2; go_meet; (case rel => exact ⟨_, (decide (a0 > 2147483647)), (by first | rfl | (simp; done) | (simp [*]; done)), H', ⟨by first | omega | exact Nat.le_refl _⟩, ⟨by repeat (first | (with_reducible first | exact HB.out | apply below_alloc | apply pw_below_drewN | apply below_drew1) | exact HB.out)⟩⟩)))
 case rest =>
  clear HC2; (try clear p2); (try clear c3); (try clear c3b0); obtain ⟨kq, x10_1, rfl, HA, HJ1, HB⟩ := hcut
  cases kq with
  | zero => exact absurd HA.out (by simp [bits_Size.j0])
  | succ kj1 =>
   have H := HA.out; clear HA; simp only [bits_Size.j0] at H; by_cases c4 : x10_1 = true; (· subst c4; (have H1 : (some (([] : List Int), 2)) = some (r1, r2) := by rw [if_pos rfl] at H; exact H); clear H; have H := H1; clear H1; simp only [Option.some.injEq, Prod.mk.injEq] at H; obtain ⟨rfl, rfl⟩ := H; go_wp2; go_ret2; (exact ⟨_, by first | rfl | (simp [errW_none, errW_some] <;> rfl) | (simp [*, errW_none, errW_some] <;> rfl), by first | exact Kd.R_nil _ _ _ _ _ | exact Kd.N_nil _ _ _ _ _ | exact Kd.V_nil _ _ _ _ _ | exact Kd.Q_nil _ _ _ _ _ | exact Kd.S_nil _ _ _ _ _, by repeat (first | (with_reducible first | exact HB.out | apply below_alloc | apply pw_below_drewN | apply below_drew1) | exact HB.out)⟩))
   · replace c4 := Bool.eq_false_iff.mpr c4
     subst c4; (have H1 : (bits_Size.l0 kj1 (wrap64 (Int.tdiv a0 128)) (([(Int.tmod a0 128) % 256] : List Int))) = some (r1, r2) := by rw [if_neg (show ¬ (false = true) by decide)] at H; exact H); clear H; have H := H1; clear H1; obtain ⟨y104, hy104⟩ : ∃ y_ : List Int, y_ = (([(Int.tmod a0 128) % 256] : List Int)) := ⟨_, rfl⟩; (replace H : (bits_Size.l0 kj1 (wrap64 (Int.tdiv a0 128)) y104) = some (r1, r2) := by first | (rw [hy104]; with_reducible exact H) | (have H2_ := (Option.bind_some _ _).symm.trans H; rw [hy104]; with_reducible exact H2_) | (have H2_ := (Option.bind_some _ _).symm.trans H; with_reducible exact H2_) | with_reducible exact H | (rw [hy104]; exact H) | exact H); have Ny104 := A' hy104; clear hy104; have H' := A' H; clear H
     go_wp2_with (first | ((with_reducible refine gate_dst (N := 14) rfl ?_); refine Kd.R_lit (Kd.int .u8) _ 5 ?hg (N := 14) ?hd (xs := ([(Int.tmod a0 128) % 256] : List Int)) (inner := [.int .u8 ((Int.tmod a0 128) % 256)]) (ok := fun _ => True) (okp := fun _ => True) ?hr ?hp (fun _ hk => hk) trivial (Below.refl _ _) (Nat.le_refl _) (by simp) ?_; (case hd => rfl); (case hg => rfl); (case hr => first | (go_simp; done) | (go_simp; rfl)); (case hp => exact (Reps.one (show Kd.M (Kd.int .u8) _ _ _ ((Int.tmod a0 128) % 256) [.int .u8 ((Int.tmod a0 128) % 256)] from rfl) (Reps.none _ _))); intro v105 w5 ho6 hb hg_ hnew_; clear hg_ hnew_; (first | rw [← Ny104.out] at ho6 | (simp only [Int.reduceToNat] at ho6; rw [← Ny104.out] at ho6)); have n0_ := A' (Kd.R_lower ho6 (below_size (by repeat (first | (with_reducible first | exact HB.out | apply below_alloc | apply pw_below_drewN | apply below_drew1) | exact HB.out)))); have n1_ := A' (below_step (by repeat (first | (with_reducible first | exact HB.out | apply below_alloc | apply pw_below_drewN | apply below_drew1) | exact HB.out)) hb); clear HB; have HO106 := n0_; have HB := n1_; clear n0_ n1_; clear hb ho6)); go_loopg [0, 4] kj1 (fun kq v0 v4 w' => ∃ (x0_2 : Int) (x4_2 : List Int), v0 = .int .i64 x0_2 ∧ Aside0 (bits_Size.l0 kq x0_2 x4_2 = some (r1, r2)) ∧ Aside0 (kq ≤ kj1) ∧ Aside0 (Kd.R (Kd.int .u8) 5 w' w.heap.size (fun _ => True) v4 x4_2) ∧ Aside0 (Below w.heap.size w w'))
     (case atStart => exact ⟨(wrap64 (Int.tdiv a0 128)), (y104), (by first | rfl | (simp; done) | (simp [*]; done)), H', ⟨Nat.le_refl _⟩, ⟨by (with_reducible repeat (first | apply Kd.R_alloc | apply Kd.R_drewN | apply Kd.R_drew)); exact HO106.out⟩, ⟨by repeat (first | (with_reducible first | exact HB.out | apply below_alloc | apply pw_below_drewN | apply below_drew1) | exact HB.out)⟩⟩)
     case round =>
      clear H'; (try clear p2); (try clear c3); (try clear c3b0); (try clear c4); (try clear p6); (try clear p2); obtain ⟨x0_2, x4_2, rfl, HA, HK2, HO_4, HB⟩ := hrel
      cases gk with
      | zero => exact absurd HA.out (by simp [bits_Size.l0])
      | succ k2 =>
       have H := HA.out; clear HA; simp only [bits_Size.l0] at H; by_cases c7 : x0_2 > 0
       (· rw [if_pos c7] at H; have c7b0 : decide (0 < x0_2) = true := decide_eq_true c7; clear c7; obtain ⟨y107, hy107⟩ : ∃ y_ : List Int, y_ = (([(((Int.tmod x0_2 128) % 256) + 128) % 256] : List Int)) := ⟨_, rfl⟩; (replace H : (if y107.length + x4_2.length < 140737488355328 then (bits_Size.l0 k2 (wrap64 (Int.tdiv x0_2 128)) (y107 ++ x4_2)) else (none)) = some (r1, r2) := by first | (rw [hy107]; with_reducible exact H) | (have H2_ := (Option.bind_some _ _).symm.trans H; rw [hy107]; with_reducible exact H2_) | (have H2_ := (Option.bind_some _ _).symm.trans H; with_reducible exact H2_) | with_reducible exact H | (rw [hy107]; exact H) | exact H); have Ny107 := A' hy107; clear hy107; by_cases c8 : y107.length + x4_2.length < 140737488355328; (· rw [if_pos c8] at H; have LMc8 := A' c8; clear c8; obtain ⟨y110, hy110⟩ : ∃ y_ : List Int, y_ = (y107 ++ x4_2) := ⟨_, rfl⟩; (replace H : (bits_Size.l0 k2 (wrap64 (Int.tdiv x0_2 128)) y110) = some (r1, r2) := by first | (rw [hy110]; with_reducible exact H) | (have H2_ := (Option.bind_some _ _).symm.trans H; rw [hy110]; with_reducible exact H2_) | (have H2_ := (Option.bind_some _ _).symm.trans H; with_reducible exact H2_) | with_reducible exact H | (rw [hy110]; exact H) | exact H); have Ny110 := A' hy110; clear hy110; have H' := A' H; clear H; go_wp2_with (first | ((with_reducible refine gate_dst (N := 25) rfl ?_); refine Kd.R_lit (Kd.int .u8) _ 5 ?hg (N := 25) ?hd (xs := ([(((Int.tmod x0_2 128) % 256) + 128) % 256] : List Int)) (inner := [.int .u8 ((((Int.tmod x0_2 128) % 256) + 128) % 256)]) (ok := fun _ => True) (okp := fun _ => True) ?hr ?hp (fun _ hk => hk) trivial (Below.refl _ _) (Nat.le_refl _) (by simp) ?_; (case hd => rfl); (case hg => rfl); (case hr => first | (go_simp; done) | (go_simp; rfl)); (case hp => exact (Reps.one (show Kd.M (Kd.int .u8) _ _ _ ((((Int.tmod x0_2 128) % 256) + 128) % 256) [.int .u8 ((((Int.tmod x0_2 128) % 256) + 128) % 256)] from rfl) (Reps.none _ _))); intro v108 w9 ho10 hb hg_ hnew_; clear hg_ hnew_; (first | rw [← Ny107.out] at ho10 | (simp only [Int.reduceToNat] at ho10; rw [← Ny107.out] at ho10)); have n0_ := A' (Kd.R_elder' (by (with_reducible repeat (first | apply Kd.R_alloc | apply Kd.R_drewN | apply Kd.R_drew)); exact HO_4.out) (Kd.R_base ho10) hb); have n1_ := A' (Kd.R_lower (Kd.R_new' ho10 (Kd.R_lt (by (with_reducible repeat (first | apply Kd.R_alloc | apply Kd.R_drewN | apply Kd.R_drew)); exact HO_4.out))) (below_size (by repeat (first | (with_reducible first | exact HB.out | apply below_alloc | apply pw_below_drewN | apply below_drew1) | exact HB.out)))); have n2_ := A' (below_step (by repeat (first | (with_reducible first | exact HB.out | apply below_alloc | apply pw_below_drewN | apply below_drew1) | exact HB.out)) hb); clear HO_4; clear HB; have HO_4 := n0_; have HO109 := n1_; have HB := n2_; clear n0_ n1_ n2_; clear hb ho10; obtain ⟨Ao12, co12, eo12⟩ := Kd.R_slice HO_4.out; subst eo12) | ((with_reducible refine gate_builtin (b := .append) (xs := #[.tmp 25, .tmp 26]) rfl ?_); at_builtin; refine Kd.R_append_rows (Kd.int .u8) (w0 := w) w.heap.size rfl (.tmp 25) (.tmp 26) 24 5 (.int .u8 0) 1 rfl Try.underlying24 info5 rfl (by decide) (by omega) v108 y107 x4_2 _ _ _ (fun k_ => some k_ ≠ (.slice Ao12 x4_2.length co12 : Value).ownBlock) (fun _ => False) rfl rfl ?aO ?aR (fun _ _ h => h) (fun _ h => h.elim) ?aF ?aB ?aS ?aL ?_; (case aR => repeat (first | exact (Kd.R_reads' HO_4.out).2.2 | (with_reducible refine Kd.C_alloc ?_ _) | (with_reducible refine Kd.C_drewN ?_ _) | (with_reducible refine Kd.C_drew ?_))); (case aB => exact (by repeat (first | (with_reducible first | exact HB.out | apply below_alloc | apply pw_below_drewN | apply below_drew1) | exact HB.out))); (case aF => exact (fun k_ hk => Kd.fresh' (Kd.R_lt (by (with_reducible repeat (first | apply Kd.R_alloc | apply Kd.R_drewN | apply Kd.R_drew)); exact HO_4.out)) k_ hk)); (case aO => exact (by (with_reducible repeat (first | apply Kd.R_alloc | apply Kd.R_drewN | apply Kd.R_drew)); exact Kd.R_mono HO109.out (fun _ hk => hk.2))); (case aS => exact (below_size (by repeat (first | (with_reducible first | exact HB.out | apply below_alloc | apply pw_below_drewN | apply below_drew1) | exact HB.out)))); (case aL => have := LMc8.out; omega); intro v111 w11 ho hb hg hat; rw [← Ny110.out] at ho; have n0_ := A' (Kd.R_after (ok := (fun _ => True)) (by (with_reducible repeat (first | apply Kd.R_alloc | apply Kd.R_drewN | apply Kd.R_drew)); exact HO_4.out) hg hat); have n1_ := A' (hb); have n2_ := A' (ho); clear HO_4; clear HB; clear HO109; have HO_4 := n0_; have HB := n1_; have HO112 := n2_; clear n0_ n1_ n2_; clear ho hb hg hat)); go_roundg k2; (case measure => have := HJ1.out; have := HK2.out; omega); (case rel => exact ⟨(wrap64 (Int.tdiv x0_2 128)), (y110), (by first | rfl | (simp; done) | (simp [*]; done)), H', ⟨by have := HJ1.out; have := HK2.out; omega⟩, ⟨by (with_reducible repeat (first | apply Kd.R_alloc | apply Kd.R_drewN | apply Kd.R_drew)); exact Kd.R_mono HO112.out (fun _ hk => trivial)⟩, ⟨by repeat (first | (with_reducible first | exact HB.out | apply below_alloc | apply pw_below_drewN | apply below_drew1) | exact HB.out)⟩⟩)); (· rw [if_neg c8] at H; exact absurd H (by simp)))
       (· rw [if_neg c7] at H; have c7b0 : decide (0 < x0_2) = false := decide_eq_false c7; clear c7; simp only [Option.some.injEq, Prod.mk.injEq] at H; obtain ⟨rfl, rfl⟩ := H; go_wp2; go_ret2; (exact ⟨_, by first | rfl | (simp [errW_none, errW_some] <;> rfl) | (simp [*, errW_none, errW_some] <;> rfl), by (with_reducible repeat (first | apply Kd.R_alloc | apply Kd.R_drewN | apply Kd.R_drew)); exact HO_4.out, by repeat (first | (with_reducible first | exact HB.out | apply below_alloc | apply pw_below_drewN | apply below_drew1) | exact HB.out)⟩))
def bits_Sum.l0 : Nat → Int → List Int → Int → Int → Option (Int)
 | 0, _, _, _, _ => none
 | k + 1, x3, x6, x7, x8 => if x8 < x7 then (if 0 ≤ x8 then (if x8 < (x6.length : Int) then (bits_Sum.l0 k (Int.tmod (wrap64 ((wrap64 (x3 * 31)) + (wrap64 (rd x6 x8)))) 65521) x6 x7 (wrap64 (x8 + 1))) else (none)) else (none)) else (some x3)
def bits_Sum.f (k : Nat) (l0 : List Int) : Option (Int) := bits_Sum.l0 k 1 l0 (l0.length : Int) 0
theorem bits_Sum.mono_l : ∀ k, (∀ y0 y1 y2 y3, LeO (bits_Sum.l0 k y0 y1 y2 y3) (bits_Sum.l0 (k + 1) y0 y1 y2 y3))
 | 0 => fun _ _ _ _ r h => by simp [bits_Sum.l0] at h
 | k + 1 => by
   have ih0 := bits_Sum.mono_l k
   · intro y0 y1 y2 y3
     unfold bits_Sum.l0
     repeat' first
     | (with_reducible exact ih0 _ _ _ _)
     | (with_reducible exact LeO.refl _)
     | (with_reducible exact LeO.none _)
     | (with_reducible refine LeO.ite ?_ ?_)
     | (with_reducible refine LeO.bind ?_ (fun _ => ?_))
     | exact ih0 _ _ _ _
     | exact LeO.none _
     | refine LeO.ite ?_ ?_
     | refine LeO.bind ?_ (fun _ => ?_)
theorem bits_Sum.mono : ∀ a0 k, LeO (bits_Sum.f k a0) (bits_Sum.f (k + 1) a0) := by
 intro a0 k; have ih0 := bits_Sum.mono_l k; unfold bits_Sum.f
 repeat' first
  | (with_reducible exact ih0 _ _ _ _)
  | (with_reducible exact LeO.refl _)
  | (with_reducible exact LeO.none _)
  | (with_reducible refine LeO.ite ?_ ?_)
  | (with_reducible refine LeO.bind ?_ (fun _ => ?_))
  | exact ih0 _ _ _ _
  | exact LeO.none _
  | refine LeO.ite ?_ ?_
  | refine LeO.bind ?_ (fun _ => ?_)
set_option maxHeartbeats 8000000 in
set_option maxRecDepth 100000 in
theorem bits_Sum.calls (k : Nat) (A0 : Option Addr) (c0 : Nat) (l0 : List Int) (r : Int) (w : World) (hr0 : Kd.C (Kd.int .u8) w A0 l0.length l0) (hc0 : l0.length ≤ c0) (h : bits_Sum.f k l0 = some r) :
 Calls Try.prog 8 #[.slice A0 l0.length c0] w fun e w' => e = .returned (.int .i64 r) ∧ Drawn0 w w' := by
 have HR0 := A' hr0; have HC0 := A' hc0; clear hr0 hc0; have H : (bits_Sum.l0 k 1 l0 (l0.length : Int) 0) = some r := h; clear h; have H' := A' H; clear H; go_enter Try.func8, Try.ntmps8; go_wp2; go_loopg [3, 8] k (fun kq v3 v8 w' => ∃ (x3_1 : Int) (x8_1 : Int), v3 = .int .i64 x3_1 ∧ v8 = .int .i64 x8_1 ∧ Aside0 (bits_Sum.l0 kq x3_1 l0 (l0.length : Int) x8_1 = some r) ∧ Aside0 (kq ≤ k) ∧ Drawn0 w w'); (case atStart => exact ⟨(1), (0), (by first | rfl | (simp; done) | (simp [*]; done)), (by first | rfl | (simp; done) | (simp [*]; done)), H', ⟨Nat.le_refl _⟩, by repeat (first | exact Drawn0.refl _ | apply Drawn0.step)⟩)
 case round =>
  clear H'; obtain ⟨x3_1, x8_1, rfl, rfl, HA, HK1, ⟨m1, rfl⟩⟩ := hrel
  cases gk with
  | zero => exact absurd HA.out (by simp [bits_Sum.l0])
  | succ k1 =>
   have H := HA.out; clear HA; simp only [bits_Sum.l0] at H; by_cases c2 : x8_1 < (l0.length : Int); (· rw [if_pos c2] at H; have c2b0 : decide (x8_1 < (l0.length : Int)) = true := decide_eq_true c2; clear c2; by_cases c3 : 0 ≤ x8_1; (· rw [if_pos c3] at H; have c3b0 : decide (0 ≤ x8_1) = true := decide_eq_true c3; clear c3; by_cases c4 : x8_1 < (l0.length : Int); (· rw [if_pos c4] at H; have c4b0 : decide (x8_1 < (l0.length : Int)) = true := decide_eq_true c4; clear c4; have H' := A' H; clear H; have p113 : 0 ≤ (x8_1 : Int) := of_decide_eq_true (by first | (with_reducible assumption) | assumption); have q113 : x8_1 < (l0.length : Int) := of_decide_eq_true (by first | (with_reducible assumption) | assumption); obtain ⟨ad113, e113, hx113_0⟩ := Kd.at_int HR0.out x8_1 p113 q113; cases e113; replace p113 := eq_true p113; replace q113 := eq_true q113; go_wp2; go_roundg k1; (case measure => have := HK1.out; omega); (case rel => exact ⟨(Int.tmod (wrap64 ((wrap64 (x3_1 * 31)) + (wrap64 (rd l0 x8_1)))) 65521), (wrap64 (x8_1 + 1)), (by first | rfl | (simp; done) | (simp [*]; done)), (by first | rfl | (simp; done) | (simp [*]; done)), H', ⟨by have := HK1.out; omega⟩, by repeat (first | exact Drawn0.refl _ | apply Drawn0.step)⟩)); (· rw [if_neg c4] at H; exact absurd H (by simp))); (· rw [if_neg c3] at H; exact absurd H (by simp)))
   (· rw [if_neg c2] at H; have c2b0 : decide (x8_1 < (l0.length : Int)) = false := decide_eq_false c2; clear c2; obtain rfl := Option.some.inj H; go_wp2; go_ret; exact ⟨by first | rfl | (simp; done) | (simp [*]; done), by repeat (first | exact Drawn0.refl _ | apply Drawn0.step)⟩)
mutual
def bits_GetSize.j0 : Nat → List Int → Int → Int → Bool → Option (Int × Int × Int)
 | 0, _, _, _, _ => none
 | k + 1, x0, x1, x4, x16 => if x16 = true then (some (0, 0, 2)) else (bits_GetSize.l0 k x0 x1 x4 0)
def bits_GetSize.l0 : Nat → List Int → Int → Int → Int → Option (Int × Int × Int)
 | 0, _, _, _, _ => none
 | k + 1, x0, x1, x4, x17 => if x17 < 5 then (if (wrap64 (x1 + x17)) ≥ (x0.length : Int) then (some (0, 0, 6)) else (if 0 ≤ (wrap64 (x1 + x17)) then (if (wrap64 (x1 + x17)) < (x0.length : Int) then (if (wrap64 (rd x0 (wrap64 (x1 + x17)))) < 128 then (if (wrap64 ((wrap64 (x4 * 128)) + (Int.tmod (wrap64 (rd x0 (wrap64 (x1 + x17)))) 128))) > 2147483647 then (some (0, 0, 3)) else (if x17 > 0 then (if 0 ≤ x1 then (if x1 < (x0.length : Int) then (if (rd x0 x1) = 128 then (some (0, 0, 3)) else (some (wrap64 ((wrap64 (x4 * 128)) + (Int.tmod (wrap64 (rd x0 (wrap64 (x1 + x17)))) 128)), wrap64 ((wrap64 (x1 + x17)) + 1), 0))) else (none)) else (none)) else (some (wrap64 ((wrap64 (x4 * 128)) + (Int.tmod (wrap64 (rd x0 (wrap64 (x1 + x17)))) 128)), wrap64 ((wrap64 (x1 + x17)) + 1), 0)))) else (bits_GetSize.l0 k x0 x1 (wrap64 ((wrap64 (x4 * 128)) + (Int.tmod (wrap64 (rd x0 (wrap64 (x1 + x17)))) 128))) (wrap64 (x17 + 1)))) else (none)) else (none))) else (some (0, 0, 3))
end
def bits_GetSize.f (k : Nat) (l0 : List Int) (a1 : Int) : Option (Int × Int × Int) := if a1 < 0 then (bits_GetSize.j0 k l0 a1 0 true) else (bits_GetSize.j0 k l0 a1 0 (decide (a1 > (l0.length : Int))))
theorem bits_GetSize.mono_l : ∀ k, (∀ y0 y1 y2 y3, LeO (bits_GetSize.j0 k y0 y1 y2 y3) (bits_GetSize.j0 (k + 1) y0 y1 y2 y3)) ∧ (∀ y0 y1 y2 y3, LeO (bits_GetSize.l0 k y0 y1 y2 y3) (bits_GetSize.l0 (k + 1) y0 y1 y2 y3))
 | 0 => ⟨fun _ _ _ _ r h => by simp [bits_GetSize.j0] at h, fun _ _ _ _ r h => by simp [bits_GetSize.l0] at h⟩
 | k + 1 => by
   obtain ⟨ih0, ih1⟩ := bits_GetSize.mono_l k
   refine ⟨?_, ?_⟩
   · intro y0 y1 y2 y3
     unfold bits_GetSize.j0
     repeat' first
     | (with_reducible exact ih0 _ _ _ _)
     | (with_reducible exact ih1 _ _ _ _)
     | (with_reducible exact LeO.refl _)
     | (with_reducible exact LeO.none _)
     | (with_reducible refine LeO.ite ?_ ?_)
     | (with_reducible refine LeO.bind ?_ (fun _ => ?_))
     | exact ih0 _ _ _ _
     | exact ih1 _ _ _ _
     | exact LeO.none _
     | refine LeO.ite ?_ ?_
     | refine LeO.bind ?_ (fun _ => ?_)
   · intro y0 y1 y2 y3
     unfold bits_GetSize.l0
     repeat' first
     | (with_reducible exact ih0 _ _ _ _)
     | (with_reducible exact ih1 _ _ _ _)
     | (with_reducible exact LeO.refl _)
     | (with_reducible exact LeO.none _)
     | (with_reducible refine LeO.ite ?_ ?_)
     | (with_reducible refine LeO.bind ?_ (fun _ => ?_))
     | exact ih0 _ _ _ _
     | exact ih1 _ _ _ _
     | exact LeO.none _
     | refine LeO.ite ?_ ?_
     | refine LeO.bind ?_ (fun _ => ?_)
theorem bits_GetSize.mono : ∀ a0 a1 k, LeO (bits_GetSize.f k a0 a1) (bits_GetSize.f (k + 1) a0 a1) := by
 intro a0 a1 k; obtain ⟨ih0, ih1⟩ := bits_GetSize.mono_l k; unfold bits_GetSize.f
 repeat' first
  | (with_reducible exact ih0 _ _ _ _)
  | (with_reducible exact ih1 _ _ _ _)
  | (with_reducible exact LeO.refl _)
  | (with_reducible exact LeO.none _)
  | (with_reducible refine LeO.ite ?_ ?_)
  | (with_reducible refine LeO.bind ?_ (fun _ => ?_))
  | exact ih0 _ _ _ _
  | exact ih1 _ _ _ _
  | exact LeO.none _
  | refine LeO.ite ?_ ?_
  | refine LeO.bind ?_ (fun _ => ?_)
set_option maxHeartbeats 8000000 in
set_option maxRecDepth 100000 in
theorem bits_GetSize.calls (k : Nat) (A0 : Option Addr) (c0 : Nat) (l0 : List Int) (a1 : Int) (r1 : Int) (r2 : Int) (r3 : Int) (w : World) (hr0 : Kd.C (Kd.int .u8) w A0 l0.length l0) (hc0 : l0.length ≤ c0) (h : bits_GetSize.f k l0 a1 = some (r1, r2, r3)) :
 Calls Try.prog 9 #[.slice A0 l0.length c0, .int .i64 a1] w fun e w' => e = .returned (.tuple #[.int .i64 r1, .int .i64 r2, .int .i64 r3]) ∧ Drawn0 w w' := by
 have HR0 := A' hr0; have HC0 := A' hc0; clear hr0 hc0; have H : (if a1 < 0 then (bits_GetSize.j0 k l0 a1 0 true) else (bits_GetSize.j0 k l0 a1 0 (decide (a1 > (l0.length : Int))))) = some (r1, r2, r3) := h; clear h; have HC3 := A' H; clear H; go_enter Try.func9, Try.ntmps9; go_upto_region 1 with (fail); go_cut [16] (fun v16 wc => ∃ (kq : Nat) (x16_2 : Bool), v16 = .bool x16_2 ∧ Aside0 (bits_GetSize.j0 kq l0 a1 0 x16_2 = some (r1, r2, r3)) ∧ Aside0 (kq ≤ k) ∧ Drawn0 w wc); (case first => have H := HC3.out; clear HC3; by_cases c4 : a1 < 0; (· rw [if_pos c4] at H; have c4b0 : decide (a1 < 0) = true := decide_eq_true c4; clear c4; (first | rw [c4b0] | (simp only [i64_w, i32_w]; rw [c4b0]) | skip); have H' := A' H; clear H; go_wp2; go_meet; (case rel => exact ⟨_, (true), (by first | rfl | (simp; done) | (simp [*]; done)), H', ⟨by first | omega | exact Nat.le_refl _⟩, by repeat (first | exact Drawn0.refl _ | apply Drawn0.step)⟩)); (· rw [if_neg c4] at H; have c4b0 : decide (a1 < 0) = false := decide_eq_false c4; clear c4; (first | rw [c4b0] | (simp only [i64_w, i32_w]; rw [c4b0]) | skip); have H' := A' H; clear H; go_wp2; go_meet; (case rel => exact ⟨_, (decide (a1 > (l0.length : Int))), (by first | rfl | (simp; done) | (simp [*]; done)), H', ⟨by first | omega | exact Nat.le_refl _⟩, by repeat (first | exact Drawn0.refl _ | apply Drawn0.step)⟩)))
 case rest =>
  clear HC3; (try clear p2); (try clear c4); (try clear c4b0); obtain ⟨kq, x16_2, rfl, HA, HJ2, ⟨mc2, rfl⟩⟩ := hcut
  cases kq with
  | zero => exact absurd HA.out (by simp [bits_GetSize.j0])
  | succ kj2 =>
   have H := HA.out; clear HA; simp only [bits_GetSize.j0] at H; by_cases c5 : x16_2 = true; (· subst c5; (have H1 : (some (0, 0, 2)) = some (r1, r2, r3) := by rw [if_pos rfl] at H; exact H); clear H; have H := H1; clear H1; simp only [Option.some.injEq, Prod.mk.injEq] at H; obtain ⟨rfl, rfl, rfl⟩ := H; go_wp2; go_ret3; exact ⟨by first | rfl | (simp; done) | (simp [*]; done), by repeat (first | exact Drawn0.refl _ | apply Drawn0.step)⟩)
   · replace c5 := Bool.eq_false_iff.mpr c5
     subst c5; (have H1 : (bits_GetSize.l0 kj2 l0 a1 0 0) = some (r1, r2, r3) := by rw [if_neg (show ¬ (false = true) by decide)] at H; exact H); clear H; have H := H1; clear H1; have H' := A' H; clear H; go_wp2; go_loopg [4, 17] kj2 (fun kq v4 v17 w' => ∃ (x4_2 : Int) (x17_2 : Int), v4 = .int .i64 x4_2 ∧ v17 = .int .i64 x17_2 ∧ Aside0 (bits_GetSize.l0 kq l0 a1 x4_2 x17_2 = some (r1, r2, r3)) ∧ Aside0 (kq ≤ kj2) ∧ Drawn0 w w'); (case atStart => exact ⟨(0), (0), (by first | rfl | (simp; done) | (simp [*]; done)), (by first | rfl | (simp; done) | (simp [*]; done)), H', ⟨Nat.le_refl _⟩, by repeat (first | exact Drawn0.refl _ | apply Drawn0.step)⟩)
     case round =>
      clear H'; (try clear c2); (try clear p2); (try clear c4); (try clear c4b0); (try clear c5); (try clear p2); obtain ⟨x4_2, x17_2, rfl, rfl, HA, HK2, ⟨m2, rfl⟩⟩ := hrel
      cases gk with
      | zero => exact absurd HA.out (by simp [bits_GetSize.l0])
      | succ k2 =>
       have H := HA.out; clear HA; simp only [bits_GetSize.l0] at H; by_cases c6 : x17_2 < 5
       (· rw [if_pos c6] at H; have c6b0 : decide (x17_2 < 5) = true := decide_eq_true c6; clear c6; by_cases c7 : (wrap64 (a1 + x17_2)) ≥ (l0.length : Int); (· rw [if_pos c7] at H; have c7b0 : decide ((l0.length : Int) ≤ (wrap64 (a1 + x17_2))) = true := decide_eq_true c7; clear c7; simp only [Option.some.injEq, Prod.mk.injEq] at H; obtain ⟨rfl, rfl, rfl⟩ := H; go_wp2; go_ret3; exact ⟨by first | rfl | (simp; done) | (simp [*]; done), by repeat (first | exact Drawn0.refl _ | apply Drawn0.step)⟩); (· rw [if_neg c7] at H; have c7b0 : decide ((l0.length : Int) ≤ (wrap64 (a1 + x17_2))) = false := decide_eq_false c7; clear c7; obtain ⟨ji8, hji8⟩ : ∃ j_ : Int, (wrap64 (a1 + x17_2)) = j_ := ⟨_, rfl⟩; (replace H : (if 0 ≤ (ji8) then (if (ji8) < (l0.length : Int) then (if (wrap64 (rd l0 (ji8))) < 128 then (if (wrap64 ((wrap64 (x4_2 * 128)) + (Int.tmod (wrap64 (rd l0 (ji8))) 128))) > 2147483647 then (some (0, 0, 3)) else (if x17_2 > 0 then (if 0 ≤ a1 then (if a1 < (l0.length : Int) then (if (rd l0 a1) = 128 then (some (0, 0, 3)) else (some (wrap64 ((wrap64 (x4_2 * 128)) + (Int.tmod (wrap64 (rd l0 (ji8))) 128)), wrap64 ((ji8) + 1), 0))) else (none)) else (none)) else (some (wrap64 ((wrap64 (x4_2 * 128)) + (Int.tmod (wrap64 (rd l0 (ji8))) 128)), wrap64 ((ji8) + 1), 0)))) else (bits_GetSize.l0 k2 l0 a1 (wrap64 ((wrap64 (x4_2 * 128)) + (Int.tmod (wrap64 (rd l0 (ji8))) 128))) (wrap64 (x17_2 + 1)))) else (none)) else (none)) = some (r1, r2, r3) := by first | (rw [hji8] at H; exact H) | (simp only [hji8] at H ⊢; exact H)); (try rw [hji8] at c7b0); have hji8w : (IntKind.i64.wrap (a1 + x17_2)) = ji8 := (i64_w _).trans hji8; by_cases c9 : 0 ≤ (ji8); (· rw [if_pos c9] at H; have c9b0 : decide (0 ≤ (ji8)) = true := decide_eq_true c9; clear c9; by_cases c10 : (ji8) < (l0.length : Int); (· rw [if_pos c10] at H; have c10b0 : decide ((ji8) < (l0.length : Int)) = true := decide_eq_true c10; clear c10; by_cases c11 : (wrap64 (rd l0 (ji8))) < 128; (· rw [if_pos c11] at H; have c11b0 : decide ((wrap64 (rd l0 (ji8))) < 128) = true := decide_eq_true c11; clear c11; by_cases c12 : (wrap64 ((wrap64 (x4_2 * 128)) + (Int.tmod (wrap64 (rd l0 (ji8))) 128))) > 2147483647; (· rw [if_pos c12] at H; have c12b0 : decide (2147483647 < (wrap64 ((wrap64 (x4_2 * 128)) + (Int.tmod (wrap64 (rd l0 (ji8))) 128)))) = true := decide_eq_true c12; clear c12; simp only [Option.some.injEq, Prod.mk.injEq] at H; obtain ⟨rfl, rfl, rfl⟩ := H; have p114 : 0 ≤ ((ji8) : Int) := of_decide_eq_true (by first | (with_reducible assumption) | assumption); have q114 : (ji8) < (l0.length : Int) := of_decide_eq_true (by first | (with_reducible assumption) | assumption); obtain ⟨ad114, e114, hx114_0⟩ := Kd.at_int HR0.out (ji8) p114 q114; cases e114; replace p114 := eq_true p114; replace q114 := eq_true q114; go_wp2; go_ret3; (exact ⟨by first | rfl | (simp; done) | (simp only [← hji8] <;> (first | rfl | simp)) | (simp [*]; done), by repeat (first | exact Drawn0.refl _ | apply Drawn0.step)⟩)); (· rw [if_neg c12] at H; have c12b0 : decide (2147483647 < (wrap64 ((wrap64 (x4_2 * 128)) + (Int.tmod (wrap64 (rd l0 (ji8))) 128)))) = false := decide_eq_false c12; clear c12; by_cases c13 : x17_2 > 0; (· rw [if_pos c13] at H; have c13b0 : decide (0 < x17_2) = true := decide_eq_true c13; clear c13; by_cases c14 : 0 ≤ a1; (· rw [if_pos c14] at H; have c14b0 : decide (0 ≤ a1) = true := decide_eq_true c14; clear c14; by_cases c15 : a1 < (l0.length : Int); (· rw [if_pos c15] at H; have c15b0 : decide (a1 < (l0.length : Int)) = true := decide_eq_true c15; clear c15; by_cases c16 : (rd l0 a1) = 128; (· rw [if_pos c16] at H; have c16b0 : ((rd l0 a1) == 128) = true := beq_iff_eq.mpr c16; have c16b1 : ((rd l0 a1) != 128) = false := bne_eq_false_iff_eq.mpr c16; clear c16; simp only [Option.some.injEq, Prod.mk.injEq] at H; obtain ⟨rfl, rfl, rfl⟩ := H; have p114 : 0 ≤ ((ji8) : Int) := of_decide_eq_true (by first | (with_reducible assumption) | assumption); have q114 : (ji8) < (l0.length : Int) := of_decide_eq_true (by first | (with_reducible assumption) | assumption); obtain ⟨ad114, e114, hx114_0⟩ := Kd.at_int HR0.out (ji8) p114 q114; cases e114; replace p114 := eq_true p114; replace q114 := eq_true q114; have p115 : 0 ≤ (a1 : Int) := of_decide_eq_true (by first | (with_reducible assumption) | assumption); have q115 : a1 < (l0.length : Int) := of_decide_eq_true (by first | (with_reducible assumption) | assumption); obtain ⟨ad115, e115, hx115_0⟩ := Kd.at_int HR0.out a1 p115 q115; obtain rfl : ad114 = ad115 := (by injection e115); replace p115 := eq_true p115; replace q115 := eq_true q115; go_wp2; go_ret3; (exact ⟨by first | rfl | (simp; done) | (simp only [← hji8] <;> (first | rfl | simp)) | (simp [*]; done), by repeat (first | exact Drawn0.refl _ | apply Drawn0.step)⟩)); (· rw [if_neg c16] at H; have c16b0 : ((rd l0 a1) == 128) = false := beq_eq_false_iff_ne.mpr c16; have c16b1 : ((rd l0 a1) != 128) = true := bne_iff_ne.mpr c16; simp only [Option.some.injEq, Prod.mk.injEq] at H; obtain ⟨rfl, rfl, rfl⟩ := H; have p114 : 0 ≤ ((ji8) : Int) := of_decide_eq_true (by first | (with_reducible assumption) | assumption); have q114 : (ji8) < (l0.length : Int) := of_decide_eq_true (by first | (with_reducible assumption) | assumption); obtain ⟨ad114, e114, hx114_0⟩ := Kd.at_int HR0.out (ji8) p114 q114; cases e114; replace p114 := eq_true p114; replace q114 := eq_true q114; have p115 : 0 ≤ (a1 : Int) := of_decide_eq_true (by first | (with_reducible assumption) | assumption); have q115 : a1 < (l0.length : Int) := of_decide_eq_true (by first | (with_reducible assumption) | assumption); obtain ⟨ad115, e115, hx115_0⟩ := Kd.at_int HR0.out a1 p115 q115; obtain rfl : ad114 = ad115 := (by injection e115); replace p115 := eq_true p115; replace q115 := eq_true q115; go_wp2; go_ret3; (exact ⟨by first | rfl | (simp; done) | (simp only [← hji8] <;> (first | rfl | simp)) | (simp [*]; done), by repeat (first | exact Drawn0.refl _ | apply Drawn0.step)⟩))); (· rw [if_neg c15] at H; exact absurd H (by simp))); (· rw [if_neg c14] at H; exact absurd H (by simp))); (· rw [if_neg c13] at H; have c13b0 : decide (0 < x17_2) = false := decide_eq_false c13; clear c13; simp only [Option.some.injEq, Prod.mk.injEq] at H; obtain ⟨rfl, rfl, rfl⟩ := H; have p114 : 0 ≤ ((ji8) : Int) := of_decide_eq_true (by first | (with_reducible assumption) | assumption); have q114 : (ji8) < (l0.length : Int) := of_decide_eq_true (by first | (with_reducible assumption) | assumption); obtain ⟨ad114, e114, hx114_0⟩ := Kd.at_int HR0.out (ji8) p114 q114; cases e114; replace p114 := eq_true p114; replace q114 := eq_true q114; go_wp2; go_ret3; (exact ⟨by first | rfl | (simp; done) | (simp only [← hji8] <;> (first | rfl | simp)) | (simp [*]; done), by repeat (first | exact Drawn0.refl _ | apply Drawn0.step)⟩)))); (· rw [if_neg c11] at H; have c11b0 : decide ((wrap64 (rd l0 (ji8))) < 128) = false := decide_eq_false c11; clear c11; have H' := A' H; clear H; have p114 : 0 ≤ ((ji8) : Int) := of_decide_eq_true (by first | (with_reducible assumption) | assumption); have q114 : (ji8) < (l0.length : Int) := of_decide_eq_true (by first | (with_reducible assumption) | assumption); obtain ⟨ad114, e114, hx114_0⟩ := Kd.at_int HR0.out (ji8) p114 q114; cases e114; replace p114 := eq_true p114; replace q114 := eq_true q114; go_wp2; go_roundg k2; (case measure => have := HJ2.out; have := HK2.out; omega); (case rel => exact ⟨(wrap64 ((wrap64 (x4_2 * 128)) + (Int.tmod (wrap64 (rd l0 (ji8))) 128))), (wrap64 (x17_2 + 1)), (by first | rfl | (simp; done) | (simp only [← hji8] <;> (first | rfl | simp)) | (simp [*]; done)), (by first | rfl | (simp; done) | (simp [*]; done)), H', ⟨by have := HJ2.out; have := HK2.out; omega⟩, by repeat (first | exact Drawn0.refl _ | apply Drawn0.step)⟩))); (· rw [if_neg c10] at H; exact absurd H (by simp))); (· rw [if_neg c9] at H; exact absurd H (by simp))))
       (· rw [if_neg c6] at H; have c6b0 : decide (x17_2 < 5) = false := decide_eq_false c6; clear c6; simp only [Option.some.injEq, Prod.mk.injEq] at H; obtain ⟨rfl, rfl, rfl⟩ := H; go_wp2; go_ret3; exact ⟨by first | rfl | (simp; done) | (simp [*]; done), by repeat (first | exact Drawn0.refl _ | apply Drawn0.step)⟩)
end Go.Proofs.Ytmndieohblpgaaa.U
namespace Go.Proofs.Ytmndieohblpgaaa.NewRef
open Go Go.RowKit YtmndieohblpgaaaW PrintWords PrintLast PrintMore Aid HandAid Cod1 Cod2 Ytmndieohblpgaaa.Mod
end Go.Proofs.Ytmndieohblpgaaa.NewRef
namespace Go.Proofs.Ytmndieohblpgaaa.Dec
open Go Go.RowKit YtmndieohblpgaaaW PrintWords PrintLast PrintMore Aid HandAid Cod1 Cod2 Cod3 Ytmndieohblpgaaa.Mod Enc Mods EncAt Put End Snc
theorem u64_orb {x y : Int} (h : 0 ≤ x) (hm : x % 256 = 0) (h' : x < 2 ^ 64) (hy : 0 ≤ y) (hy' : y < 256) : Go.bits .or .u64 x y = x + y := bits_join .u64 64 (by decide) wraps_u64 8 x y h hm h' hy (by omega) (by omega)
/-- A decoder's state: how many bytes beyond the code were taken is a's business. -/
structure DS where
 kind : Int
 st : List Int
 low : Int
 high : Int
 code : List Int
 a : Nat
 value : Int
 ended : Bool
/-- A byte of the code, 0 behind its end. -/
def byteOf (code : List Int) (i : Nat) : Int := if i < code.length then rd code i else 0
/-- The value behind n shifts. -/
def shV (code : List Int) : Nat → Int → Nat → Int
 | 0, v, _ => v
 | n + 1, v, a => shV code n (v % 16777216 * 256 + byteOf code a) (a + 1)
structure DS.ok (s : DS) : Prop where
 m : okModel s.kind s.st
 l : 0 ≤ s.low
 lh : s.low ≤ s.high
 h : s.high ≤ 4294967295
 n : s.low / 16777216 ≠ s.high / 16777216
 v0 : 0 ≤ s.value
 v1 : s.value ≤ 4294967295
 by_ : Bytes s.code
 len : s.code.length ≤ 1099511627776
 be : s.a - s.code.length ≤ 4
def DS.mid (s : DS) (i : Nat) : Int := midOf s.low s.high (likely s.kind (rd s.st i))
def DS.bit (s : DS) (i : Nat) : Int := if s.value ≤ s.mid i then 1 else 0
def DS.norm (s : DS) (i : Nat) : List Int × Int × Int := normE 4 (cutL s.low (s.mid i) (s.bit i)) (cutH s.high (s.mid i) (s.bit i))
/-- The state behind a bit that is got. -/
def DS.next (s : DS) (i : Nat) : DS := ⟨s.kind, s.st.set i (after s.kind (rd s.st i) (s.bit i)), (s.norm i).2.1, (s.norm i).2.2, s.code, s.a + (s.norm i).1.length, shV s.code (s.norm i).1.length s.value s.a, false⟩
def DS.dead (s : DS) : DS := { s with ended := true }
/-- Get: the state, the bit, the error. -/
def DS.getI (s : DS) (i : Int) : DS × Int × Int :=
 if 0 ≤ i ∧ i < s.st.length then (if s.ended = true then (s, 0, 6) else if s.a + (s.norm i.toNat).1.length - s.code.length > 4 then (s.dead, 0, 6) else (s.next i.toNat, s.bit i.toNat, 0)) else (s, 0, 2)
theorem byteOf_range {code : List Int} (h : Bytes code) (i : Nat) : 0 ≤ byteOf code i ∧ byteOf code i ≤ 255 := by
 unfold byteOf
 split
 · exact bytes_rd h (by assumption)
 · omega
theorem shV_range {code : List Int} (h : Bytes code) : ∀ (n : Nat) (v : Int) (a : Nat), 0 ≤ v → v ≤ 4294967295 → 0 ≤ shV code n v a ∧ shV code n v a ≤ 4294967295
 | 0, v, a, h0, h1 => ⟨h0, h1⟩
 | n + 1, v, a, h0, h1 => by
   have := byteOf_range h a
   exact shV_range h n _ _ (by omega) (by omega)
theorem shV_succ (code : List Int) : ∀ (n : Nat) (v : Int) (a : Nat), shV code (n + 1) v a = shV code n v a % 16777216 * 256 + byteOf code (a + n)
 | 0, v, a => rfl
 | n + 1, v, a => by
   show shV code (n + 1) (v % 16777216 * 256 + byteOf code a) (a + 1) = _
   rw [shV_succ code n, show a + 1 + n = a + (n + 1) by omega]
   rfl
theorem DS.at_ {s : DS} (h : s.ok) {i : Nat} (hi : i < s.st.length) : okState s.kind (rd s.st i) := h.m.2.2 _ (rd_mem (by omega) (by omega))
theorem DS.mid_ {s : DS} (h : s.ok) {i : Nat} (hi : i < s.st.length) : s.low ≤ s.mid i ∧ s.mid i < s.high := by
 have hr := likely_range _ _ (DS.at_ h hi)
 have hm := mid_range s.low s.high _ h.lh hr.1 hr.2
 have hlt : s.low < s.high := by
  have := h.lh
  rcases Int.lt_or_le s.low s.high with c | c
  · exact c
  · exact absurd (by rw [show s.low = s.high by omega]) h.n
 exact ⟨hm.1, hm.2.1 hlt⟩
theorem DS.cut_ {s : DS} (h : s.ok) {i : Nat} (hi : i < s.st.length) : 0 ≤ cutL s.low (s.mid i) (s.bit i) ∧ cutL s.low (s.mid i) (s.bit i) ≤ cutH s.high (s.mid i) (s.bit i) ∧ cutH s.high (s.mid i) (s.bit i) ≤ 4294967295 := by
 have hm := DS.mid_ h hi
 have := h.l
 have := h.h
 unfold cutL cutH
 split <;> omega
theorem DS.bit_ (s : DS) (i : Nat) : s.bit i = 0 ∨ s.bit i = 1 := by unfold DS.bit; split <;> simp
theorem DS.getI_ok {s : DS} (h : s.ok) (i : Int) : (s.getI i).1.ok := by
 unfold DS.getI
 by_cases c : 0 ≤ i ∧ i < s.st.length
 · rw [if_pos c]
   by_cases e : s.ended = true
   · rw [if_pos e]
     exact h
   rw [if_neg e]
   by_cases b : s.a + (s.norm i.toNat).1.length - s.code.length > 4
   · rw [if_pos b]
     exact ⟨h.m, h.l, h.lh, h.h, h.n, h.v0, h.v1, h.by_, h.len, h.be⟩
   · rw [if_neg b]
     have hi : i.toNat < s.st.length := by omega
     obtain ⟨h0, h1, h2⟩ := DS.cut_ h hi
     have hd := norm_done 4 _ _ h0 h1 h2 (by rw [show (256 : Int) ^ 4 = 4294967296 from rfl]; omega)
     have hv := shV_range h.by_ (s.norm i.toNat).1.length s.value s.a h.v0 h.v1
     refine ⟨⟨h.m.1, ?_, fun x hx => ?_⟩, hd.2.1, hd.2.2.1, hd.2.2.2, hd.1, hv.1, hv.2, h.by_, h.len, by show s.a + (s.norm i.toNat).1.length - s.code.length ≤ 4; omega⟩
     · show (s.st.set _ _).length ≤ 8192
       rw [List.length_set]
       exact h.m.2.1
     · rcases List.mem_or_eq_of_mem_set hx with hx | rfl
       · exact h.m.2.2 x hx
       · exact after_ok _ _ _ (DS.at_ h hi) (DS.bit_ s _)
 · rw [if_neg c]
   exact h
/-- A decoder's cells. -/
def dec42 (kind : Int) (v : Value) (low high : Int) (vc : Value) (a value be : Int) (ended real : Bool) : Array Value := #[.int .i64 kind, v, .int .i64 2048, .int .i64 1792, .int .i64 1568, .int .i64 1372, .int .i64 1201, .int .i64 1051, .int .i64 920, .int .i64 805, .int .i64 705, .int .i64 617, .int .i64 540, .int .i64 473, .int .i64 414, .int .i64 363, .int .i64 318, .int .i64 279, .int .i64 245, .int .i64 215, .int .i64 189, .int .i64 166, .int .i64 146, .int .i64 128, .int .i64 112, .int .i64 98, .int .i64 86, .int .i64 76, .int .i64 67, .int .i64 59, .int .i64 52, .int .i64 46, .int .i64 41, .int .i64 36, .int .u64 low, .int .u64 high, vc, .int .i64 a, .int .u64 value, .int .i64 be, .bool ended, .bool real]
structure DecRow (W : World) (S : Nat → Prop) (g : Nat) (kind : Int) (A : Option Addr) (c : Nat) (st : List Int) (low high : Int) (vc : Value) (code : List Int) (a : Nat) (value : Int) (ended : Bool) : Prop where
 b : W.heap[g]? = some (.cells (dec42 kind (.slice A st.length c) low high vc a value ((a - code.length : Nat) : Int) ended true) 78 (0, 0))
 s : Kd.R (Kd.int .i64) 3 W 0 S (.slice A st.length c) st
 o : Kd.R (Kd.int .u8) 5 W 0 S vc code
 g : S g
section
variable {W W' : World} {S S' : Nat → Prop} {g : Nat} {kind : Int} {A : Option Addr} {c : Nat} {st : List Int} {low high : Int} {vc : Value} {code : List Int} {a : Nat} {value : Int} {ended : Bool}
theorem DecRow.kept (h : DecRow W S g kind A c st low high vc code a value ended) (hk : Mods W W' S') (hne : ∀ k, S k → ¬ S' k) : DecRow W' S g kind A c st low high vc code a value ended :=
 ⟨blk_kept h.b hk.kept (hne g h.g), Kd.R_kept h.s hk.kept hne, Kd.R_kept h.o hk.kept hne, h.g⟩
theorem DecRow.below (h : DecRow W S g kind A c st low high vc code a value ended) (hb : Below W.heap.size W W') : DecRow W' S g kind A c st low high vc code a value ended :=
 ⟨blk_below h.b hb, Kd.R_below h.s hb, Kd.R_below h.o hb, h.g⟩
theorem DecRow.drewN (h : DecRow W S g kind A c st low high vc code a value ended) (m : Nat) : DecRow (W.drewN m) S g kind A c st low high vc code a value ended := h.below (pw_below_drewN (Below.refl _ _) m)
theorem DecRow.drew (h : DecRow W S g kind A c st low high vc code a value ended) : DecRow W.drew S g kind A c st low high vc code a value ended := h.below (below_drew (Below.refl _ _))
theorem DecRow.mono (h : DecRow W S g kind A c st low high vc code a value ended) (hs : ∀ k, S k → S' k) : DecRow W S' g kind A c st low high vc code a value ended :=
 ⟨h.b, Kd.R_mono h.s hs, Kd.R_mono h.o hs, hs g h.g⟩
theorem DecRow.iv (h : DecRow W S g kind A c st low high vc code a value ended) : Iv W g kind A st.length c low high :=
 ⟨(blk_cell h.b 0).trans rfl, (blk_cell h.b 1).trans rfl, range_of (r := [.int .u64 low, .int .u64 high, vc, .int .i64 a, .int .u64 value, .int .i64 ((a - code.length : Nat) : Int), .bool ended, .bool true]) (by rw [qlist]; exact h.b), (blk_cell h.b 34).trans rfl, (blk_cell h.b 35).trans rfl, fun i => blk_frozen h.b i⟩
theorem DecRow.c36 (h : DecRow W S g kind A c st low high vc code a value ended) : W.cell? ⟨g, 36, none⟩ = some vc := (blk_cell h.b 36).trans rfl
theorem DecRow.c37 (h : DecRow W S g kind A c st low high vc code a value ended) : W.cell? ⟨g, 37, none⟩ = some (.int .i64 a) := (blk_cell h.b 37).trans rfl
theorem DecRow.c38 (h : DecRow W S g kind A c st low high vc code a value ended) : W.cell? ⟨g, 38, none⟩ = some (.int .u64 value) := (blk_cell h.b 38).trans rfl
theorem DecRow.c39 (h : DecRow W S g kind A c st low high vc code a value ended) : W.cell? ⟨g, 39, none⟩ = some (.int .i64 ((a - code.length : Nat) : Int)) := (blk_cell h.b 39).trans rfl
theorem DecRow.c40 (h : DecRow W S g kind A c st low high vc code a value ended) : W.cell? ⟨g, 40, none⟩ = some (.bool ended) := (blk_cell h.b 40).trans rfl
theorem DecRow.c41 (h : DecRow W S g kind A c st low high vc code a value ended) : W.cell? ⟨g, 41, none⟩ = some (.bool true) := (blk_cell h.b 41).trans rfl
theorem DecRow.fz (h : DecRow W S g kind A c st low high vc code a value ended) (i : Nat) : W.frozen? ⟨g, i, none⟩ = false := blk_frozen h.b i
theorem DecRow.cell (h : DecRow W S g kind A c st low high vc code a value ended) {i : Nat} (hi : i < st.length) : ∃ b, A = some ⟨b, 0, none⟩ ∧ W.cell? ⟨b, i, none⟩ = some (.int .i64 (rd st i)) ∧ W.frozen? ⟨b, i, none⟩ = false ∧ b ≠ g := by
 obtain ⟨b, cap, hv, _, _, cells, hc⟩ := Kd.R_form h.s (by omega)
 injection hv with hA _ hcap
 subst hA hcap
 have h1 := Kd.R_cell (0 : Int) h.s (i : Int) (by omega) (by omega)
 have hne : b ≠ g := blk_ne hc h.b (by decide)
 exact ⟨b, rfl, h1.1, h1.2, hne⟩
theorem DecRow.put (h : DecRow W S g kind A c st low high vc code a value ended) (j : Nat) (u : Value) {kind' low' high' value' : Int} {a' : Nat} {ended' : Bool} (e : (dec42 kind (.slice A st.length c) low high vc a value ((a - code.length : Nat) : Int) ended true).setIfInBounds j u = dec42 kind' (.slice A st.length c) low' high' vc a' value' ((a' - code.length : Nat) : Int) ended' true) : DecRow (W.setCell ⟨g, j, none⟩ u) S g kind' A c st low' high' vc code a' value' ended' :=
 ⟨blk_put h.b j u e, Kd.R_set h.s h.b (by decide) _ _, Kd.R_set h.o h.b (by decide) _ _, h.g⟩
theorem DecRow.cut (h : DecRow W S g kind A c st low high vc code a value ended) (bit mid : Int) : DecRow (cutW W g bit mid) S g kind A c st (cutL low mid bit) (cutH high mid bit) vc code a value ended := by
 unfold cutW cutL cutH
 split
 · exact h.put 35 _ rfl
 · exact h.put 34 _ rfl
theorem DecRow.lost (h : DecRow W S g kind A c st low high vc code a value ended) (l' h' : Int) : DecRow ((W.setCell ⟨g, 34, none⟩ (.int .u64 l')).setCell ⟨g, 35, none⟩ (.int .u64 h')) S g kind A c st l' h' vc code a value ended :=
 DecRow.put (h.put (low' := l') 34 (.int .u64 l') rfl) 35 _ rfl
theorem DecRow.setst {b : Nat} (h : DecRow W S g kind (some ⟨b, 0, none⟩) c st low high vc code a value ended) {i : Nat} (hi : i < st.length) (x : Int) : DecRow (W.setCell ⟨b, i, none⟩ (.int .i64 x)) S g kind (some ⟨b, 0, none⟩) c (st.set i x) low high vc code a value ended := by
 obtain ⟨b', hA, _, _, hne⟩ := h.cell hi
 injection hA with hA
 injection hA with hA _ _
 subst hA
 obtain ⟨cells, hty⟩ := Kd.R_typed h.s b (by simp [Value.ownBlock])
 have hp := (Kd.R_put (enc := Value.int .i64) h.s (i : Int) x).1
 rw [Int.toNat_natCast] at hp
 have hl : (st.set i x).length = st.length := List.length_set
 refine ⟨?_, ?_, Kd.R_set h.o hty (by decide) _ _, h.g⟩
 · rw [hl]
   exact blk_far h.b (Ne.symm hne) _
 · rw [hl]
   exact hp
/-- A shift, where the code goes on. -/
theorem DecRow.adv (h : DecRow W S g kind A c st low high vc code a value ended) (ha : a < code.length) (v : Int) : DecRow ((W.setCell ⟨g, 37, none⟩ (.int .i64 ((a : Int) + 1))).setCell ⟨g, 38, none⟩ (.int .u64 v)) S g kind A c st low high vc code (a + 1) v ended := by
 have e1 : a + 1 - code.length = a - code.length := by omega
 exact DecRow.put (h.put (a' := a + 1) 37 (.int .i64 ((a : Int) + 1)) (by rw [e1]; rfl)) 38 _ rfl
/-- A shift behind the code's end. -/
theorem DecRow.advB (h : DecRow W S g kind A c st low high vc code a value ended) (ha : ¬ a < code.length) (v : Int) : DecRow (((W.setCell ⟨g, 39, none⟩ (.int .i64 (((a - code.length : Nat) : Int) + 1))).setCell ⟨g, 37, none⟩ (.int .i64 ((a : Int) + 1))).setCell ⟨g, 38, none⟩ (.int .u64 v)) S g kind A c st low high vc code (a + 1) v ended := by
 have e1 : ((a + 1 - code.length : Nat) : Int) = ((a - code.length : Nat) : Int) + 1 := by omega
 have h1 : (W.setCell ⟨g, 39, none⟩ (.int .i64 (((a - code.length : Nat) : Int) + 1))).heap[g]? = some (.cells (dec42 kind (.slice A st.length c) low high vc a value (((a - code.length : Nat) : Int) + 1) ended true) 78 (0, 0)) := blk_put h.b 39 _ rfl
 have h2 := blk_put (cs' := dec42 kind (.slice A st.length c) low high vc ((a : Int) + 1) value (((a - code.length : Nat) : Int) + 1) ended true) h1 37 (.int .i64 ((a : Int) + 1)) rfl
 have h3 := blk_put (cs' := dec42 kind (.slice A st.length c) low high vc ((a : Int) + 1) v (((a - code.length : Nat) : Int) + 1) ended true) h2 38 (.int .u64 v) rfl
 refine ⟨?_, Kd.R_set (Kd.R_set (Kd.R_set h.s h.b (by decide) _ _) h1 (by decide) _ _) h2 (by decide) _ _, Kd.R_set (Kd.R_set (Kd.R_set h.o h.b (by decide) _ _) h1 (by decide) _ _) h2 (by decide) _ _, h.g⟩
 rw [e1]
 exact h3
end
def ShiftPost (w : World) (S : Nat → Prop) (g : Nat) (kind : Int) (A : Option Addr) (c : Nat) (st : List Int) (low high : Int) (vc : Value) (code : List Int) (a : Nat) (value : Int) (ended : Bool) (e : Ending) (w' : World) : Prop :=
 e = .returned (.tuple #[]) ∧ DecRow w' S g kind A c st low high vc code (a + 1) (value % 16777216 * 256 + byteOf code a) ended ∧ Mods w w' S
set_option maxHeartbeats 2000000 in
theorem shift_row (w : World) (S : Nat → Prop) (g : Nat) (kind : Int) (A : Option Addr) (c : Nat) (st : List Int) (low high : Int) (vc : Value) (code : List Int) (a : Nat) (value : Int) (ended : Bool) (hE : DecRow w S g kind A c st low high vc code a value ended) (hv0 : 0 ≤ value) (hv1 : value ≤ 4294967295) (hby : Bytes code) (hlen : code.length ≤ 1099511627776) (ha : a ≤ 2199023255552) :
 Calls Try.prog 28 #[.pointer (some ⟨g, 0, none⟩)] w (ShiftPost w S g kind A c st low high vc code a value ended) := by
 have HE := A' hE
 have hSg : S g := hE.g
 obtain ⟨Ac, cc, hvc⟩ := Kd.R_slice hE.o
 subst hvc
 have k36 := hE.c36
 have k37 := hE.c37
 have k38 := hE.c38
 have f37 := hE.fz 37
 have f38 := hE.fz 38
 have f39 := hE.fz 39
 have hbr := byteOf_range hby a
 have e1 : Go.bits .and .u64 (value * 256) 4294967295 = value % 16777216 * 256 := (u64_low32 (x := value * 256) (by omega) (by omega)).trans (by omega)
 by_cases hlt : a < code.length
 · have hb : byteOf code a = rd code a := if_pos hlt
   rw [hb] at hbr
   obtain ⟨ad, hA, hx⟩ := Kd.at_int (Kd.R_reads' hE.o).2.2 (a : Int) (by omega) (by omega)
   subst hA
   rw [Int.toNat_natCast] at hx
   have e2 : Go.bits .or .u64 (value % 16777216 * 256) (rd code a) = value % 16777216 * 256 + rd code a := u64_orb (by omega) (by omega) (by omega) hbr.1 (by omega)
   have hi : (a : Int) < (code.length : Int) := by omega
   have HL := A' hlt
   have HBB := A' hb
   clear hE hby hb hlt
   go_enter Try.func28, Try.ntmps28
   go_wp2
   go_quiet (fail)
   go_wp2
   go_quiet (fail)
   go_wp2
   go_end0
   refine ⟨rfl, ?_, ?_⟩
   · rw [HBB.out]
     exact (HE.out.adv HL.out _).drewN _
   · exact (((Mods.refl w S).setCell (.inl hSg) _).setCell (.inl hSg) _).drewN _
 · have hb : byteOf code a = 0 := if_neg hlt
   have k39 := hE.c39
   have hi : ¬ (a : Int) < (code.length : Int) := by omega
   obtain ⟨d, hd⟩ : ∃ d : Nat, a - code.length = d := ⟨_, rfl⟩
   rw [hd] at k39
   have hdd : (d : Int) ≤ 2199023255552 := by omega
   have HD := A' hd
   have e2 : Go.bits .or .u64 (value % 16777216 * 256) 0 = value % 16777216 * 256 := (u64_orb (x := value % 16777216 * 256) (y := 0) (by omega) (by omega) (by omega) (by omega) (by omega)).trans (by omega)
   have HL := A' hlt
   have HBB := A' hb
   clear hE hby hb hlt hd hbr
   go_enter Try.func28, Try.ntmps28
   go_wp2
   go_quiet (fail)
   go_wp2
   go_end0
   refine ⟨rfl, ?_, ?_⟩
   · rw [HBB.out, Int.add_zero]
     have h9 := HE.out.advB HL.out (value % 16777216 * 256)
     rw [HD.out] at h9
     exact h9.drewN _
   · exact ((((Mods.refl w S).setCell (.inl hSg) _).setCell (.inl hSg) _).setCell (.inl hSg) _).drewN _
theorem dec_none (w : World) (g : Nat) (real : Bool) (h2 : w.cell? ⟨g, 41, none⟩ = some (.bool real)) : Calls Try.prog 38 #[.pointer (some ⟨g, 0, none⟩)] w fun e w' => e = .returned (.bool (!real)) ∧ w = w' := by
 go_enter Try.func38, Try.ntmps38
 go_wp2
 go_ret
 exact ⟨rfl, rfl⟩
end Go.Proofs.Ytmndieohblpgaaa.Dec
namespace Go.Proofs.Ytmndieohblpgaaa.Get
open Go Go.RowKit YtmndieohblpgaaaW PrintWords PrintLast PrintMore Aid HandAid Cod1 Cod2 Cod3 Ytmndieohblpgaaa.Mod Enc Mods EncAt Put End Snc Dec
theorem exec_load_row {P : Program} {o : Oper} {a : Act} {w : World} (ty : TypeId) (x : Operand) (ho : o.op = .load ty x)
 (g : Nat) (hx : a.eval x = .pointer (some ⟨g, 0, none⟩)) (t : TypeId) (cs : Array Value) (fr : Nat × Nat) (d : TypeDesc) (hg : w.heap[g]? = some (.cells cs t fr))
 (hu : P.underlying ty = some d) (hd : (match d with | .struct _ | .array _ _ => true | _ => false) = true) (hi : (P.info? ty).map (·.size) = some cs.size) : (execOp a.eval o).run P w = .ok (.value (.agg cs)) w := by
 unfold execOp
 simp only [ho, hx, Instr.loadAt, Instr.sureAddr, Sem.run_bind, Sem.run_pure, Result.andThen_ok, run_loadVar_row w g t ty cs fr d hg hu hd hi]
theorem exec_store_row {P : Program} {o : Oper} {a : Act} {w : World} (ty : TypeId) (x y : Operand) (ho : o.op = .store ty x y)
 (g : Nat) (cells : Array Value) (hx : a.eval x = .pointer (some ⟨g, 0, none⟩)) (hy : a.eval y = .agg cells)
 (t : TypeId) (old : Array Value) (hg : w.heap[g]? = some (.cells old t (0, 0))) (hi : (P.info? ty).map (·.size) = some cells.size)
 (hold : old.size = cells.size) (h1 : cells.all (·.oneCell') = true) : (execOp a.eval o).run P w = .ok .skip (w.setRow g cells) := by
 unfold execOp
 simp only [ho, hx, hy, Instr.storeAt, Instr.sureAddr, Sem.run_bind, Sem.run_pure, Result.andThen_ok, run_storeVar_row w g t ty old cells hg hi hold h1]
theorem info42 {row : Array Value} (h : row.size = 42) : (Try.prog.info? 78).map (·.size) = some row.size := by rw [h]; kernel_rfl
theorem dec42_size (kind : Int) (v : Value) (low high : Int) (vc : Value) (a value be : Int) (ended real : Bool) : (dec42 kind v low high vc a value be ended real).size = 42 := rfl
theorem one42 (kind : Int) (A : Option Addr) (n c : Nat) (low high : Int) (Ac : Option Addr) (nc cc : Nat) (a value be : Int) (ended real : Bool) : (dec42 kind (.slice A n c) low high (.slice Ac nc cc) a value be ended real).all (·.oneCell') = true := by simp [dec42, Value.oneCell']
def z42 : Array Value := #[.int .i64 0, .slice none 0 0, .int .i64 0, .int .i64 0, .int .i64 0, .int .i64 0, .int .i64 0, .int .i64 0, .int .i64 0, .int .i64 0, .int .i64 0, .int .i64 0, .int .i64 0, .int .i64 0, .int .i64 0, .int .i64 0, .int .i64 0, .int .i64 0, .int .i64 0, .int .i64 0, .int .i64 0, .int .i64 0, .int .i64 0, .int .i64 0, .int .i64 0, .int .i64 0, .int .i64 0, .int .i64 0, .int .i64 0, .int .i64 0, .int .i64 0, .int .i64 0, .int .i64 0, .int .i64 0, .int .u64 0, .int .u64 0, .slice none 0 0, .int .i64 0, .int .u64 0, .int .i64 0, .bool false, .bool false]
theorem z42_def : z42 = #[.int .i64 0, .slice none 0 0, .int .i64 0, .int .i64 0, .int .i64 0, .int .i64 0, .int .i64 0, .int .i64 0, .int .i64 0, .int .i64 0, .int .i64 0, .int .i64 0, .int .i64 0, .int .i64 0, .int .i64 0, .int .i64 0, .int .i64 0, .int .i64 0, .int .i64 0, .int .i64 0, .int .i64 0, .int .i64 0, .int .i64 0, .int .i64 0, .int .i64 0, .int .i64 0, .int .i64 0, .int .i64 0, .int .i64 0, .int .i64 0, .int .i64 0, .int .i64 0, .int .i64 0, .int .i64 0, .int .u64 0, .int .u64 0, .slice none 0 0, .int .i64 0, .int .u64 0, .int .i64 0, .bool false, .bool false] := rfl
theorem set_back {st : List Int} {i : Nat} (y : Int) (hi : i < st.length) : (st.set i y).set i (rd st i) = st := by
 rw [List.set_set]
 apply List.ext_getElem?
 intro k
 rw [List.getElem?_set]
 by_cases hk : i = k
 · subst hk
   rw [if_pos rfl, if_pos hi, List.getElem?_eq_getElem hi]
   simp [rd, List.getD_eq_getElem?_getD, List.getElem?_eq_getElem hi]
 · rw [if_neg hk]
theorem setRow_size (W : World) (g : Nat) (cs : Array Value) : (W.setRow g cs).heap.size = W.heap.size := by
 simp [World.setRow]
theorem mods_setRow {w W : World} {S : Nat → Prop} (h : Mods w W S) {g : Nat} (hg : S g) (cs : Array Value) : Mods w (W.setRow g cs) S :=
 h.then_ (S2 := fun k => k = g) ⟨rfl, rfl, rfl, by rw [setRow_size]; exact Nat.le_refl _, fun i _ hn => setRow_other _ _ _ _ hn⟩ (fun k hk => by rw [hk]; exact .inl hg)
theorem dec_setRow {W : World} {S : Nat → Prop} {g : Nat} {kind : Int} {A : Option Addr} {c : Nat} {st : List Int} {low high : Int} {vc : Value} {code : List Int} {a : Nat} {value : Int} {ended : Bool} (h : DecRow W S g kind A c st low high vc code a value ended) {st' : List Int} (hst : st'.length = st.length) (kind' low' high' : Int) (a' : Nat) (value' : Int) (ended' : Bool) : DecRow (W.setRow g (dec42 kind' (.slice A st'.length c) low' high' vc a' value' ((a' - code.length : Nat) : Int) ended' true)) S g kind' A c st low' high' vc code a' value' ended' :=
 ⟨hst ▸ setRow_heap W g _ _ _ _ h.b, Kd.R_mono (Kd.R_step (Kd.R_types h.s h.b (by decide)) fun k hk _ => setRow_other _ _ _ _ hk.2) (fun _ hk => hk.1), Kd.R_mono (Kd.R_step (Kd.R_types h.o h.b (by decide)) fun k hk _ => setRow_other _ _ _ _ hk.2) (fun _ hk => hk.1), h.g⟩
/-- What a Get that takes a bit leaves. -/
def GetPost (w : World) (S : Nat → Prop) (g : Nat) (kind : Int) (b c : Nat) (st : List Int) (low high mid : Int) (vc : Value) (code : List Int) (a : Nat) (value : Int) (i : Nat) (bit : Int) (e : Ending) (w' : World) : Prop :=
 (∃ l h n, normE 4 (cutL low mid bit) (cutH high mid bit) = (n, l, h) ∧ ((a + n.length - code.length > 4 ∧ e = .returned (.tuple #[.int .i64 0, .int .i64 6]) ∧ DecRow w' S g kind (some ⟨b, 0, none⟩) c st low high vc code a value true) ∨ (¬ a + n.length - code.length > 4 ∧ e = .returned (.tuple #[.int .i64 bit, .int .i64 0]) ∧ DecRow w' S g kind (some ⟨b, 0, none⟩) c (st.set i (after kind (rd st i) bit)) l h vc code (a + n.length) (shV code n.length value a) false))) ∧ Mods w w' S
set_option maxHeartbeats 4000000 in
set_option maxRecDepth 100000 in
theorem get_row0 (w : World) (S : Nat → Prop) (g : Nat) (kind : Int) (b c : Nat) (st : List Int) (low high mid : Int) (vc : Value) (code : List Int) (a : Nat) (value : Int) (i : Nat) (hE : DecRow w S g kind (some ⟨b, 0, none⟩) c st low high vc code a value false) (hSb : ∀ k, S k → k < w.heap.size) (hi : i < st.length) (hn : st.length ≤ 8192) (hs : okState kind (rd st i)) (hl0 : 0 ≤ low) (hlh : low ≤ high) (hh : high ≤ 4294967295) (hmid : midOf low high (likely kind (rd st i)) = mid) (hm0 : 0 ≤ mid) (hm1 : mid ≤ 4294967295) (hI0 : PutInv [] (cutL low mid 0) (cutH high mid 0) 4 (cutL low mid 0) (cutH high mid 0) []) (hv0 : 0 ≤ value) (hv1 : value ≤ 4294967295) (hby : Bytes code) (hlen : code.length ≤ 1099511627776) (ha : a - code.length ≤ 4) (hvb : ¬ value ≤ mid) :
 Calls Try.prog 29 #[.pointer (some ⟨g, 0, none⟩), .int .i64 i] w (GetPost w S g kind b c st low high mid vc code a value i 0) := by
 have HE := A' hE
 have hSg : S g := hE.g
 obtain ⟨Ac, cc, hvc⟩ := Kd.R_slice hE.o
 subst hvc
 have h2 := hE.c41
 have k40 := hE.c40
 have k1 := hE.iv.s
 have HMID := A' (hmid ▸ mid_calls w g kind (some ⟨b, 0, none⟩) st.length c low high i (rd st i) hE.iv ⟨_, rfl, by obtain ⟨b', hA, hc, _⟩ := hE.cell hi; cases hA; rw [add_plain]; exact hc⟩ hi hn hs hl0 hlh hh)
 have HI := A' hI0
 have HBY := A' hby
 have HSB := A' hSb
 clear hE hmid hI0 hby hSb
 have hi1 : (0 : Int) ≤ (i : Int) := by omega
 have hi2 : (i : Int) < (st.length : Int) := by omega
 go_enter Try.func29, Try.ntmps29
 go_wp2_with (first
  | (go_at_call 38; refine (dec_none _ _ _ h2).mono ?_; rintro e w' ⟨rfl, rfl⟩)
  | (go_at_call 33; refine HMID.out.mono ?_; rintro e w3 ⟨rfl, hb3⟩; have HE3 := A' (HE.out.below hb3); have HK3 := A' ((Mods.refl w S).below hb3); clear hb3; have k38 := HE3.out.c38))
 clear h2 k40 k1 k38
 obtain ⟨row, hrow⟩ : ∃ row, (dec42 kind (.slice (some ⟨b, 0, none⟩) st.length c) low high (.slice Ac code.length cc) a value ((a - code.length : Nat) : Int) false true) = row := ⟨_, rfl⟩
 have hsz : row.size = 42 := by rw [← hrow]; rfl
 have hone : row.all (·.oneCell') = true := by rw [← hrow]; exact one42 _ _ _ _ _ _ _ _ _ _ _ _ _ _
 have p0 : w3.drew.heap[g]? = some (.cells row 78 (0, 0)) := by rw [← hrow]; exact HE3.out.b
 have p1 := HE3.out.drew.iv.s
 have p2 : w3.drew.cell? ⟨b, i, none⟩ = some (.int .i64 (rd st i)) := by
  obtain ⟨b3, hA3, hc3, _⟩ := HE3.out.cell hi
  cases hA3
  exact hc3
 have HROW := A' hrow
 have HE3 := A' HE3.out.drew
 have HK3 := A' HK3.out.drew
 clear hrow
 refine start_ (n := 15) (S := fun w' => w'.heap[g]? = some (.cells row 78 (0, 0)) ∧ w'.cell? ⟨g, 1, none⟩ = some (.slice (some ⟨b, 0, none⟩) st.length c) ∧ w'.cell? ⟨b, i, none⟩ = some (.int .i64 (rd st i))) (ds := []) #[false, false, false, false, false, false, false, false, false, false, false, false, false, false, false] (by kernel_rfl) rfl rfl ⟨p0, p1, p2⟩ (fun hHeld => ?_)
 generalize w3.drew = wd at p0 p1 p2 HE3 HK3 hHeld ⊢
 refine u' 0 43 (B' 15 1) ?_ rfl rfl (by kernel_rfl) (fun _ _ _ h => h) (.inl ⟨by rfl, ?_⟩) ?_ ?_ ?_; rotate_left; (intro w'; go_simp; with_reducible rfl); rotate_left; (simp only [Act.put, p1', p2', p3', i64_w, i32_w]; rfl)
 refine u' 1 44 (B' 15 3) ?_ rfl rfl (by kernel_rfl) (fun _ _ _ h => h) (.inl ⟨by rfl, ?_⟩) ?_ ?_ ?_; rotate_left; (intro w'; go_simp; with_reducible rfl); rotate_left; (simp only [Act.put, p1', p2', p3', i64_w, i32_w]; rfl)
 refine u' 3 46 (B' 15 11) ?_ rfl rfl (by kernel_rfl) (fun _ _ _ h => h) (.inl ⟨by rfl, ?_⟩) ?_ ?_ ?_; rotate_left; (intro w'; go_simp; with_reducible rfl); rotate_left; (simp only [Act.put, p1', p2', p3', i64_w, i32_w]; rfl)
 refine u' 4 47 (B' 15 27) ?_ rfl rfl (by kernel_rfl) (fun _ _ _ h => h) (.inl ⟨by rfl, ?_⟩) ?_ ?_ ?_; rotate_left; (intro w'; go_simp; with_reducible rfl); rotate_left; (simp only [Act.put, p1', p2', p3', i64_w, i32_w]; rfl)
 refine u' 5 48 (B' 15 59) ?_ rfl rfl (by kernel_rfl) (fun _ _ _ h => h) (.inl ⟨by rfl, ?_⟩) ?_ ?_ ?_; rotate_left; (intro w'; go_simp; with_reducible rfl); rotate_left; (simp only [Act.put, p1', p2', p3', i64_w, i32_w]; rfl)
 refine u' 6 49 (B' 15 123) ?_ rfl rfl (by kernel_rfl) (fun _ _ _ h => h) (.inl ⟨by rfl, ?_⟩) ?_ ?_ ?_; rotate_left; (intro w'; go_simp; with_reducible rfl); rotate_left; (simp only [Act.put, p1', p2', p3', i64_w, i32_w]; rfl)
 refine u' 7 50 (B' 15 251) ?_ rfl rfl (by kernel_rfl) (fun _ _ _ h => h) (.inl ⟨by rfl, ?_⟩) ?_ ?_ ?_; rotate_left; (intro w'; go_simp; with_reducible rfl); rotate_left; (simp only [Act.put, p1', p2', p3', i64_w, i32_w]; rfl)
 refine u' 9 52 (B' 15 763) ?_ rfl rfl (by kernel_rfl) (fun _ _ _ h => h) (.inl ⟨by rfl, ?_⟩) ?_ ?_ ?_; rotate_left; (intro w'; go_simp; with_reducible rfl); rotate_left; (simp only [Act.put, p1', p2', p3', i64_w, i32_w]; rfl)
 refine take_ (i := 2) (N := some 45) (v := ?_) (a' := ?_) (B' 15 767) rfl rfl (by kernel_rfl) (fun _ _ _ h => h) (Or.inl ⟨by rfl, ?_⟩) hHeld ?_ ?_
 rotate_left
 · rintro w' ⟨s0, s1, s2⟩
   refine exec_load_row _ (.tmp 44) ?_ g ?_ 78 row (0, 0) _ s0 Try.underlying78 rfl (info42 hsz)
   · rfl
   · rfl
 rotate_left
 · simp only [Act.put, p1', p2', p3', i64_w, i32_w]
   rfl
 refine t' 8 51 (B' 15 1023) ?_ rfl rfl (by kernel_rfl) (fun _ _ _ h => h) (.inl ⟨by rfl, ?_⟩) hHeld ?_ ?_ ?_; rotate_left; (rintro w' ⟨s0, s1, s2⟩; go_simp; with_reducible rfl); rotate_left; (simp only [Act.put, p1', p2', p3', i64_w, i32_w]; rfl)
 refine u' 10 53 (B' 15 2047) ?_ rfl rfl (by kernel_rfl) (fun _ _ _ h => h) (.inl ⟨by rfl, ?_⟩) ?_ ?_ ?_; rotate_left; (intro w'; go_simp; with_reducible rfl); rotate_left; (simp only [Act.put, p1', p2', p3', i64_w, i32_w]; rfl)
 refine t' 11 54 (B' 15 4095) ?_ rfl rfl (by kernel_rfl) (fun _ _ _ h => h) (.inl ⟨by rfl, ?_⟩) hHeld ?_ ?_ ?_; rotate_left; (rintro w' ⟨s0, s1, s2⟩; go_simp; with_reducible rfl); rotate_left; (simp only [Act.put, p1', p2', p3', i64_w, i32_w]; rfl)
 refine one_ (i := 12) (N := some 8) (B' 15 8191) rfl rfl (by kernel_rfl) (by decide) (fun K hK => ?_)
 refine value_ (w1 := ?_) (v := ?_) (by rfl) rfl ?_ ?_
 rotate_left 2
 · go_simp
   constructor
   · rfl
   · rfl
 refine hK.out _ _ ⟨blk_alloc p0 _, pw_cell_below (below_alloc (Below.refl _ _) _) p1, pw_cell_below (below_alloc (Below.refl _ _) _) p2⟩ (fun hHeld => ?_)
 clear hK K
 refine norm_ (a' := ?_) ?_ ?_; rotate_left; (show Act.put _ (some 8) _ = _; simp only [Act.put, p1', p2', p3', i64_w, i32_w]; rfl)
 refine one_ (i := 13) (N := none) (B' 15 16383) rfl rfl (by kernel_rfl) (by decide) (fun K hK => ?_)
 refine skip_ (w1 := ?_) (by rfl) rfl ?_ ?_
 rotate_left
 · refine exec_store_row _ (.tmp 8) (.tmp 45) ?_ wd.heap.size row ?_ ?_ 78 _ (heap_new wd _) (info42 hsz) ?_ hone
   · rfl
   · rfl
   · rfl
   · exact hsz.symm
 refine hK.out _ _ ⟨blk_below p0 (below_setRow (below_alloc (Below.refl _ _) _) (Nat.le_refl _) _), pw_cell_below (below_setRow (below_alloc (Below.refl _ _) _) (Nat.le_refl _) _) p1, pw_cell_below (below_setRow (below_alloc (Below.refl _ _) _) (Nat.le_refl _) _) p2⟩ (fun hHeld => ?_)
 clear hK K
 refine u' 14 9 (B' 15 32767) ?_ rfl rfl (by kernel_rfl) (fun _ _ _ h => h) (.inl ⟨by rfl, ?_⟩) ?_ ?_ ?_; rotate_left; (intro w'; go_simp; with_reducible rfl); rotate_left; (simp only [Act.put, p1', p2', p3', i64_w, i32_w]; rfl)
 refine done_ (by kernel_rfl) ?_
 rw [← z42_def]
 obtain ⟨q, hq⟩ : ∃ q, wd.heap.size = q := ⟨_, rfl⟩
 have HQ0 := A' (setRow_heap (wd.alloc (.cells z42 78)) wd.heap.size z42 row 78 (0, 0) (heap_new wd _))
 have HB0 := A' (below_setRow (below_alloc (Below.refl wd.heap.size wd) (.cells z42 78)) (Nat.le_refl _) row)
 generalize hW5 : (wd.alloc (.cells z42 78)).setRow wd.heap.size row = w5 at HQ0 HB0 ⊢
 rw [hq] at HQ0 ⊢
 have HE5 := A' (HE3.out.below HB0.out)
 have HK5 := A' (HK3.out.below HB0.out)
 have HQS := A' (show ¬ S q from fun hk => by have h1 := HSB.out q hk; have h2 := HK3.out.size; omega)
 clear hW5 hq HB0 HE3 HK3 p0 p1 p2
 have HT := A' (take_calls w5 g kind st.length c low high i (rd st i) mid 0 ⟨b, 0, none⟩ HE5.out.iv)
 go_wp2_with (go_at_call 32; obtain ⟨b3, hA3, hc3, hf3, hne3⟩ := HE5.out.cell hi; cases hA3; refine (HT.out (by rw [add_plain]; exact hc3) (by rw [add_plain]; exact hf3) hne3 hi hn hs (by decide) hm0 hm1).mono ?_; rintro e w4 ⟨rfl, w4', hb4, hw4⟩; rw [add_plain] at hw4; have HE4 := A' (show DecRow w4 S g kind (some ⟨b, 0, none⟩) c (st.set i (after kind (rd st i) 0)) (cutL low mid 0) (cutH high mid 0) (.slice Ac code.length cc) code a value false from hw4 ▸ (((HE5.out.cut 0 mid).below (by rw [cutW_size]; exact hb4)).setst hi _)); have hsb : S b := HE5.out.s.1 b (by simp [Value.ownBlock]); have HK4 := A' (show Mods w5 w4 S from hw4 ▸ ((((Mods.refl w5 S).then_ (cut_kept 0 mid HE5.out.g) (fun _ h => .inl h)).below (by rw [cutW_size]; exact hb4)).setCell (.inl hsb) _)); clear hb4 hw4 hc3 hf3 hne3)
 clear HT HE5
 obtain ⟨st', hst'⟩ : ∃ st' : List Int, st.set i (after kind (rd st i) 0) = st' := ⟨_, rfl⟩
 have HST := A' hst'
 have HSL := A' (show st'.length = st.length by rw [← hst']; exact List.length_set)
 rw [hst'] at HE4
 clear hst'
 go_loopg [] 4 (fun d wr => ∃ (l h : Int) (n : List Int), Aside0 (DecRow wr S g kind (some ⟨b, 0, none⟩) c st' l h (.slice Ac code.length cc) code (a + n.length) (shV code n.length value a) false) ∧ Aside0 (Mods w5 wr S) ∧ Aside0 (PutInv [] (cutL low mid 0) (cutH high mid 0) d l h n))
 case atStart => exact ⟨_, _, [], HE4, HK4, HI⟩
 clear HE4 HK4 HI
 case round =>
  obtain ⟨l, h, n, HE6, HK6, HP⟩ := hrel
  have hp0 := HP.out.l0
  have hp1 := HP.out.lh
  have hp2 := HP.out.h0
  have hp3 := HP.out.len
  rw [List.length_nil] at hp3
  have hs6 := same_calls wr g l h HE6.out.iv.l HE6.out.iv.h hp0 (by omega)
  by_cases cx : l / 16777216 = h / 16777216
  · rw [decide_eq_true cx] at hs6
    have HSA := A' hs6
    clear hs6
    obtain ⟨d', hd', hP'⟩ := HP.out.step cx
    have HP' := A' hP'
    have HD := A' hd'
    have hv := shV_range HBY.out n.length value a hv0 hv1
    have HV := A' hv
    have hap : a + n.length ≤ 2199023255552 := by omega
    clear hd' hP' cx hv
    go_wp2_with (first
     | (go_at_call 34; refine HSA.out.mono ?_; rintro e w6 ⟨rfl, m6, hw6⟩; have HE7 := A' (show DecRow w6 S g kind (some ⟨b, 0, none⟩) c st' l h (.slice Ac code.length cc) code (a + n.length) (shV code n.length value a) false from hw6 ▸ HE6.out.drewN m6); have HK7 := A' (show Mods w5 w6 S from hw6 ▸ HK6.out.drewN m6); clear hw6; have HLO := A' (lose_calls w6 g l h HE7.out.iv.l HE7.out.iv.h HE7.out.iv.f hp0 (by omega) (by omega) hp2))
     | (go_at_call 35; refine HLO.out.mono ?_; rintro e w7 ⟨rfl, hw7⟩; have HE8 := A' (show DecRow w7 S g kind (some ⟨b, 0, none⟩) c st' (l % 16777216 * 256) (h % 16777216 * 256 + 255) (.slice Ac code.length cc) code (a + n.length) (shV code n.length value a) false from hw7 ▸ HE7.out.lost _ _); have HK8 := A' (show Mods w5 w7 S from hw7 ▸ ((HK7.out.setCell (.inl hSg) _).setCell (.inl hSg) _)); clear hw7)
     | (go_at_call 28; refine (shift_row _ S g kind _ c st' _ _ _ code _ _ false HE8.out HV.out.1 HV.out.2 HBY.out hlen hap).mono ?_; rintro e w8 ⟨rfl, hE9, hK9⟩; have HE9 := A' hE9; have HK9 := A' (HK8.out.then_ hK9 (fun _ h => .inl h)); clear hE9 hK9))
    go_roundg d'
    case measure => have := HD.out; omega
    case rel =>
     refine ⟨_, _, _, ⟨?_⟩, HK9, HP'⟩
     have h9 := HE9.out
     rw [← shV_succ] at h9
     rw [List.length_append, List.length_cons, List.length_nil, Nat.zero_add]
     exact h9
  · rw [decide_eq_false cx] at hs6
    have HSA := A' hs6
    clear hs6
    have HCC := A' (HP.out.done cx)
    clear cx
    obtain ⟨be, hbe⟩ : ∃ be : Nat, a + n.length - code.length = be := ⟨_, rfl⟩
    have HBE := A' hbe
    clear hbe
    have HN := A' (show normE 4 (cutL low mid 0) (cutH high mid 0) = (n, l, h) from by
     have h1 := HCC.out
     rw [List.nil_append] at h1
     exact Prod.ext h1.1.symm h1.2)
    by_cases hb4 : (be : Int) > 4
    · have HB4 := A' hb4
      go_wp2_with (first
       | (go_at_call 34; refine HSA.out.mono ?_; rintro e w6 ⟨rfl, m6, hw6⟩; have HE7 := A' (show DecRow w6 S g kind (some ⟨b, 0, none⟩) c st' l h (.slice Ac code.length cc) code (a + n.length) (shV code n.length value a) false from hw6 ▸ HE6.out.drewN m6); have HK7 := A' (show Mods w5 w6 S from hw6 ▸ HK6.out.drewN m6); clear hw6; have k39 := HE7.out.c39; rw [HBE.out] at k39; have HQ7 := A' (blk_mods HQ0.out HK7.out HQS.out))
       | (with_reducible refine wpList_load_row rfl _ _ rfl _ rfl _ _ _ _ HQ7.out Try.underlying78 rfl (info42 hsz) ?_)
       | (with_reducible refine wpList_store_row rfl _ _ _ rfl _ row rfl rfl _ _ HE7.out.b (info42 hsz) ((dec42_size _ _ _ _ _ _ _ _ _ _).trans hsz.symm) hone ?_; have HE8 := A' (show DecRow (w6.setRow g row) S g kind (some ⟨b, 0, none⟩) c st' low high (.slice Ac code.length cc) code a value false from HROW.out ▸ dec_setRow (st' := st) HE7.out HSL.out.symm kind low high a value false); have HK8 := A' (mods_setRow HK7.out hSg row); generalize w6.setRow g row = w8 at HE8 HK8 ⊢; have q1 := HE8.out.iv.s; rw [HSL.out] at q1; obtain ⟨b8, hA8, q2, q3, q4⟩ := HE8.out.cell (i := i) (by rw [HSL.out]; exact hi); cases hA8; have q5 := HE8.out.fz 40; have q6 := HE8.out.c40))
      go_ret2
      refine ⟨⟨l, h, n, HN.out, .inl ⟨by rw [HBE.out]; have := HB4.out; omega, rfl, ?_⟩⟩, (HK5.out.then_ HK8.out (fun _ h => .inl h)).setCell (.inl (HE8.out.s.1 b (by simp [Value.ownBlock]))) _ |>.setCell (.inl hSg) _⟩
      have h9 := HE8.out.setst (i := i) (by rw [HSL.out]; exact hi) (rd st i)
      rw [← HST.out, set_back _ hi] at h9
      exact h9.put 40 (.bool true) rfl
    · have HB4 := A' hb4
      go_wp2_with (go_at_call 34; refine HSA.out.mono ?_; rintro e w6 ⟨rfl, m6, hw6⟩; have HE7 := A' (show DecRow w6 S g kind (some ⟨b, 0, none⟩) c st' l h (.slice Ac code.length cc) code (a + n.length) (shV code n.length value a) false from hw6 ▸ HE6.out.drewN m6); have HK7 := A' (show Mods w5 w6 S from hw6 ▸ HK6.out.drewN m6); clear hw6; have k39 := HE7.out.c39; rw [HBE.out] at k39)
      go_ret2
      refine ⟨⟨l, h, n, HN.out, .inr ⟨by rw [HBE.out]; have := HB4.out; omega, rfl, ?_⟩⟩, HK5.out.then_ HK7.out (fun _ h => .inl h)⟩
      rw [HST.out]
      exact HE7.out
set_option maxHeartbeats 4000000 in
set_option maxRecDepth 100000 in
theorem get_row1 (w : World) (S : Nat → Prop) (g : Nat) (kind : Int) (b c : Nat) (st : List Int) (low high mid : Int) (vc : Value) (code : List Int) (a : Nat) (value : Int) (i : Nat) (hE : DecRow w S g kind (some ⟨b, 0, none⟩) c st low high vc code a value false) (hSb : ∀ k, S k → k < w.heap.size) (hi : i < st.length) (hn : st.length ≤ 8192) (hs : okState kind (rd st i)) (hl0 : 0 ≤ low) (hlh : low ≤ high) (hh : high ≤ 4294967295) (hmid : midOf low high (likely kind (rd st i)) = mid) (hm0 : 0 ≤ mid) (hm1 : mid ≤ 4294967295) (hI0 : PutInv [] (cutL low mid 1) (cutH high mid 1) 4 (cutL low mid 1) (cutH high mid 1) []) (hv0 : 0 ≤ value) (hv1 : value ≤ 4294967295) (hby : Bytes code) (hlen : code.length ≤ 1099511627776) (ha : a - code.length ≤ 4) (hvb : value ≤ mid) :
 Calls Try.prog 29 #[.pointer (some ⟨g, 0, none⟩), .int .i64 i] w (GetPost w S g kind b c st low high mid vc code a value i 1) := by
 have HE := A' hE
 have hSg : S g := hE.g
 obtain ⟨Ac, cc, hvc⟩ := Kd.R_slice hE.o
 subst hvc
 have h2 := hE.c41
 have k40 := hE.c40
 have k1 := hE.iv.s
 have HMID := A' (hmid ▸ mid_calls w g kind (some ⟨b, 0, none⟩) st.length c low high i (rd st i) hE.iv ⟨_, rfl, by obtain ⟨b', hA, hc, _⟩ := hE.cell hi; cases hA; rw [add_plain]; exact hc⟩ hi hn hs hl0 hlh hh)
 have HI := A' hI0
 have HBY := A' hby
 have HSB := A' hSb
 clear hE hmid hI0 hby hSb
 have hi1 : (0 : Int) ≤ (i : Int) := by omega
 have hi2 : (i : Int) < (st.length : Int) := by omega
 go_enter Try.func29, Try.ntmps29
 go_wp2_with (first
  | (go_at_call 38; refine (dec_none _ _ _ h2).mono ?_; rintro e w' ⟨rfl, rfl⟩)
  | (go_at_call 33; refine HMID.out.mono ?_; rintro e w3 ⟨rfl, hb3⟩; have HE3 := A' (HE.out.below hb3); have HK3 := A' ((Mods.refl w S).below hb3); clear hb3; have k38 := HE3.out.c38))
 clear h2 k40 k1 k38
 obtain ⟨row, hrow⟩ : ∃ row, (dec42 kind (.slice (some ⟨b, 0, none⟩) st.length c) low high (.slice Ac code.length cc) a value ((a - code.length : Nat) : Int) false true) = row := ⟨_, rfl⟩
 have hsz : row.size = 42 := by rw [← hrow]; rfl
 have hone : row.all (·.oneCell') = true := by rw [← hrow]; exact one42 _ _ _ _ _ _ _ _ _ _ _ _ _ _
 have p0 : w3.drew.heap[g]? = some (.cells row 78 (0, 0)) := by rw [← hrow]; exact HE3.out.b
 have p1 := HE3.out.drew.iv.s
 have p2 : w3.drew.cell? ⟨b, i, none⟩ = some (.int .i64 (rd st i)) := by
  obtain ⟨b3, hA3, hc3, _⟩ := HE3.out.cell hi
  cases hA3
  exact hc3
 have HROW := A' hrow
 have HE3 := A' HE3.out.drew
 have HK3 := A' HK3.out.drew
 clear hrow
 refine start_ (n := 15) (S := fun w' => w'.heap[g]? = some (.cells row 78 (0, 0)) ∧ w'.cell? ⟨g, 1, none⟩ = some (.slice (some ⟨b, 0, none⟩) st.length c) ∧ w'.cell? ⟨b, i, none⟩ = some (.int .i64 (rd st i))) (ds := []) #[false, false, false, false, false, false, false, false, false, false, false, false, false, false, false] (by kernel_rfl) rfl rfl ⟨p0, p1, p2⟩ (fun hHeld => ?_)
 generalize w3.drew = wd at p0 p1 p2 HE3 HK3 hHeld ⊢
 refine u' 0 43 (B' 15 1) ?_ rfl rfl (by kernel_rfl) (fun _ _ _ h => h) (.inl ⟨by rfl, ?_⟩) ?_ ?_ ?_; rotate_left; (intro w'; go_simp; with_reducible rfl); rotate_left; (simp only [Act.put, p1', p2', p3', i64_w, i32_w]; rfl)
 refine u' 1 44 (B' 15 3) ?_ rfl rfl (by kernel_rfl) (fun _ _ _ h => h) (.inl ⟨by rfl, ?_⟩) ?_ ?_ ?_; rotate_left; (intro w'; go_simp; with_reducible rfl); rotate_left; (simp only [Act.put, p1', p2', p3', i64_w, i32_w]; rfl)
 refine u' 3 46 (B' 15 11) ?_ rfl rfl (by kernel_rfl) (fun _ _ _ h => h) (.inl ⟨by rfl, ?_⟩) ?_ ?_ ?_; rotate_left; (intro w'; go_simp; with_reducible rfl); rotate_left; (simp only [Act.put, p1', p2', p3', i64_w, i32_w]; rfl)
 refine u' 4 47 (B' 15 27) ?_ rfl rfl (by kernel_rfl) (fun _ _ _ h => h) (.inl ⟨by rfl, ?_⟩) ?_ ?_ ?_; rotate_left; (intro w'; go_simp; with_reducible rfl); rotate_left; (simp only [Act.put, p1', p2', p3', i64_w, i32_w]; rfl)
 refine u' 5 48 (B' 15 59) ?_ rfl rfl (by kernel_rfl) (fun _ _ _ h => h) (.inl ⟨by rfl, ?_⟩) ?_ ?_ ?_; rotate_left; (intro w'; go_simp; with_reducible rfl); rotate_left; (simp only [Act.put, p1', p2', p3', i64_w, i32_w]; rfl)
 refine u' 6 49 (B' 15 123) ?_ rfl rfl (by kernel_rfl) (fun _ _ _ h => h) (.inl ⟨by rfl, ?_⟩) ?_ ?_ ?_; rotate_left; (intro w'; go_simp; with_reducible rfl); rotate_left; (simp only [Act.put, p1', p2', p3', i64_w, i32_w]; rfl)
 refine u' 7 50 (B' 15 251) ?_ rfl rfl (by kernel_rfl) (fun _ _ _ h => h) (.inl ⟨by rfl, ?_⟩) ?_ ?_ ?_; rotate_left; (intro w'; go_simp; with_reducible rfl); rotate_left; (simp only [Act.put, p1', p2', p3', i64_w, i32_w]; rfl)
 refine u' 9 52 (B' 15 763) ?_ rfl rfl (by kernel_rfl) (fun _ _ _ h => h) (.inl ⟨by rfl, ?_⟩) ?_ ?_ ?_; rotate_left; (intro w'; go_simp; with_reducible rfl); rotate_left; (simp only [Act.put, p1', p2', p3', i64_w, i32_w]; rfl)
 refine take_ (i := 2) (N := some 45) (v := ?_) (a' := ?_) (B' 15 767) rfl rfl (by kernel_rfl) (fun _ _ _ h => h) (Or.inl ⟨by rfl, ?_⟩) hHeld ?_ ?_
 rotate_left
 · rintro w' ⟨s0, s1, s2⟩
   refine exec_load_row _ (.tmp 44) ?_ g ?_ 78 row (0, 0) _ s0 Try.underlying78 rfl (info42 hsz)
   · rfl
   · rfl
 rotate_left
 · simp only [Act.put, p1', p2', p3', i64_w, i32_w]
   rfl
 refine t' 8 51 (B' 15 1023) ?_ rfl rfl (by kernel_rfl) (fun _ _ _ h => h) (.inl ⟨by rfl, ?_⟩) hHeld ?_ ?_ ?_; rotate_left; (rintro w' ⟨s0, s1, s2⟩; go_simp; with_reducible rfl); rotate_left; (simp only [Act.put, p1', p2', p3', i64_w, i32_w]; rfl)
 refine u' 10 53 (B' 15 2047) ?_ rfl rfl (by kernel_rfl) (fun _ _ _ h => h) (.inl ⟨by rfl, ?_⟩) ?_ ?_ ?_; rotate_left; (intro w'; go_simp; with_reducible rfl); rotate_left; (simp only [Act.put, p1', p2', p3', i64_w, i32_w]; rfl)
 refine t' 11 54 (B' 15 4095) ?_ rfl rfl (by kernel_rfl) (fun _ _ _ h => h) (.inl ⟨by rfl, ?_⟩) hHeld ?_ ?_ ?_; rotate_left; (rintro w' ⟨s0, s1, s2⟩; go_simp; with_reducible rfl); rotate_left; (simp only [Act.put, p1', p2', p3', i64_w, i32_w]; rfl)
 refine one_ (i := 12) (N := some 8) (B' 15 8191) rfl rfl (by kernel_rfl) (by decide) (fun K hK => ?_)
 refine value_ (w1 := ?_) (v := ?_) (by rfl) rfl ?_ ?_
 rotate_left 2
 · go_simp
   constructor
   · rfl
   · rfl
 refine hK.out _ _ ⟨blk_alloc p0 _, pw_cell_below (below_alloc (Below.refl _ _) _) p1, pw_cell_below (below_alloc (Below.refl _ _) _) p2⟩ (fun hHeld => ?_)
 clear hK K
 refine norm_ (a' := ?_) ?_ ?_; rotate_left; (show Act.put _ (some 8) _ = _; simp only [Act.put, p1', p2', p3', i64_w, i32_w]; rfl)
 refine one_ (i := 13) (N := none) (B' 15 16383) rfl rfl (by kernel_rfl) (by decide) (fun K hK => ?_)
 refine skip_ (w1 := ?_) (by rfl) rfl ?_ ?_
 rotate_left
 · refine exec_store_row _ (.tmp 8) (.tmp 45) ?_ wd.heap.size row ?_ ?_ 78 _ (heap_new wd _) (info42 hsz) ?_ hone
   · rfl
   · rfl
   · rfl
   · exact hsz.symm
 refine hK.out _ _ ⟨blk_below p0 (below_setRow (below_alloc (Below.refl _ _) _) (Nat.le_refl _) _), pw_cell_below (below_setRow (below_alloc (Below.refl _ _) _) (Nat.le_refl _) _) p1, pw_cell_below (below_setRow (below_alloc (Below.refl _ _) _) (Nat.le_refl _) _) p2⟩ (fun hHeld => ?_)
 clear hK K
 refine u' 14 9 (B' 15 32767) ?_ rfl rfl (by kernel_rfl) (fun _ _ _ h => h) (.inl ⟨by rfl, ?_⟩) ?_ ?_ ?_; rotate_left; (intro w'; go_simp; with_reducible rfl); rotate_left; (simp only [Act.put, p1', p2', p3', i64_w, i32_w]; rfl)
 refine done_ (by kernel_rfl) ?_
 rw [← z42_def]
 obtain ⟨q, hq⟩ : ∃ q, wd.heap.size = q := ⟨_, rfl⟩
 have HQ0 := A' (setRow_heap (wd.alloc (.cells z42 78)) wd.heap.size z42 row 78 (0, 0) (heap_new wd _))
 have HB0 := A' (below_setRow (below_alloc (Below.refl wd.heap.size wd) (.cells z42 78)) (Nat.le_refl _) row)
 generalize hW5 : (wd.alloc (.cells z42 78)).setRow wd.heap.size row = w5 at HQ0 HB0 ⊢
 rw [hq] at HQ0 ⊢
 have HE5 := A' (HE3.out.below HB0.out)
 have HK5 := A' (HK3.out.below HB0.out)
 have HQS := A' (show ¬ S q from fun hk => by have h1 := HSB.out q hk; have h2 := HK3.out.size; omega)
 clear hW5 hq HB0 HE3 HK3 p0 p1 p2
 have HT := A' (take_calls w5 g kind st.length c low high i (rd st i) mid 1 ⟨b, 0, none⟩ HE5.out.iv)
 go_wp2_with (go_at_call 32; obtain ⟨b3, hA3, hc3, hf3, hne3⟩ := HE5.out.cell hi; cases hA3; refine (HT.out (by rw [add_plain]; exact hc3) (by rw [add_plain]; exact hf3) hne3 hi hn hs (by decide) hm0 hm1).mono ?_; rintro e w4 ⟨rfl, w4', hb4, hw4⟩; rw [add_plain] at hw4; have HE4 := A' (show DecRow w4 S g kind (some ⟨b, 0, none⟩) c (st.set i (after kind (rd st i) 1)) (cutL low mid 1) (cutH high mid 1) (.slice Ac code.length cc) code a value false from hw4 ▸ (((HE5.out.cut 1 mid).below (by rw [cutW_size]; exact hb4)).setst hi _)); have hsb : S b := HE5.out.s.1 b (by simp [Value.ownBlock]); have HK4 := A' (show Mods w5 w4 S from hw4 ▸ ((((Mods.refl w5 S).then_ (cut_kept 1 mid HE5.out.g) (fun _ h => .inl h)).below (by rw [cutW_size]; exact hb4)).setCell (.inl hsb) _)); clear hb4 hw4 hc3 hf3 hne3)
 clear HT HE5
 obtain ⟨st', hst'⟩ : ∃ st' : List Int, st.set i (after kind (rd st i) 1) = st' := ⟨_, rfl⟩
 have HST := A' hst'
 have HSL := A' (show st'.length = st.length by rw [← hst']; exact List.length_set)
 rw [hst'] at HE4
 clear hst'
 go_loopg [] 4 (fun d wr => ∃ (l h : Int) (n : List Int), Aside0 (DecRow wr S g kind (some ⟨b, 0, none⟩) c st' l h (.slice Ac code.length cc) code (a + n.length) (shV code n.length value a) false) ∧ Aside0 (Mods w5 wr S) ∧ Aside0 (PutInv [] (cutL low mid 1) (cutH high mid 1) d l h n))
 case atStart => exact ⟨_, _, [], HE4, HK4, HI⟩
 clear HE4 HK4 HI
 case round =>
  obtain ⟨l, h, n, HE6, HK6, HP⟩ := hrel
  have hp0 := HP.out.l0
  have hp1 := HP.out.lh
  have hp2 := HP.out.h0
  have hp3 := HP.out.len
  rw [List.length_nil] at hp3
  have hs6 := same_calls wr g l h HE6.out.iv.l HE6.out.iv.h hp0 (by omega)
  by_cases cx : l / 16777216 = h / 16777216
  · rw [decide_eq_true cx] at hs6
    have HSA := A' hs6
    clear hs6
    obtain ⟨d', hd', hP'⟩ := HP.out.step cx
    have HP' := A' hP'
    have HD := A' hd'
    have hv := shV_range HBY.out n.length value a hv0 hv1
    have HV := A' hv
    have hap : a + n.length ≤ 2199023255552 := by omega
    clear hd' hP' cx hv
    go_wp2_with (first
     | (go_at_call 34; refine HSA.out.mono ?_; rintro e w6 ⟨rfl, m6, hw6⟩; have HE7 := A' (show DecRow w6 S g kind (some ⟨b, 0, none⟩) c st' l h (.slice Ac code.length cc) code (a + n.length) (shV code n.length value a) false from hw6 ▸ HE6.out.drewN m6); have HK7 := A' (show Mods w5 w6 S from hw6 ▸ HK6.out.drewN m6); clear hw6; have HLO := A' (lose_calls w6 g l h HE7.out.iv.l HE7.out.iv.h HE7.out.iv.f hp0 (by omega) (by omega) hp2))
     | (go_at_call 35; refine HLO.out.mono ?_; rintro e w7 ⟨rfl, hw7⟩; have HE8 := A' (show DecRow w7 S g kind (some ⟨b, 0, none⟩) c st' (l % 16777216 * 256) (h % 16777216 * 256 + 255) (.slice Ac code.length cc) code (a + n.length) (shV code n.length value a) false from hw7 ▸ HE7.out.lost _ _); have HK8 := A' (show Mods w5 w7 S from hw7 ▸ ((HK7.out.setCell (.inl hSg) _).setCell (.inl hSg) _)); clear hw7)
     | (go_at_call 28; refine (shift_row _ S g kind _ c st' _ _ _ code _ _ false HE8.out HV.out.1 HV.out.2 HBY.out hlen hap).mono ?_; rintro e w8 ⟨rfl, hE9, hK9⟩; have HE9 := A' hE9; have HK9 := A' (HK8.out.then_ hK9 (fun _ h => .inl h)); clear hE9 hK9))
    go_roundg d'
    case measure => have := HD.out; omega
    case rel =>
     refine ⟨_, _, _, ⟨?_⟩, HK9, HP'⟩
     have h9 := HE9.out
     rw [← shV_succ] at h9
     rw [List.length_append, List.length_cons, List.length_nil, Nat.zero_add]
     exact h9
  · rw [decide_eq_false cx] at hs6
    have HSA := A' hs6
    clear hs6
    have HCC := A' (HP.out.done cx)
    clear cx
    obtain ⟨be, hbe⟩ : ∃ be : Nat, a + n.length - code.length = be := ⟨_, rfl⟩
    have HBE := A' hbe
    clear hbe
    have HN := A' (show normE 4 (cutL low mid 1) (cutH high mid 1) = (n, l, h) from by
     have h1 := HCC.out
     rw [List.nil_append] at h1
     exact Prod.ext h1.1.symm h1.2)
    by_cases hb4 : (be : Int) > 4
    · have HB4 := A' hb4
      go_wp2_with (first
       | (go_at_call 34; refine HSA.out.mono ?_; rintro e w6 ⟨rfl, m6, hw6⟩; have HE7 := A' (show DecRow w6 S g kind (some ⟨b, 0, none⟩) c st' l h (.slice Ac code.length cc) code (a + n.length) (shV code n.length value a) false from hw6 ▸ HE6.out.drewN m6); have HK7 := A' (show Mods w5 w6 S from hw6 ▸ HK6.out.drewN m6); clear hw6; have k39 := HE7.out.c39; rw [HBE.out] at k39; have HQ7 := A' (blk_mods HQ0.out HK7.out HQS.out))
       | (with_reducible refine wpList_load_row rfl _ _ rfl _ rfl _ _ _ _ HQ7.out Try.underlying78 rfl (info42 hsz) ?_)
       | (with_reducible refine wpList_store_row rfl _ _ _ rfl _ row rfl rfl _ _ HE7.out.b (info42 hsz) ((dec42_size _ _ _ _ _ _ _ _ _ _).trans hsz.symm) hone ?_; have HE8 := A' (show DecRow (w6.setRow g row) S g kind (some ⟨b, 0, none⟩) c st' low high (.slice Ac code.length cc) code a value false from HROW.out ▸ dec_setRow (st' := st) HE7.out HSL.out.symm kind low high a value false); have HK8 := A' (mods_setRow HK7.out hSg row); generalize w6.setRow g row = w8 at HE8 HK8 ⊢; have q1 := HE8.out.iv.s; rw [HSL.out] at q1; obtain ⟨b8, hA8, q2, q3, q4⟩ := HE8.out.cell (i := i) (by rw [HSL.out]; exact hi); cases hA8; have q5 := HE8.out.fz 40; have q6 := HE8.out.c40))
      go_ret2
      refine ⟨⟨l, h, n, HN.out, .inl ⟨by rw [HBE.out]; have := HB4.out; omega, rfl, ?_⟩⟩, (HK5.out.then_ HK8.out (fun _ h => .inl h)).setCell (.inl (HE8.out.s.1 b (by simp [Value.ownBlock]))) _ |>.setCell (.inl hSg) _⟩
      have h9 := HE8.out.setst (i := i) (by rw [HSL.out]; exact hi) (rd st i)
      rw [← HST.out, set_back _ hi] at h9
      exact h9.put 40 (.bool true) rfl
    · have HB4 := A' hb4
      go_wp2_with (go_at_call 34; refine HSA.out.mono ?_; rintro e w6 ⟨rfl, m6, hw6⟩; have HE7 := A' (show DecRow w6 S g kind (some ⟨b, 0, none⟩) c st' l h (.slice Ac code.length cc) code (a + n.length) (shV code n.length value a) false from hw6 ▸ HE6.out.drewN m6); have HK7 := A' (show Mods w5 w6 S from hw6 ▸ HK6.out.drewN m6); clear hw6; have k39 := HE7.out.c39; rw [HBE.out] at k39)
      go_ret2
      refine ⟨⟨l, h, n, HN.out, .inr ⟨by rw [HBE.out]; have := HB4.out; omega, rfl, ?_⟩⟩, HK5.out.then_ HK7.out (fun _ h => .inl h)⟩
      rw [HST.out]
      exact HE7.out
/-- A decoder in memory. -/
def DecAt (W : World) (S : Nat → Prop) (g : Nat) (s : DS) : Prop := ∃ A c vc, DecRow W S g s.kind A c s.st s.low s.high vc s.code s.a s.value s.ended
theorem DecAt.kept {W W' : World} {S S' : Nat → Prop} {g : Nat} {s : DS} (h : DecAt W S g s) (hk : Mods W W' S') (hne : ∀ k, S k → ¬ S' k) : DecAt W' S g s := by
 obtain ⟨A, c, vo, h⟩ := h
 exact ⟨A, c, vo, h.kept hk hne⟩
theorem DecAt.below {W W' : World} {S : Nat → Prop} {g : Nat} {s : DS} (h : DecAt W S g s) (hb : Below W.heap.size W W') : DecAt W' S g s := by
 obtain ⟨A, c, vo, h⟩ := h
 exact ⟨A, c, vo, h.below hb⟩
theorem DecAt.mono {W : World} {S S' : Nat → Prop} {g : Nat} {s : DS} (h : DecAt W S g s) (hs : ∀ k, S k → S' k) : DecAt W S' g s := by
 obtain ⟨A, c, vo, h⟩ := h
 exact ⟨A, c, vo, h.mono hs⟩
theorem get_end (w : World) (g : Nat) (i : Nat) (n : Nat) (A : Option Addr) (c : Nat) (hi : i < n) (h1 : w.cell? ⟨g, 1, none⟩ = some (.slice A n c)) (h2 : w.cell? ⟨g, 41, none⟩ = some (.bool true)) (h3 : w.cell? ⟨g, 40, none⟩ = some (.bool true)) :
 Calls Try.prog 29 #[.pointer (some ⟨g, 0, none⟩), .int .i64 i] w fun e w' => e = .returned (.tuple #[.int .i64 0, .int .i64 6]) ∧ w = w' := by
 have hi1 : (0 : Int) ≤ (i : Int) := by omega
 have hi2 : (i : Int) < (n : Int) := by omega
 go_enter Try.func29, Try.ntmps29
 go_wp2_with (go_at_call 38; refine (dec_none _ _ _ h2).mono ?_; rintro e w' ⟨rfl, rfl⟩)
 go_ret2
 exact ⟨rfl, rfl⟩
theorem get_bad (w : World) (g : Nat) (i : Int) (n : Nat) (A : Option Addr) (c : Nat) (hi : ¬ (0 ≤ i ∧ i < n)) (h1 : w.cell? ⟨g, 1, none⟩ = some (.slice A n c)) (h2 : w.cell? ⟨g, 41, none⟩ = some (.bool true)) :
 Calls Try.prog 29 #[.pointer (some ⟨g, 0, none⟩), .int .i64 i] w fun e w' => e = .returned (.tuple #[.int .i64 0, .int .i64 2]) ∧ w = w' := by
 have hi' : i < 0 ∨ (i ≥ n ∧ ¬ i < 0) := by omega
 clear hi
 rcases hi' with h | ⟨h, h0⟩
 · go_enter Try.func29, Try.ntmps29
   go_wp2_with (go_at_call 38; refine (dec_none _ _ _ h2).mono ?_; rintro e w' ⟨rfl, rfl⟩)
   go_ret2
   exact ⟨rfl, rfl⟩
 · go_enter Try.func29, Try.ntmps29
   go_wp2_with (go_at_call 38; refine (dec_none _ _ _ h2).mono ?_; rintro e w' ⟨rfl, rfl⟩)
   go_ret2
   exact ⟨rfl, rfl⟩
theorem get_calls (w : World) (S : Nat → Prop) (g : Nat) (s : DS) (i : Int) (hE : DecAt w S g s) (hS : ∀ k, S k → k < w.heap.size) (hok : s.ok) :
 Calls Try.prog 29 #[.pointer (some ⟨g, 0, none⟩), .int .i64 i] w fun e w' => e = .returned (.tuple #[.int .i64 (s.getI i).2.1, .int .i64 (s.getI i).2.2]) ∧ DecAt w' S g (s.getI i).1 ∧ Mods w w' S := by
 obtain ⟨A, c, vo, hR⟩ := hE
 unfold DS.getI
 by_cases hi : 0 ≤ i ∧ i < s.st.length
 · rw [if_pos hi]
   obtain ⟨j, rfl⟩ : ∃ j : Nat, i = (j : Int) := ⟨i.toNat, by omega⟩
   rw [Int.toNat_natCast]
   have hj : j < s.st.length := by omega
   by_cases he : s.ended = true
   · rw [if_pos he]
     have h40 := hR.c40
     rw [he] at h40
     refine (get_end w g j s.st.length A c hj hR.iv.s hR.c41 h40).mono ?_
     rintro e w' ⟨rfl, rfl⟩
     exact ⟨rfl, ⟨A, c, vo, hR⟩, Mods.refl _ _⟩
   · rw [if_neg he]
     have hef : s.ended = false := by simpa using he
     obtain ⟨b, rfl, _⟩ := hR.cell hj
     have hm := DS.mid_ hok hj
     have hc := DS.cut_ hok hj
     have hl := hok.l
     have hh := hok.h
     have hI : PutInv [] (cutL s.low (s.mid j) (s.bit j)) (cutH s.high (s.mid j) (s.bit j)) 4 (cutL s.low (s.mid j) (s.bit j)) (cutH s.high (s.mid j) (s.bit j)) [] := ⟨hc.1, hc.2.1, hc.2.2, by rw [show (256 : Int) ^ 4 = 4294967296 from rfl]; omega, rfl, rfl, Nat.le_refl _⟩
     have key : Calls Try.prog 29 #[.pointer (some ⟨g, 0, none⟩), .int .i64 j] w (GetPost w S g s.kind b c s.st s.low s.high (s.mid j) vo s.code s.a s.value j (s.bit j)) := by
      rw [hef] at hR
      by_cases hv : s.value ≤ s.mid j
      · have hb : s.bit j = 1 := if_pos hv
        rw [hb] at hI ⊢
        exact get_row1 w S g s.kind b c s.st s.low s.high (s.mid j) vo s.code s.a s.value j hR hS hj hok.m.2.1 (DS.at_ hok hj) hl hok.lh hh rfl (by omega) (by omega) hI hok.v0 hok.v1 hok.by_ hok.len hok.be hv
      · have hb : s.bit j = 0 := if_neg hv
        rw [hb] at hI ⊢
        exact get_row0 w S g s.kind b c s.st s.low s.high (s.mid j) vo s.code s.a s.value j hR hS hj hok.m.2.1 (DS.at_ hok hj) hl hok.lh hh rfl (by omega) (by omega) hI hok.v0 hok.v1 hok.by_ hok.len hok.be hv
     refine key.mono ?_
     rintro e w' ⟨⟨l, h, n, hn, hq⟩, hk⟩
     have hn' : s.norm j = (n, l, h) := hn
     rw [hn']
     rcases hq with ⟨hb, rfl, hD⟩ | ⟨hb, rfl, hD⟩
     · rw [if_pos hb]
       exact ⟨rfl, ⟨_, c, vo, hD⟩, hk⟩
     · rw [if_neg hb]
       refine ⟨rfl, ⟨some ⟨b, 0, none⟩, c, vo, ?_⟩, hk⟩
       have e1 : s.next j = ⟨s.kind, s.st.set j (after s.kind (rd s.st j) (s.bit j)), l, h, s.code, s.a + n.length, shV s.code n.length s.value s.a, false⟩ := by
        unfold DS.next
        rw [hn']
       rw [e1]
       exact hD
 · rw [if_neg hi]
   refine (get_bad w g i s.st.length A c hi hR.iv.s hR.c41).mono ?_
   rintro e w' ⟨rfl, rfl⟩
   exact ⟨rfl, ⟨A, c, vo, hR⟩, Mods.refl _ _⟩
end Go.Proofs.Ytmndieohblpgaaa.Get
namespace Go.Proofs.Ytmndieohblpgaaa.DecNew
open Go Go.RowKit YtmndieohblpgaaaW PrintWords PrintLast PrintMore Aid HandAid Cod1 Cod2 Cod3 Ytmndieohblpgaaa.Mod Enc Mods EncAt Put End Snc Dec Get
/-- A fresh decoder. -/
def newDS (kind : Int) (st code : List Int) : DS := ⟨kind, st, 0, 4294967295, code, 4, shV code 4 0 0, false⟩
theorem newDS_ok {kind : Int} {st code : List Int} (h : okModel kind st) (hb : Bytes code) (hl : code.length ≤ 1099511627776) : (newDS kind st code).ok := by
 have hv := shV_range hb 4 0 0 (by omega) (by omega)
 exact ⟨h, show (0 : Int) ≤ 0 by decide, show (0 : Int) ≤ 4294967295 by decide, show (4294967295 : Int) ≤ 4294967295 by decide, show (0 : Int) / 16777216 ≠ 4294967295 / 16777216 by decide, hv.1, hv.2, hb, hl, show 4 - code.length ≤ 4 by omega⟩
theorem dec42_new (kind : Int) (v vc : Value) : dec42 kind v 0 4294967295 vc 0 0 0 false true = #[.int .i64 kind, v, .int .i64 2048, .int .i64 1792, .int .i64 1568, .int .i64 1372, .int .i64 1201, .int .i64 1051, .int .i64 920, .int .i64 805, .int .i64 705, .int .i64 617, .int .i64 540, .int .i64 473, .int .i64 414, .int .i64 363, .int .i64 318, .int .i64 279, .int .i64 245, .int .i64 215, .int .i64 189, .int .i64 166, .int .i64 146, .int .i64 128, .int .i64 112, .int .i64 98, .int .i64 86, .int .i64 76, .int .i64 67, .int .i64 59, .int .i64 52, .int .i64 46, .int .i64 41, .int .i64 36, .int .u64 0, .int .u64 4294967295, vc, .int .i64 0, .int .u64 0, .int .i64 0, .bool false, .bool true] := rfl
def NewDecPost (w : World) (kind : Int) (st code : List Int) (e : Ending) (w' : World) : Prop := ∃ g, e = .returned (.tuple #[.pointer (some ⟨g, 0, none⟩), .int .i64 0]) ∧ DecAt w' (Since w.heap.size w') g (newDS kind st code) ∧ Below w.heap.size w w'
set_option maxHeartbeats 4000000 in
set_option maxRecDepth 100000 in
theorem new_dec (A : Option Addr) (c : Nat) (kind : Int) (st : List Int) (Ac : Option Addr) (cc : Nat) (code : List Int) (w : World) (hC : Kd.C (Kd.int .i64) w A st.length st) (hc : st.length ≤ c) (hm : okModel kind st) (hCc : Kd.C (Kd.int .u8) w Ac code.length code) (hcc : code.length ≤ cc) (hby : Bytes code) (hlen : code.length ≤ 1099511627776) :
 Calls Try.prog 20 #[.agg #[.int .i64 kind, .slice A st.length c], .slice Ac code.length cc] w (NewDecPost w kind st code) := by
 have HC := A' hC
 have HCc := A' hCc
 have hv := valid_calls A c kind st
 rw [decide_eq_true hm] at hv
 have HV := A' hv
 have HM := A' hm
 have HBY := A' hby
 have hl := hm.2.1
 clear hC hv hm hCc hby
 have hb0 := A' (below_alloc (Below.refl w.heap.size w) (.cells #[.int .i64 kind, .slice A st.length c] 48))
 have hq0 : Aside0 ((w.alloc (.cells #[.int .i64 kind, .slice A st.length c] 48)).heap[w.heap.size]? = some (.cells #[.int .i64 kind, .slice A st.length c] 48 (0, 0))) := ⟨heap_new _ _⟩
 go_enter Try.func20, Try.ntmps20
 go_wp2_with (first
  | (go_at_call 22; refine (HV.out _ (Kd.C_below HC.out hb0.out) hc).mono ?_; rintro e w1 ⟨rfl, hB⟩; have HB := A' (below_then hb0.out hb0.out.size hB); have hq1 : Aside0 (w1.heap[w.heap.size]? = some (.cells #[.int .i64 kind, .slice A st.length c] 48 (0, 0))) := ⟨(hB.block _ (blk_lt hq0.out)).trans hq0.out⟩; have k0 : w1.cell? ⟨w.heap.size, 0, none⟩ = some (.int .i64 kind) := (blk_cell hq1.out 0).trans rfl; have k1 : w1.cell? ⟨w.heap.size, 1, none⟩ = some (.slice A st.length c) := (blk_cell hq1.out 1).trans rfl; clear hB)
  | (go_at_call 23; refine (begin_calls A c kind st _ (Kd.C_below HC.out HB.out) hc (by omega)).mono ?_; rintro e w2 ⟨A2, c2, rfl, hR, hB⟩; have HB2 := A' (below_then HB.out HB.out.size hB); have HR := A' (Kd.R_alloc (Kd.R_lower hR HB.out.size) (.cells #[] 5)); have HR1 : Aside0 (Kd.R (Kd.int .u8) 5 (w2.alloc (.cells #[] 5)) w.heap.size (fun _ => True) (.slice (some ⟨w2.heap.size, 0, none⟩) 0 0) []) := ⟨Kd.R_of_own (enc := Value.int .u8) (World.ownsRow_lit w2 #[] 0 HB2.out.size (by decide) rfl) (fun _ _ => trivial)⟩; have HB2' := A' (below_alloc HB2.out (.cells #[] 5)); have HCo := A' (Kd.C_below HCc.out HB2'.out); clear hR hB; unfold iv36)
  | (at_builtin; refine Kd.R_append_rows (Kd.int .u8) (w0 := w) w.heap.size (by rfl) (.tmp 12) (.tmp 13) 24 5 (.int .u8 0) 1 rfl Try.underlying24 infoU8 rfl (by decide) (by omega) (.slice (some ⟨w2.heap.size, 0, none⟩) 0 0) [] code _ _ _ (fun _ => True) (fun _ => False) rfl rfl HR1.out HCo.out (fun _ _ h => h) (fun _ h => h.elim) (fun _ _ => trivial) HB2'.out HB2'.out.size (by simp only [List.length_nil]; omega) ?_; intro v3 w3 hR3 hB3 hg3 hat3; rw [List.nil_append] at hR3; obtain ⟨A3, c3, hv3⟩ := Kd.R_slice hR3; subst hv3; have HS3 := A' (Kd.R_over HR.out HR1.out (by decide) hg3); have HR3 := A' hR3; have HB3 := A' hB3; clear hR3 hB3 hg3 hat3))
 clear HR1 HR HCo HB2' HV
 rw [← dec42_new]
 have HR0 := A' (heap_new w3 (.cells (dec42 kind (.slice A2 st.length c2) 0 4294967295 (.slice A3 code.length c3) 0 0 0 false true) 78))
 have HB4 := A' (below_alloc HB3.out (.cells (dec42 kind (.slice A2 st.length c2) 0 4294967295 (.slice A3 code.length c3) 0 0 0 false true) 78))
 have HRS := A' (Kd.R_alloc HS3.out (.cells (dec42 kind (.slice A2 st.length c2) 0 4294967295 (.slice A3 code.length c3) 0 0 0 false true) 78))
 have HRO := A' (Kd.R_alloc HR3.out (.cells (dec42 kind (.slice A2 st.length c2) 0 4294967295 (.slice A3 code.length c3) 0 0 0 false true) 78))
 generalize w3.alloc (.cells (dec42 kind (.slice A2 st.length c2) 0 4294967295 (.slice A3 code.length c3) 0 0 0 false true) 78) = w4 at HR0 HB4 HRS HRO ⊢
 have HQ3 := A' HB3.out.size
 obtain ⟨q, hq⟩ : ∃ q, w3.heap.size = q := ⟨_, rfl⟩
 rw [hq] at HR0 HQ3 ⊢
 obtain ⟨S, hS⟩ : ∃ S : Nat → Prop, S = Since w.heap.size w4 := ⟨_, rfl⟩
 have HE0 : Aside0 (DecRow w4 S q kind A2 c2 st 0 4294967295 (.slice A3 code.length c3) code 0 0 false) := ⟨by
  subst hS
  refine ⟨?_, Kd.R_lower (Kd.R_mono (Kd.R_bound HRS.out) fun k hk => ⟨hk.2.1, hk.2.2.1⟩) (Nat.zero_le _), Kd.R_lower (Kd.R_mono (Kd.R_bound HRO.out) fun k hk => ⟨hk.2.1, hk.2.2.1⟩) (Nat.zero_le _), ⟨HQ3.out, blk_lt HR0.out⟩⟩
  rw [Nat.zero_sub]
  exact HR0.out⟩
 have HS := A' hS
 clear hS HR0 HRS HRO HS3 HR3 HB3 HB2 HB hq hq0 hq1 hb0 k0 k1
 go_loopw [17] (fun i wr => ∃ (k : Nat), k ≤ 4 ∧ i = .int .i64 k ∧ Aside0 (DecRow wr S q kind A2 c2 st 0 4294967295 (.slice A3 code.length c3) code k (shV code k 0 0) false) ∧ Aside0 (Mods w4 wr S)) (fun i _ => 5 - (intOf i).toNat)
 case atStart => exact ⟨0, by omega, rfl, HE0, ⟨Mods.refl _ _⟩⟩
 clear HE0
 case round =>
  obtain ⟨k, hk, rfl, HE, HK⟩ := hrel
  by_cases h4 : (k : Int) < 4
  · have HV := A' (shV_range HBY.out k 0 0 (by omega) (by omega))
    go_wp2_with (go_at_call 28; refine (shift_row _ S q kind _ c2 st _ _ _ code _ _ false HE.out HV.out.1 HV.out.2 HBY.out hlen (by omega)).mono ?_; rintro e w8 ⟨rfl, hE9, hK9⟩; have HE9 := A' hE9; have HK9 := A' (HK.out.then_ hK9 (fun _ h => .inl h)); clear hE9 hK9)
    go_roundw
    case measure => simp only [intOf]; omega
    case rel =>
     refine ⟨k + 1, by omega, rfl, ⟨?_⟩, HK9⟩
     have h9 := HE9.out
     have e9 := shV_succ code k 0 0
     rw [Nat.zero_add] at e9
     rw [e9]
     exact h9
  · have e4 : k = 4 := by omega
    subst e4
    go_wp2
    go_ret2
    have hb := below_mods HB4.out HK.out (fun k hk => by rw [HS.out] at hk; exact hk.1) HB4.out.size
    refine ⟨q, rfl, ⟨A2, c2, .slice A3 code.length c3, HE.out.mono fun k hk => ?_⟩, hb⟩
    rw [HS.out] at hk
    exact ⟨hk.1, Nat.lt_of_lt_of_le hk.2 HK.out.size⟩
end Go.Proofs.Ytmndieohblpgaaa.DecNew
namespace Go.Proofs.Ytmndieohblpgaaa.Ngt
open Go Go.RowKit YtmndieohblpgaaaW PrintWords PrintLast PrintMore Aid HandAid Cod1 Cod2 Cod3 Ytmndieohblpgaaa.Mod Enc Mods EncAt Put End Snc Dec Get
/-- What a number is told with: the decoder behind it, the number, the error. -/
abbrev NR := DS × (Bool × Int) × Int
/-- The context of digit i of c, of a tree at a base. -/
def ctxOf (c i : Nat) : Int := if i = 0 then 23 + (c : Int) else min (43 + (i : Int)) 47
def signD (base : Int) (s : DS) (v : Int) : NR :=
 if v > 1048577 then (s, (false, 0), 3) else if v = 1 then (s, (false, 0), 0)
 else if (s.getI (base + 22)).2.2 = 0 then ((s.getI (base + 22)).1, (false, (v - 1) * (1 - 2 * (s.getI (base + 22)).2.1)), 0) else ((s.getI (base + 22)).1, (false, 0), (s.getI (base + 22)).2.2)
def digD (base : Int) (c : Nat) : Nat → Nat → DS → Int → NR
 | 0, _, s, v => signD base s v
 | r + 1, i, s, v => if (s.getI (base + ctxOf c i)).2.2 = 0 then digD base c r (i + 1) (s.getI (base + ctxOf c i)).1 (2 * v + (s.getI (base + ctxOf c i)).2.1) else ((s.getI (base + ctxOf c i)).1, (false, 0), (s.getI (base + ctxOf c i)).2.2)
def lenD (base : Int) : Nat → Nat → DS → NR
 | 0, c, s => digD base c c 0 s 1
 | f + 1, c, s => if (s.getI (base + 1 + c)).2.2 = 0 then (if (s.getI (base + 1 + c)).2.1 = 0 then digD base c c 0 (s.getI (base + 1 + c)).1 1 else lenD base f (c + 1) (s.getI (base + 1 + c)).1) else ((s.getI (base + 1 + c)).1, (false, 0), (s.getI (base + 1 + c)).2.2)
/-- The number that a decoder tells next, of the tree at a base. -/
def numD (base : Int) (s : DS) : NR :=
 if (s.getI base).2.2 = 0 then (if (s.getI base).2.1 = 1 then ((s.getI base).1, (true, 0), 0) else lenD base 20 0 (s.getI base).1) else ((s.getI base).1, (false, 0), (s.getI base).2.2)
end Go.Proofs.Ytmndieohblpgaaa.Ngt
namespace Go.Proofs.Ytmndieohblpgaaa.Nwk
open Go Go.RowKit YtmndieohblpgaaaW PrintWords PrintLast PrintMore Aid HandAid Cod1 Cod2 Cod3 Ytmndieohblpgaaa.Mod Enc Mods EncAt Put End Snc Dec Get Ngt
attribute [local go_sem] max2_int min2_int max_two min_two
theorem bit_range (s : DS) (i : Int) : 0 ≤ (s.getI i).2.1 ∧ (s.getI i).2.1 ≤ 1 := by
 unfold DS.getI
 split
 · split
   · exact ⟨Int.le_refl _, by show (0 : Int) ≤ 1; decide⟩
   · split
     · exact ⟨Int.le_refl _, by show (0 : Int) ≤ 1; decide⟩
     · have := DS.bit_ s i.toNat
       show 0 ≤ s.bit i.toNat ∧ s.bit i.toNat ≤ 1
       omega
 · exact ⟨Int.le_refl _, by show (0 : Int) ≤ 1; decide⟩
/-- What a decoder's row in memory is kept by. -/
class AtL (At : World → (Nat → Prop) → Nat → DS → Prop) : Prop where
 kept : ∀ {W W' : World} {S S' : Nat → Prop} {g : Nat} {s : DS}, At W S g s → Mods W W' S' → (∀ k, S k → ¬ S' k) → At W' S g s
 below : ∀ {W W' : World} {S : Nat → Prop} {g : Nat} {s : DS}, At W S g s → Below W.heap.size W W' → At W' S g s
 mono : ∀ {W : World} {S S' : Nat → Prop} {g : Nat} {s : DS}, At W S g s → (∀ k, S k → S' k) → At W S' g s
instance : AtL DecAt := ⟨fun h hk hne => DecAt.kept h hk hne, fun h hb => DecAt.below h hb, fun h hs => DecAt.mono h hs⟩
/-- A decoder at g, and what number.get has made: its result's cell. -/
structure GS (At : World → (Nat → Prop) → Nat → DS → Prop) (w : World) (S : Nat → Prop) (g gz : Nat) (s : DS) (W : World) : Prop where
 d : At W S g s
 m : Mods w W S
 z : W.heap[gz]? = some (.cells #[.bool false, .int .i64 0] 28 (0, 0))
 ok : s.ok
theorem GS.get {w W : World} {S : Nat → Prop} {g gz : Nat} {s : DS} (H : GS DecAt w S g gz s W) (hS : ∀ k, S k → k < w.heap.size) (hz : w.heap.size ≤ gz) (i : Int) :
 Calls Try.prog 29 #[.pointer (some ⟨g, 0, none⟩), .int .i64 i] W fun e W' => e = .returned (.tuple #[.int .i64 (s.getI i).2.1, .int .i64 (s.getI i).2.2]) ∧ GS DecAt w S g gz (s.getI i).1 W' ∧ Mods W W' S := by
 refine (get_calls W S g s i H.d (fun k hk => Nat.lt_of_lt_of_le (hS k hk) H.m.size) H.ok).mono ?_
 rintro e W' ⟨he, hE, hM⟩
 exact ⟨he, ⟨hE, H.m.then_ hM (fun k hk => .inl hk), blk_mods H.z hM (fun hk => by have := hS gz hk; omega), DS.getI_ok H.ok _⟩, hM⟩
/-- Another new block's cell is written. -/
theorem GS.tail {At : World → (Nat → Prop) → Nat → DS → Prop} [AtL At] {w W : World} {S : Nat → Prop} {g gz : Nat} {s : DS} (H : GS At w S g gz s W) (hS : ∀ k, S k → k < w.heap.size) {gt : Nat} (ht : w.heap.size ≤ gt) (hne : gt ≠ gz) (v : Value) : GS At w S g gz s (W.setCell ⟨gt, 0, none⟩ v) := by
 have h2 : Mods W (W.setCell ⟨gt, 0, none⟩ v) (fun k => k = gt) := (Mods.refl W (fun k => k = gt)).setCell (p := ⟨gt, 0, none⟩) (.inl rfl) v
 exact ⟨AtL.kept H.d h2 (fun k hk hk2 => by have := hS k hk; omega), H.m.then_ h2 (fun k hk => .inr (by omega)), blk_mods H.z h2 (fun hk => hne hk.symm), H.ok⟩
theorem GS.below {At : World → (Nat → Prop) → Nat → DS → Prop} [AtL At] {w W W' : World} {S : Nat → Prop} {g gz : Nat} {s : DS} (H : GS At w S g gz s W) (hb : Below W.heap.size W W') : GS At w S g gz s W' :=
 ⟨AtL.below H.d hb, H.m.below hb, blk_below H.z hb, H.ok⟩
theorem zset {W : World} {gz : Nat} {u v : Value} (h : W.heap[gz]? = some (.cells #[u, v] 28 (0, 0))) (p q : Value) :
 ((W.setCell ⟨gz, 0, none⟩ p).setCell ⟨gz, 1, none⟩ q).heap[gz]? = some (.cells #[p, q] 28 (0, 0)) := by simpa using blk_set (blk_set h 0 p) 1 q
/-- The end: the result's cell is written. -/
theorem GS.fin {At : World → (Nat → Prop) → Nat → DS → Prop} [AtL At] {w W : World} {S : Nat → Prop} {g gz : Nat} {s : DS} (H : GS At w S g gz s W) (hS : ∀ k, S k → k < w.heap.size) (hz : w.heap.size ≤ gz) (p q : Value) :
 At ((W.setCell ⟨gz, 0, none⟩ p).setCell ⟨gz, 1, none⟩ q) S g s ∧ Mods w ((W.setCell ⟨gz, 0, none⟩ p).setCell ⟨gz, 1, none⟩ q) S := by
 have h2 : Mods W ((W.setCell ⟨gz, 0, none⟩ p).setCell ⟨gz, 1, none⟩ q) (fun k => k = gz) := ((Mods.refl W (fun k => k = gz)).setCell (p := ⟨gz, 0, none⟩) (.inl rfl) p).setCell (p := ⟨gz, 1, none⟩) (.inl rfl) q
 exact ⟨AtL.kept H.d h2 (fun k hk hk2 => by have := hS k hk; omega), H.m.then_ h2 (fun k hk => .inr (by omega))⟩
theorem nret {W : World} {gz : Nat} {nn : Bool} {N err : Int} {tmps : Array Value} (hz : W.heap[gz]? = some (.cells #[.bool nn, .int .i64 N] 28 (0, 0))) (h2 : tmps.getD 4 undef = .pointer (some ⟨gz, 0, none⟩)) (h3 : tmps.getD 5 undef = .int .i64 err) :
 (results Try.f21 tmps).run Try.prog W = .ok (.tuple #[.agg #[.bool nn, .int .i64 N], .int .i64 err]) W := by
 have y0 : W.cell? ⟨gz, 0, none⟩ = some (.bool nn) := (blk_cell hz 0).trans rfl
 have y1 : W.cell? ⟨gz, 1, none⟩ = some (.int .i64 N) := (blk_cell hz 1).trans rfl
 have hu := Try.underlying28
 rw [results_cell_tmp rfl, h2, h3]
 go_simp
theorem take_calls (W : World) (gt : Nat) (n : Int) (h : W.heap[gt]? = some (.cells #[.int .i64 n] 75 (0, 0))) (h0 : 0 ≤ n) (h1 : n ≤ 47) :
 Calls Try.prog 26 #[.pointer (some ⟨gt, 0, none⟩)] W fun e W' => e = .returned (.int .i64 n) ∧ W' = W.setCell ⟨gt, 0, none⟩ (.int .i64 (min (n + 1) 47)) := by
 have k0 : W.cell? ⟨gt, 0, none⟩ = some (.int .i64 n) := (blk_cell h 0).trans rfl
 have fz := blk_frozen h 0
 go_enter Try.func26, Try.ntmps26
 go_wp2
 all_goals (go_ret; exact ⟨rfl, by rw [Int.min_def]; split <;> first | rfl | (exfalso; omega) | (congr 2; omega)⟩)
/-- What number.get answers. -/
def NPost (At : World → (Nat → Prop) → Nat → DS → Prop) (w : World) (S : Nat → Prop) (g : Nat) (R : NR) (e : Ending) (W : World) : Prop :=
 e = .returned (.tuple #[.agg #[.bool R.2.1.1, .int .i64 R.2.1.2], .int .i64 R.2.2]) ∧ At W S g R.1 ∧ Mods w W S ∧ R.1.ok
set_option maxHeartbeats 8000000 in
set_option maxRecDepth 100000 in
theorem number_get (w : World) (S : Nat → Prop) (g : Nat) (s : DS) (base : Int) (h : DecAt w S g s) (hS : ∀ k, S k → k < w.heap.size) (hok : s.ok) (hb0 : 0 ≤ base) (hb1 : base ≤ 1099511627776) (R : NR) (hR : numD base s = R) :
 Calls Try.prog 21 #[.pointer (some ⟨g, 0, none⟩), .int .i64 base] w (NPost DecAt w S g R) := by
 have hu1 := Try.underlying28
 have hu2 := Try.underlying75
 obtain ⟨gz, hgz⟩ : ∃ x, w.heap.size = x := ⟨_, rfl⟩
 have hz : w.heap.size ≤ gz := Nat.le_of_eq hgz
 have HA := A' h
 have HO := A' hok
 have HS := A' hS
 have HR := A' hR
 clear h hok hS hR
 obtain ⟨W1, hW1⟩ : ∃ x, w.alloc (.cells #[.bool false, .int .i64 0] 28) = x := ⟨_, rfl⟩
 have HG := A' (show GS DecAt w S g gz s W1 from hW1 ▸ ⟨HA.out.below (below_alloc (Below.refl _ _) _), (Mods.refl w S).below (below_alloc (Below.refl _ _) _), hgz ▸ heap_new w _, HO.out⟩)
 clear HA HO
 have hR := HR.out
 clear HR
 unfold numD at hR
 go_enter Try.func21, Try.ntmps21
 go_wp2_with (fail)
 refine (GS.get HG.out HS.out hz base).mono ?_
 rintro e W2 ⟨rfl, hg, hm⟩
 obtain ⟨⟨s1, bt, er⟩, hg1⟩ : ∃ x, s.getI base = x := ⟨_, rfl⟩
 have hbtbt : 0 ≤ bt ∧ bt ≤ 1 := by have := bit_range s base; rw [hg1] at this; exact this
 rw [hg1] at hR hg ⊢
 simp only at hR hg ⊢
 have HG2 := A' hg
 clear hg hm hg1
 have z0W2 : W2.cell? ⟨gz, 0, none⟩ = some (.bool false) := (blk_cell HG2.out.z 0).trans rfl
 have z1W2 : W2.cell? ⟨gz, 1, none⟩ = some (.int .i64 0) := (blk_cell HG2.out.z 1).trans rfl
 have y0W2 := blk_frozen HG2.out.z 0
 have y1W2 := blk_frozen HG2.out.z 1
 by_cases her : er = 0
 · subst her
   rw [if_pos rfl] at hR
   by_cases hb : bt = 1
   · subst hb
     rw [if_pos rfl] at hR
     subst hR
     go_wp2_with (fail)
     exact bodyPost_ret (nret (zset HG2.out.z (.bool true) (.int .i64 0)) rfl rfl) rfl ⟨rfl, (HG2.out.fin HS.out hz (.bool true) (.int .i64 0)).1, (HG2.out.fin HS.out hz (.bool true) (.int .i64 0)).2, HG2.out.ok⟩
   · rw [if_neg hb] at hR
     have eb : (bt == 1) = false := beq_eq_false_iff_ne.mpr hb
     clear HG
     go_wp2_with (fail)
     go_loopw [8] (fun x wr => ∃ c : Nat, ∃ s1 : DS, c ≤ 20 ∧ x = .int .i64 c ∧ lenD base (20 - c) c s1 = R ∧ Aside0 (GS DecAt w S g gz s1 wr)) (fun x _ => (20 - intOf x).toNat)
     case atStart => exact ⟨0, s1, by omega, rfl, hR, HG2⟩
     case round =>
      obtain ⟨c, s2, hc, rfl, hR, HG3⟩ := hrel
      clear z0W2 z1W2 y0W2 y1W2 HG2
      by_cases hlt : c < 20
      · have hcl : (c : Int) < 20 := by omega
        rw [show 20 - c = (20 - (c + 1)) + 1 by omega] at hR
        unfold lenD at hR
        go_wp2_with (fail)
        refine (GS.get HG3.out HS.out hz (base + 1 + c)).mono ?_
        rintro e W3 ⟨rfl, hg, hm⟩
        obtain ⟨⟨s3, btc, erc⟩, hg1⟩ : ∃ x, s2.getI (base + 1 + c) = x := ⟨_, rfl⟩
        have hbtbtc : 0 ≤ btc ∧ btc ≤ 1 := by have := bit_range s2 (base + 1 + c); rw [hg1] at this; exact this
        rw [hg1] at hR hg ⊢
        simp only at hR hg ⊢
        have HG4 := A' hg
        clear hg hm hg1
        have z0W3 : W3.cell? ⟨gz, 0, none⟩ = some (.bool false) := (blk_cell HG4.out.z 0).trans rfl
        have z1W3 : W3.cell? ⟨gz, 1, none⟩ = some (.int .i64 0) := (blk_cell HG4.out.z 1).trans rfl
        have y0W3 := blk_frozen HG4.out.z 0
        have y1W3 := blk_frozen HG4.out.z 1
        by_cases herc : erc = 0
        · subst herc
          rw [if_pos rfl] at hR
          by_cases hbc : btc = 0
          · subst hbc
            rw [if_pos rfl] at hR
            clear HG3
            go_wp2_with (fail)
            obtain ⟨gt, hgt⟩ : ∃ x, W3.heap.size = x := ⟨_, rfl⟩
            have hgt1 : w.heap.size ≤ gt := hgt ▸ HG4.out.m.size
            have hgz2 : gz < W3.heap.size := blk_lt HG4.out.z
            have hgt2 : gt ≠ gz := by omega
            obtain ⟨W5, hW5⟩ : ∃ x, W3.alloc (.cells #[.int .i64 44] 75) = x := ⟨_, rfl⟩
            have HT := A' (show W5.heap[gt]? = some (.cells #[.int .i64 (if 0 = 0 then 44 else min (43 + (0 : Int)) 47)] 75 (0, 0)) from hW5 ▸ hgt ▸ heap_new _ _)
            have HG5 := A' (show GS DecAt w S g gz s3 W5 from hW5 ▸ HG4.out.below (below_alloc (Below.refl _ _) _))
            rw [hW5, hgt]
            clear hW5 hgt hgz2 HG4
            go_loopw [9, 50] (fun uv ui wq => ∃ i : Nat, ∃ v : Int, ∃ s : DS, i ≤ c ∧ uv = .int .i64 v ∧ ui = .int .i64 i ∧ digD base c (c - i) i s v = R ∧ 0 ≤ v ∧ v < 2 ^ (i + 1) ∧ Aside0 (GS DecAt w S g gz s wq) ∧ Aside0 (wq.heap[gt]? = some (.cells #[.int .i64 (if i = 0 then 44 else min (43 + (i : Int)) 47)] 75 (0, 0)))) (fun _ ui _ => (c - intOf ui).toNat)
            case atStart => exact ⟨0, 1, s3, by omega, rfl, rfl, hR, by omega, by decide, HG5, HT⟩
            case round =>
             obtain ⟨i, v, s4, hi, rfl, rfl, hR, hv0, hv1, HG7, HT6⟩ := hrel
             clear HG5 HT
             have hp : (2 : Int) ^ (i + 1) ≤ 2097152 := by
              have h3 : (2 : Nat) ^ (i + 1) ≤ 2 ^ 21 := Nat.pow_le_pow_right (by omega) (by omega)
              have h4 : ((2 ^ (i + 1) : Nat) : Int) ≤ ((2 ^ 21 : Nat) : Int) := Int.ofNat_le.mpr h3
              rw [Int.natCast_pow] at h4
              exact h4
             by_cases hic : i < c
             · have hicl : (i : Int) < c := by omega
               rw [show c - i = (c - (i + 1)) + 1 by omega] at hR
               unfold digD at hR
               by_cases hi0 : i = 0
               · have hi0l : ¬ (0 : Int) < (i : Int) := by omega
                 rw [show ctxOf c i = 23 + (c : Int) from if_pos hi0] at hR
                 have HT6 := A' (show wr.heap[gt]? = some (.cells #[.int .i64 (if i + 1 = 0 then 44 else min (43 + ((i + 1 : Nat) : Int)) 47)] 75 (0, 0)) from by have h := HT6.out; rw [if_pos hi0] at h; rw [if_neg (Nat.succ_ne_zero i), show min (43 + ((i + 1 : Nat) : Int)) 47 = 44 by omega]; exact h)
                 have hi0 := A' hi0
                 go_wp2_with (fail)
                 refine (GS.get HG7.out HS.out hz (base + (23 + c))).mono ?_
                 rintro e W6 ⟨rfl, hg, hm⟩
                 obtain ⟨⟨s5, btd, erd⟩, hg1⟩ : ∃ x, s4.getI (base + (23 + c)) = x := ⟨_, rfl⟩
                 have hbtbtd : 0 ≤ btd ∧ btd ≤ 1 := by have := bit_range s4 (base + (23 + c)); rw [hg1] at this; exact this
                 rw [hg1] at hR hg ⊢
                 simp only at hR hg ⊢
                 have HG6 := A' hg
                 have HT6 := A' (blk_mods HT6.out hm (fun hk => by have := HS.out _ hk; omega))
                 clear hg hm hg1
                 have z0W6 : W6.cell? ⟨gz, 0, none⟩ = some (.bool false) := (blk_cell HG6.out.z 0).trans rfl
                 have z1W6 : W6.cell? ⟨gz, 1, none⟩ = some (.int .i64 0) := (blk_cell HG6.out.z 1).trans rfl
                 have y0W6 := blk_frozen HG6.out.z 0
                 have y1W6 := blk_frozen HG6.out.z 1
                 by_cases herd : erd = 0
                 · subst herd
                   rw [if_pos rfl] at hR
                   go_wp2_with (fail)
                   exact ⟨⟨i + 1, 2 * v + btd, s5, by omega, rfl, by rw [hi0.out]; rfl, hR, by omega, by rw [Int.pow_succ]; omega, HG6, HT6⟩, by simp [intOf]; omega⟩
                 · rw [if_neg herd] at hR
                   subst hR
                   have e0erd : (erd == 0) = false := beq_eq_false_iff_ne.mpr herd
                   have e1erd : (erd != 0) = true := bne_iff_ne.mpr herd
                   go_wp2_with (fail)
                   exact bodyPost_ret (nret (zset HG6.out.z (.bool false) (.int .i64 0)) rfl rfl) rfl ⟨rfl, (HG6.out.fin HS.out hz (.bool false) (.int .i64 0)).1, (HG6.out.fin HS.out hz (.bool false) (.int .i64 0)).2, HG6.out.ok⟩
               · have hi0l : (0 : Int) < (i : Int) := by omega
                 obtain ⟨n, hn⟩ : ∃ n : Int, min (43 + (i : Int)) 47 = n := ⟨_, rfl⟩
                 have hn0 : 44 ≤ n ∧ n ≤ 47 := by omega
                 have hn1 : min (n + 1) 47 = min (43 + ((i + 1 : Nat) : Int)) 47 := by omega
                 rw [show ctxOf c i = n from (if_neg hi0).trans hn] at hR
                 rw [if_neg hi0, hn] at HT6
                 go_wp2_with (fail)
                 refine (take_calls _ gt n HT6.out (by omega) (by omega)).mono ?_
                 rintro e W7 ⟨rfl, hw7⟩
                 have HG8 := A' (show GS DecAt w S g gz s4 W7 from hw7 ▸ HG7.out.tail HS.out hgt1 hgt2 _)
                 have HT6 := A' (show W7.heap[gt]? = some (.cells #[.int .i64 (if i + 1 = 0 then 44 else min (43 + ((i + 1 : Nat) : Int)) 47)] 75 (0, 0)) from by rw [hw7, if_neg (Nat.succ_ne_zero i), ← hn1]; simpa using blk_set HT6.out 0 _)
                 clear hw7
                 go_wp2_with (fail)
                 refine (GS.get HG8.out HS.out hz (base + n)).mono ?_
                 rintro e W6 ⟨rfl, hg, hm⟩
                 obtain ⟨⟨s5, btd, erd⟩, hg1⟩ : ∃ x, s4.getI (base + n) = x := ⟨_, rfl⟩
                 have hbtbtd : 0 ≤ btd ∧ btd ≤ 1 := by have := bit_range s4 (base + n); rw [hg1] at this; exact this
                 rw [hg1] at hR hg ⊢
                 simp only at hR hg ⊢
                 have HG6 := A' hg
                 have HT6 := A' (blk_mods HT6.out hm (fun hk => by have := HS.out _ hk; omega))
                 clear hg hm hg1
                 have z0W6 : W6.cell? ⟨gz, 0, none⟩ = some (.bool false) := (blk_cell HG6.out.z 0).trans rfl
                 have z1W6 : W6.cell? ⟨gz, 1, none⟩ = some (.int .i64 0) := (blk_cell HG6.out.z 1).trans rfl
                 have y0W6 := blk_frozen HG6.out.z 0
                 have y1W6 := blk_frozen HG6.out.z 1
                 by_cases herd : erd = 0
                 · subst herd
                   rw [if_pos rfl] at hR
                   go_wp2_with (fail)
                   exact ⟨⟨i + 1, 2 * v + btd, s5, by omega, rfl, rfl, hR, by omega, by rw [Int.pow_succ]; omega, HG6, HT6⟩, by simp [intOf]; omega⟩
                 · rw [if_neg herd] at hR
                   subst hR
                   have e0erd : (erd == 0) = false := beq_eq_false_iff_ne.mpr herd
                   have e1erd : (erd != 0) = true := bne_iff_ne.mpr herd
                   go_wp2_with (fail)
                   exact bodyPost_ret (nret (zset HG6.out.z (.bool false) (.int .i64 0)) rfl rfl) rfl ⟨rfl, (HG6.out.fin HS.out hz (.bool false) (.int .i64 0)).1, (HG6.out.fin HS.out hz (.bool false) (.int .i64 0)).2, HG6.out.ok⟩
             · have hicl : ¬ (i : Int) < c := by omega
               rw [show c - i = 0 by omega] at hR
               unfold digD signD at hR
               clear HT6
               have z0wq : wr.cell? ⟨gz, 0, none⟩ = some (.bool false) := (blk_cell HG7.out.z 0).trans rfl
               have z1wq : wr.cell? ⟨gz, 1, none⟩ = some (.int .i64 0) := (blk_cell HG7.out.z 1).trans rfl
               have y0wq := blk_frozen HG7.out.z 0
               have y1wq := blk_frozen HG7.out.z 1
               by_cases hv2 : v > 1048577
               · rw [if_pos hv2] at hR
                 subst hR
                 have hv3 : 1048577 < v := hv2
                 go_wp2_with (fail)
                 exact bodyPost_ret (nret (zset HG7.out.z (.bool false) (.int .i64 0)) rfl rfl) rfl ⟨rfl, (HG7.out.fin HS.out hz (.bool false) (.int .i64 0)).1, (HG7.out.fin HS.out hz (.bool false) (.int .i64 0)).2, HG7.out.ok⟩
               · rw [if_neg hv2] at hR
                 have hv3 : ¬ 1048577 < v := hv2
                 by_cases hv4 : v = 1
                 · rw [if_pos hv4] at hR
                   subst hR
                   have hv5 : (v == 1) = true := beq_iff_eq.mpr hv4
                   go_wp2_with (fail)
                   exact bodyPost_ret (nret (zset HG7.out.z (.bool false) (.int .i64 0)) rfl rfl) rfl ⟨rfl, (HG7.out.fin HS.out hz (.bool false) (.int .i64 0)).1, (HG7.out.fin HS.out hz (.bool false) (.int .i64 0)).2, HG7.out.ok⟩
                 · rw [if_neg hv4] at hR
                   have hv5 : (v == 1) = false := beq_eq_false_iff_ne.mpr hv4
                   clear z0wq z1wq y0wq y1wq
                   go_wp2_with (fail)
                   refine (GS.get HG7.out HS.out hz (base + 22)).mono ?_
                   rintro e W6 ⟨rfl, hg, hm⟩
                   obtain ⟨⟨s5, btd, erd⟩, hg1⟩ : ∃ x, s4.getI (base + 22) = x := ⟨_, rfl⟩
                   have hbtbtd : 0 ≤ btd ∧ btd ≤ 1 := by have := bit_range s4 (base + 22); rw [hg1] at this; exact this
                   rw [hg1] at hR hg ⊢
                   simp only at hR hg ⊢
                   have HG6 := A' hg
                   clear hg hm hg1
                   have z0W6 : W6.cell? ⟨gz, 0, none⟩ = some (.bool false) := (blk_cell HG6.out.z 0).trans rfl
                   have z1W6 : W6.cell? ⟨gz, 1, none⟩ = some (.int .i64 0) := (blk_cell HG6.out.z 1).trans rfl
                   have y0W6 := blk_frozen HG6.out.z 0
                   have y1W6 := blk_frozen HG6.out.z 1
                   by_cases herd : erd = 0
                   · subst herd
                     rw [if_pos rfl] at hR
                     rcases (show btd = 0 ∨ btd = 1 by omega) with rfl | rfl
                     · rw [show (v - 1) * (1 - 2 * 0) = v - 1 by omega] at hR
                       subst hR
                       go_wp2_with (fail)
                       exact bodyPost_ret (nret (zset HG6.out.z (.bool false) (.int .i64 (v - 1))) rfl rfl) rfl ⟨rfl, (HG6.out.fin HS.out hz (.bool false) (.int .i64 (v - 1))).1, (HG6.out.fin HS.out hz (.bool false) (.int .i64 (v - 1))).2, HG6.out.ok⟩
                     · rw [show (v - 1) * (1 - 2 * 1) = -(v - 1) by omega] at hR
                       subst hR
                       go_wp2_with (fail)
                       exact bodyPost_ret (nret (zset HG6.out.z (.bool false) (.int .i64 (-(v - 1)))) rfl rfl) rfl ⟨rfl, (HG6.out.fin HS.out hz (.bool false) (.int .i64 (-(v - 1)))).1, (HG6.out.fin HS.out hz (.bool false) (.int .i64 (-(v - 1)))).2, HG6.out.ok⟩
                   · rw [if_neg herd] at hR
                     subst hR
                     have e0erd : (erd == 0) = false := beq_eq_false_iff_ne.mpr herd
                     have e1erd : (erd != 0) = true := bne_iff_ne.mpr herd
                     go_wp2_with (fail)
                     exact bodyPost_ret (nret (zset HG6.out.z (.bool false) (.int .i64 0)) rfl rfl) rfl ⟨rfl, (HG6.out.fin HS.out hz (.bool false) (.int .i64 0)).1, (HG6.out.fin HS.out hz (.bool false) (.int .i64 0)).2, HG6.out.ok⟩
          · rw [if_neg hbc] at hR
            have ebc : (btc == 0) = false := beq_eq_false_iff_ne.mpr hbc
            go_wp2_with (fail)
            exact ⟨⟨c + 1, s3, by omega, rfl, by exact hR, HG4⟩, by simp [intOf]; omega⟩
        · rw [if_neg herc] at hR
          subst hR
          have e0erc : (erc == 0) = false := beq_eq_false_iff_ne.mpr herc
          have e1erc : (erc != 0) = true := bne_iff_ne.mpr herc
          go_wp2_with (fail)
          exact bodyPost_ret (nret (zset HG4.out.z (.bool false) (.int .i64 0)) rfl rfl) rfl ⟨rfl, (HG4.out.fin HS.out hz (.bool false) (.int .i64 0)).1, (HG4.out.fin HS.out hz (.bool false) (.int .i64 0)).2, HG4.out.ok⟩
      · have hcl : ¬ (c : Int) < 20 := by omega
        rw [show 20 - c = 0 by omega] at hR
        unfold lenD at hR
        go_wp2_with (fail)
        obtain ⟨gt, hgt⟩ : ∃ x, wr.heap.size = x := ⟨_, rfl⟩
        have hgt1 : w.heap.size ≤ gt := hgt ▸ HG3.out.m.size
        have hgz2 : gz < wr.heap.size := blk_lt HG3.out.z
        have hgt2 : gt ≠ gz := by omega
        obtain ⟨W5, hW5⟩ : ∃ x, wr.alloc (.cells #[.int .i64 44] 75) = x := ⟨_, rfl⟩
        have HT := A' (show W5.heap[gt]? = some (.cells #[.int .i64 (if 0 = 0 then 44 else min (43 + (0 : Int)) 47)] 75 (0, 0)) from hW5 ▸ hgt ▸ heap_new _ _)
        have HG5 := A' (show GS DecAt w S g gz s2 W5 from hW5 ▸ HG3.out.below (below_alloc (Below.refl _ _) _))
        rw [hW5, hgt]
        clear hW5 hgt hgz2 HG3
        go_loopw [9, 50] (fun uv ui wq => ∃ i : Nat, ∃ v : Int, ∃ s : DS, i ≤ c ∧ uv = .int .i64 v ∧ ui = .int .i64 i ∧ digD base c (c - i) i s v = R ∧ 0 ≤ v ∧ v < 2 ^ (i + 1) ∧ Aside0 (GS DecAt w S g gz s wq) ∧ Aside0 (wq.heap[gt]? = some (.cells #[.int .i64 (if i = 0 then 44 else min (43 + (i : Int)) 47)] 75 (0, 0)))) (fun _ ui _ => (c - intOf ui).toNat)
        case atStart => exact ⟨0, 1, s2, by omega, rfl, rfl, hR, by omega, by decide, HG5, HT⟩
        case round =>
         obtain ⟨i, v, s4, hi, rfl, rfl, hR, hv0, hv1, HG7, HT6⟩ := hrel
         clear HG5 HT
         have hp : (2 : Int) ^ (i + 1) ≤ 2097152 := by
          have h3 : (2 : Nat) ^ (i + 1) ≤ 2 ^ 21 := Nat.pow_le_pow_right (by omega) (by omega)
          have h4 : ((2 ^ (i + 1) : Nat) : Int) ≤ ((2 ^ 21 : Nat) : Int) := Int.ofNat_le.mpr h3
          rw [Int.natCast_pow] at h4
          exact h4
         by_cases hic : i < c
         · have hicl : (i : Int) < c := by omega
           rw [show c - i = (c - (i + 1)) + 1 by omega] at hR
           unfold digD at hR
           by_cases hi0 : i = 0
           · have hi0l : ¬ (0 : Int) < (i : Int) := by omega
             rw [show ctxOf c i = 23 + (c : Int) from if_pos hi0] at hR
             have HT6 := A' (show wr.heap[gt]? = some (.cells #[.int .i64 (if i + 1 = 0 then 44 else min (43 + ((i + 1 : Nat) : Int)) 47)] 75 (0, 0)) from by have h := HT6.out; rw [if_pos hi0] at h; rw [if_neg (Nat.succ_ne_zero i), show min (43 + ((i + 1 : Nat) : Int)) 47 = 44 by omega]; exact h)
             have hi0 := A' hi0
             go_wp2_with (fail)
             refine (GS.get HG7.out HS.out hz (base + (23 + c))).mono ?_
             rintro e W6 ⟨rfl, hg, hm⟩
             obtain ⟨⟨s5, btd, erd⟩, hg1⟩ : ∃ x, s4.getI (base + (23 + c)) = x := ⟨_, rfl⟩
             have hbtbtd : 0 ≤ btd ∧ btd ≤ 1 := by have := bit_range s4 (base + (23 + c)); rw [hg1] at this; exact this
             rw [hg1] at hR hg ⊢
             simp only at hR hg ⊢
             have HG6 := A' hg
             have HT6 := A' (blk_mods HT6.out hm (fun hk => by have := HS.out _ hk; omega))
             clear hg hm hg1
             have z0W6 : W6.cell? ⟨gz, 0, none⟩ = some (.bool false) := (blk_cell HG6.out.z 0).trans rfl
             have z1W6 : W6.cell? ⟨gz, 1, none⟩ = some (.int .i64 0) := (blk_cell HG6.out.z 1).trans rfl
             have y0W6 := blk_frozen HG6.out.z 0
             have y1W6 := blk_frozen HG6.out.z 1
             by_cases herd : erd = 0
             · subst herd
               rw [if_pos rfl] at hR
               go_wp2_with (fail)
               exact ⟨⟨i + 1, 2 * v + btd, s5, by omega, rfl, by rw [hi0.out]; rfl, hR, by omega, by rw [Int.pow_succ]; omega, HG6, HT6⟩, by simp [intOf]; omega⟩
             · rw [if_neg herd] at hR
               subst hR
               have e0erd : (erd == 0) = false := beq_eq_false_iff_ne.mpr herd
               have e1erd : (erd != 0) = true := bne_iff_ne.mpr herd
               go_wp2_with (fail)
               exact bodyPost_ret (nret (zset HG6.out.z (.bool false) (.int .i64 0)) rfl rfl) rfl ⟨rfl, (HG6.out.fin HS.out hz (.bool false) (.int .i64 0)).1, (HG6.out.fin HS.out hz (.bool false) (.int .i64 0)).2, HG6.out.ok⟩
           · have hi0l : (0 : Int) < (i : Int) := by omega
             obtain ⟨n, hn⟩ : ∃ n : Int, min (43 + (i : Int)) 47 = n := ⟨_, rfl⟩
             have hn0 : 44 ≤ n ∧ n ≤ 47 := by omega
             have hn1 : min (n + 1) 47 = min (43 + ((i + 1 : Nat) : Int)) 47 := by omega
             rw [show ctxOf c i = n from (if_neg hi0).trans hn] at hR
             rw [if_neg hi0, hn] at HT6
             go_wp2_with (fail)
             refine (take_calls _ gt n HT6.out (by omega) (by omega)).mono ?_
             rintro e W7 ⟨rfl, hw7⟩
             have HG8 := A' (show GS DecAt w S g gz s4 W7 from hw7 ▸ HG7.out.tail HS.out hgt1 hgt2 _)
             have HT6 := A' (show W7.heap[gt]? = some (.cells #[.int .i64 (if i + 1 = 0 then 44 else min (43 + ((i + 1 : Nat) : Int)) 47)] 75 (0, 0)) from by rw [hw7, if_neg (Nat.succ_ne_zero i), ← hn1]; simpa using blk_set HT6.out 0 _)
             clear hw7
             go_wp2_with (fail)
             refine (GS.get HG8.out HS.out hz (base + n)).mono ?_
             rintro e W6 ⟨rfl, hg, hm⟩
             obtain ⟨⟨s5, btd, erd⟩, hg1⟩ : ∃ x, s4.getI (base + n) = x := ⟨_, rfl⟩
             have hbtbtd : 0 ≤ btd ∧ btd ≤ 1 := by have := bit_range s4 (base + n); rw [hg1] at this; exact this
             rw [hg1] at hR hg ⊢
             simp only at hR hg ⊢
             have HG6 := A' hg
             have HT6 := A' (blk_mods HT6.out hm (fun hk => by have := HS.out _ hk; omega))
             clear hg hm hg1
             have z0W6 : W6.cell? ⟨gz, 0, none⟩ = some (.bool false) := (blk_cell HG6.out.z 0).trans rfl
             have z1W6 : W6.cell? ⟨gz, 1, none⟩ = some (.int .i64 0) := (blk_cell HG6.out.z 1).trans rfl
             have y0W6 := blk_frozen HG6.out.z 0
             have y1W6 := blk_frozen HG6.out.z 1
             by_cases herd : erd = 0
             · subst herd
               rw [if_pos rfl] at hR
               go_wp2_with (fail)
               exact ⟨⟨i + 1, 2 * v + btd, s5, by omega, rfl, rfl, hR, by omega, by rw [Int.pow_succ]; omega, HG6, HT6⟩, by simp [intOf]; omega⟩
             · rw [if_neg herd] at hR
               subst hR
               have e0erd : (erd == 0) = false := beq_eq_false_iff_ne.mpr herd
               have e1erd : (erd != 0) = true := bne_iff_ne.mpr herd
               go_wp2_with (fail)
               exact bodyPost_ret (nret (zset HG6.out.z (.bool false) (.int .i64 0)) rfl rfl) rfl ⟨rfl, (HG6.out.fin HS.out hz (.bool false) (.int .i64 0)).1, (HG6.out.fin HS.out hz (.bool false) (.int .i64 0)).2, HG6.out.ok⟩
         · have hicl : ¬ (i : Int) < c := by omega
           rw [show c - i = 0 by omega] at hR
           unfold digD signD at hR
           clear HT6
           have z0wq : wr.cell? ⟨gz, 0, none⟩ = some (.bool false) := (blk_cell HG7.out.z 0).trans rfl
           have z1wq : wr.cell? ⟨gz, 1, none⟩ = some (.int .i64 0) := (blk_cell HG7.out.z 1).trans rfl
           have y0wq := blk_frozen HG7.out.z 0
           have y1wq := blk_frozen HG7.out.z 1
           by_cases hv2 : v > 1048577
           · rw [if_pos hv2] at hR
             subst hR
             have hv3 : 1048577 < v := hv2
             go_wp2_with (fail)
             exact bodyPost_ret (nret (zset HG7.out.z (.bool false) (.int .i64 0)) rfl rfl) rfl ⟨rfl, (HG7.out.fin HS.out hz (.bool false) (.int .i64 0)).1, (HG7.out.fin HS.out hz (.bool false) (.int .i64 0)).2, HG7.out.ok⟩
           · rw [if_neg hv2] at hR
             have hv3 : ¬ 1048577 < v := hv2
             by_cases hv4 : v = 1
             · rw [if_pos hv4] at hR
               subst hR
               have hv5 : (v == 1) = true := beq_iff_eq.mpr hv4
               go_wp2_with (fail)
               exact bodyPost_ret (nret (zset HG7.out.z (.bool false) (.int .i64 0)) rfl rfl) rfl ⟨rfl, (HG7.out.fin HS.out hz (.bool false) (.int .i64 0)).1, (HG7.out.fin HS.out hz (.bool false) (.int .i64 0)).2, HG7.out.ok⟩
             · rw [if_neg hv4] at hR
               have hv5 : (v == 1) = false := beq_eq_false_iff_ne.mpr hv4
               clear z0wq z1wq y0wq y1wq
               go_wp2_with (fail)
               refine (GS.get HG7.out HS.out hz (base + 22)).mono ?_
               rintro e W6 ⟨rfl, hg, hm⟩
               obtain ⟨⟨s5, btd, erd⟩, hg1⟩ : ∃ x, s4.getI (base + 22) = x := ⟨_, rfl⟩
               have hbtbtd : 0 ≤ btd ∧ btd ≤ 1 := by have := bit_range s4 (base + 22); rw [hg1] at this; exact this
               rw [hg1] at hR hg ⊢
               simp only at hR hg ⊢
               have HG6 := A' hg
               clear hg hm hg1
               have z0W6 : W6.cell? ⟨gz, 0, none⟩ = some (.bool false) := (blk_cell HG6.out.z 0).trans rfl
               have z1W6 : W6.cell? ⟨gz, 1, none⟩ = some (.int .i64 0) := (blk_cell HG6.out.z 1).trans rfl
               have y0W6 := blk_frozen HG6.out.z 0
               have y1W6 := blk_frozen HG6.out.z 1
               by_cases herd : erd = 0
               · subst herd
                 rw [if_pos rfl] at hR
                 rcases (show btd = 0 ∨ btd = 1 by omega) with rfl | rfl
                 · rw [show (v - 1) * (1 - 2 * 0) = v - 1 by omega] at hR
                   subst hR
                   go_wp2_with (fail)
                   exact bodyPost_ret (nret (zset HG6.out.z (.bool false) (.int .i64 (v - 1))) rfl rfl) rfl ⟨rfl, (HG6.out.fin HS.out hz (.bool false) (.int .i64 (v - 1))).1, (HG6.out.fin HS.out hz (.bool false) (.int .i64 (v - 1))).2, HG6.out.ok⟩
                 · rw [show (v - 1) * (1 - 2 * 1) = -(v - 1) by omega] at hR
                   subst hR
                   go_wp2_with (fail)
                   exact bodyPost_ret (nret (zset HG6.out.z (.bool false) (.int .i64 (-(v - 1)))) rfl rfl) rfl ⟨rfl, (HG6.out.fin HS.out hz (.bool false) (.int .i64 (-(v - 1)))).1, (HG6.out.fin HS.out hz (.bool false) (.int .i64 (-(v - 1)))).2, HG6.out.ok⟩
               · rw [if_neg herd] at hR
                 subst hR
                 have e0erd : (erd == 0) = false := beq_eq_false_iff_ne.mpr herd
                 have e1erd : (erd != 0) = true := bne_iff_ne.mpr herd
                 go_wp2_with (fail)
                 exact bodyPost_ret (nret (zset HG6.out.z (.bool false) (.int .i64 0)) rfl rfl) rfl ⟨rfl, (HG6.out.fin HS.out hz (.bool false) (.int .i64 0)).1, (HG6.out.fin HS.out hz (.bool false) (.int .i64 0)).2, HG6.out.ok⟩
 · rw [if_neg her] at hR
   subst hR
   have e0er : (er == 0) = false := beq_eq_false_iff_ne.mpr her
   have e1er : (er != 0) = true := bne_iff_ne.mpr her
   go_wp2_with (fail)
   exact bodyPost_ret (nret (zset HG2.out.z (.bool false) (.int .i64 0)) rfl rfl) rfl ⟨rfl, (HG2.out.fin HS.out hz (.bool false) (.int .i64 0)).1, (HG2.out.fin HS.out hz (.bool false) (.int .i64 0)).2, HG2.out.ok⟩
end Go.Proofs.Ytmndieohblpgaaa.Nwk
namespace Go.Proofs.Ytmndieohblpgaaa.Ndc
open Go Go.RowKit YtmndieohblpgaaaW PrintWords PrintLast PrintMore U Aid HandAid Cod1 Cod2 Cod3 Ytmndieohblpgaaa.Mod NewRef Enc Mods EncAt Put End Snc Dec Get DecNew Ngt Nwk
/-- The numbers that a decoder tells. -/
def decN : Nat → DS → List S28 → List S28 × Int
 | 0, _, l => (l, 0)
 | k + 1, s, l => if (numD 0 s).2.2 = 0 then decN k (numD 0 s).1 (l ++ [⟨(numD 0 s).2.1.1, (numD 0 s).2.1.2⟩]) else ([], (numD 0 s).2.2)
def decNs (kind : Int) (b : List Int) (n : Int) : List S28 × Int := if (kind = 0 ∨ kind = 1) ∧ 0 ≤ n ∧ n ≤ 20000 then decN n.toNat (newDS kind (List.replicate 48 0) b) [] else ([], 2)
/-- What stands in Decode's loop. -/
structure NMem (At : World → (Nat → Prop) → Nat → DS → Prop) (w : World) (B E g : Nat) (s : DS) (v : Value) (acc : List S28) (W : World) : Prop where
 e : At W (fun j => B ≤ j ∧ j < E) g s
 ok : s.ok
 r : Kd.R k28 28 W w.heap.size (fun j => E ≤ j) v acc
 b : Below w.heap.size w W
 wB : w.heap.size ≤ B
 BE : B ≤ E
 EW : E ≤ W.heap.size
section
variable {At : World → (Nat → Prop) → Nat → DS → Prop} [AtL At] {w : World} {B E g : Nat} {s s' : DS} {v v' : Value} {acc acc' : List S28} {W W' : World}
omit [AtL At] in
theorem NMem.get (H : NMem At w B E g s v acc W) (hE : At W' (fun j => B ≤ j ∧ j < E) g s') (hok : s'.ok) (hM : Mods W W' (fun j => B ≤ j ∧ j < E)) : NMem At w B E g s' v acc W' :=
 ⟨hE, hok, Kd.R_kept H.r hM.kept (fun k hk hk2 => by omega), below_mods H.b hM (fun k hk => Nat.le_trans H.wB hk.1) H.b.size, H.wB, H.BE, Nat.le_trans H.EW hM.size⟩
theorem NMem.below (H : NMem At w B E g s v acc W) (hb : Below W.heap.size W W') : NMem At w B E g s v acc W' :=
 ⟨AtL.below H.e hb, H.ok, Kd.R_below H.r hb, below_then H.b H.b.size hb, H.wB, H.BE, Nat.le_trans H.EW hb.size⟩
theorem NMem.app (H : NMem At w B E g s v acc W) (hg : W.grownBy W' v.ownBlock) (hR : Kd.R k28 28 W' w.heap.size (fun j => E ≤ j) v' acc') (hB : Below w.heap.size w W') : NMem At w B E g s v' acc' W' := by
 have hM : Mods W W' (fun j => E ≤ j) := Mods.of_grown hg (Mods.refl _ _) (fun k hk => .inl (H.r.1 k hk))
 exact ⟨AtL.kept H.e hM (fun k hk hk2 => by omega), H.ok, hR, hB, H.wB, H.BE, Nat.le_trans H.EW hM.size⟩
end
/-- Decode's answer. -/
def NDec (w : World) (R : List S28 × Int) (e : Ending) (w' : World) : Prop := ∃ v0, e = .returned (.tuple #[v0, .int .i64 R.2]) ∧ Kd.R k28 28 w' w.heap.size (fun _ => True) v0 R.1 ∧ Below w.heap.size w w'
theorem newM_ok {kind : Int} (h : kind = 0 ∨ kind = 1) : newModel kind 48 = (kind, List.replicate 48 0, 0) := if_pos ⟨h, by decide, by decide⟩
theorem newM_bad {kind : Int} (h : ¬ (kind = 0 ∨ kind = 1)) : newModel kind 48 = (0, [], 2) := if_neg (fun h2 => h h2.1)
set_option maxHeartbeats 2000000 in
set_option maxRecDepth 100000 in
theorem ndecode_calls (kind : Int) (A2 : Option Addr) (c2 : Nat) (b : List Int) (n : Int) (w : World) (hC2 : Kd.C (Kd.int .u8) w A2 b.length b) (hc2 : b.length ≤ c2) (hb : Bytes b) (hl : b.length ≤ 1099511627776) :
 Calls Try.prog 10 #[.int .i64 kind, .slice A2 b.length c2, .int .i64 n] w (NDec w (decNs kind b n)) := by
 have HC2 := A' hC2
 have HBY := A' hb
 have hu := Try.underlying48
 have hu48 := Try.underlying28
 clear hC2 hb
 obtain ⟨R, hR⟩ : ∃ r, decNs kind b n = r := ⟨_, rfl⟩
 rw [hR]
 unfold decNs at hR
 go_enter Try.func10, Try.ntmps10
 go_wp2_with (fail)
 refine (new_calls kind 48 w).mono ?_
 rintro e w1 ⟨A, c, rfl, hRM, hb1⟩
 by_cases hk : kind = 0 ∨ kind = 1
 · by_cases hn : 0 ≤ n ∧ n ≤ 20000
   · rw [if_pos ⟨hk, hn.1, hn.2⟩] at hR
     rw [newM_ok hk] at hRM ⊢
     have hmok : okModel kind (List.replicate 48 0) := by have := new_ok kind 48 (by rw [newM_ok hk]); rw [newM_ok hk] at this; exact this
     generalize hst : List.replicate 48 (0 : Int) = st at hR hRM hmok ⊢
     have hst48 : st.length = 48 := by rw [← hst]; exact List.length_replicate
     clear hst
     simp only [hst48] at hRM ⊢
     have HCM := A' hRM
     have HB1 := A' hb1
     clear hRM hb1
     go_wp2_with (fail)
     obtain ⟨W2, hW2⟩ : ∃ x, w1.alloc (.cells #[.int .i64 kind, .slice A 48 c] 48) = x := ⟨_, rfl⟩
     have HB12 := A' (show Below w1.heap.size w1 W2 from hW2 ▸ below_alloc (Below.refl _ _) _)
     have HB2 := A' (below_then HB1.out HB1.out.size HB12.out)
     obtain ⟨hc48, hc48b, hCM⟩ := Kd.R_reads' HCM.out
     have HCM := A' (Kd.C_below hCM HB12.out)
     rw [hW2]
     clear hW2 hCM HB1 HB12
     have hnd := new_dec A c kind st A2 c2 b W2 HCM.out (by rw [hst48]; exact hc48b) hmok (Kd.C_below HC2.out HB2.out) hc2 HBY.out hl
     rw [hst48] at hnd
     refine hnd.mono ?_
     rintro e w3 ⟨g, rfl, hE1, hB3⟩
     obtain ⟨E, hE⟩ : ∃ E, w3.heap.size = E := ⟨_, rfl⟩
     have HM := A' (show NMem DecAt w W2.heap.size E g (newDS kind st b) (.slice none 0 0) [] w3 from ⟨AtL.mono hE1 (fun j hj => ⟨hj.1, hE ▸ hj.2⟩), newDS_ok hmok HBY.out hl, Kd.R_nil _ _ _ _ _, below_then HB2.out HB2.out.size hB3, HB2.out.size, hE ▸ hB3.size, Nat.le_of_eq hE.symm⟩)
     have hn0 := hn.1
     have hn1 := hn.2
     clear hE1 hB3 hnd hE hn HB2 HCM HC2 HBY hk hmok hst48 hc48 hc48b
     go_wp2_with (fail)
     go_loopw [12, 37] (fun x i wr => ∃ k : Nat, ∃ s : DS, ∃ acc : List S28, (k : Int) ≤ n ∧ i = .int .i64 k ∧ decN (n.toNat - k) s acc = R ∧ acc.length = k ∧ Aside0 (NMem DecAt w W2.heap.size E g s x acc wr)) (fun _ i _ => (n - intOf i).toNat)
     case atStart => exact ⟨0, _, [], by omega, rfl, hR, rfl, HM⟩
     case round =>
      obtain ⟨k, s, acc, hk, rfl, hdec, hlen, HS⟩ := hrel
      clear HM
      by_cases hlt : (k : Int) < n
      · obtain ⟨⟨s', ⟨nn, N⟩, er⟩, hR1⟩ : ∃ R1, numD 0 s = R1 := ⟨_, rfl⟩
        rw [show n.toNat - k = (n.toNat - (k + 1)) + 1 by omega] at hdec
        unfold decN at hdec
        rw [hR1] at hdec
        simp only at hdec
        have hacc : acc.length ≤ 20000 := by omega
        go_wp2_with (fail)
        have hg := number_get wr (fun j => W2.heap.size ≤ j ∧ j < E) g s 0 HS.out.e (fun j hj => Nat.lt_of_lt_of_le hj.2 HS.out.EW) HS.out.ok (by omega) (by omega) _ hR1
        refine hg.mono ?_
        rintro e W4 ⟨rfl, hE4, hM4, hok4⟩
        have HS4 := A' (HS.out.get hE4 hok4 hM4)
        clear hg hE4 hM4 hok4 HS
        by_cases he : er = 0
        · subst he
          rw [if_pos rfl] at hdec
          go_wp2_with ((with_reducible refine gate_builtin (b := .append) (xs := #[.tmp 47, .tmp 49]) rfl ?_); at_builtin; refine Kd.R_append k28 (w0 := w) w.heap.size rfl (.tmp 47) (.tmp 49) 25 28 (.agg #[(.bool false), (.int .i64 0)]) 16 rfl Try.underlying25 info28 rfl (by decide) (by omega) u12 acc (⟨nn, N⟩ : S28) [.bool nn, .int .i64 N] (fun j => E ≤ j) (fun _ => False) rfl ?aX (k28_mkM _ _ _ (⟨nn, N⟩ : S28)) (fun _ hk => hk.elim) (fun _ h => Nat.le_trans (HS4.out.below (below_alloc (Below.refl _ _) _)).EW h) (HS4.out.below (below_alloc (Below.refl _ _) _)).r (HS4.out.below (below_alloc (Below.refl _ _) _)).b ?aS (by omega) ?_; (case aX => first | (go_simp; done) | rfl); (case aS => exact (HS4.out.below (below_alloc (Below.refl _ _) _)).b.size); intro v2 w3 ho hb2 hgr hat; have HS5 := A' ((HS4.out.below (below_alloc (Below.refl _ _) _)).app hgr ho hb2); clear ho hb2 hgr hat)
          exact ⟨⟨k + 1, s', acc ++ [⟨nn, N⟩], by omega, rfl, hdec, by rw [List.length_append, hlen]; rfl, HS5⟩, by simp [intOf]; omega⟩
        · rw [if_neg he] at hdec
          subst hdec
          have e0 : (er == 0) = false := beq_eq_false_iff_ne.mpr he
          have e1 : (er != 0) = true := bne_iff_ne.mpr he
          go_wp2_with (fail)
          go_ret2
          exact ⟨_, rfl, Kd.R_nil _ _ _ _ _, below_alloc HS4.out.b _⟩
      · have hkn : n.toNat - k = 0 := by omega
        rw [hkn] at hdec
        unfold decN at hdec
        subst hdec
        go_wp2_with (fail)
        go_ret2
        exact ⟨_, rfl, Kd.R_mono HS.out.r (fun _ _ => trivial), HS.out.b⟩
   · rw [if_neg (fun h => hn h.2)] at hR
     subst hR
     rw [newM_ok hk] at hRM ⊢
     simp only [List.length_replicate] at hRM ⊢
     have HB1 := A' hb1
     clear hRM hb1
     rcases (show n < 0 ∨ (¬ n < 0 ∧ 20000 < n) by omega) with h | ⟨h, h2⟩
     · clear hn
       go_wp2_with (fail)
       go_ret2
       exact ⟨_, rfl, Kd.R_nil _ _ _ _ _, below_alloc HB1.out _⟩
     · clear hn
       go_wp2_with (fail)
       go_ret2
       exact ⟨_, rfl, Kd.R_nil _ _ _ _ _, below_alloc HB1.out _⟩
 · rw [if_neg (fun h => hk h.1)] at hR
   subst hR
   rw [newM_bad hk] at hRM ⊢
   have HB1 := A' hb1
   clear hRM hb1 hk
   go_wp2_with (fail)
   go_ret2
   exact ⟨_, rfl, Kd.R_nil _ _ _ _ _, below_alloc HB1.out _⟩
end Go.Proofs.Ytmndieohblpgaaa.Ndc
namespace Go.Proofs.Ytmndieohblpgaaa.U
open Go Go.RowKit YtmndieohblpgaaaW PrintWords PrintLast PrintMore Aid HandAid Ndc
def number_Decode.f (a0 : Int) (l1 : List Int) (a2 : Int) : Option (List S28 × Int) := if (l1.all fun x => decide (0 ≤ x ∧ x ≤ 255)) = true ∧ l1.length ≤ 1099511627776 then some (decNs a0 l1 a2) else none
theorem number_Decode.calls (a0 : Int) (A1 : Option Addr) (c1 : Nat) (l1 : List Int) (a2 : Int) (r1 : List S28) (r2 : Int) (w : World) (hr1 : Kd.C (Kd.int .u8) w A1 l1.length l1) (hc1 : l1.length ≤ c1) (h : number_Decode.f a0 l1 a2 = some (r1, r2)) :
 Calls Try.prog 10 #[.int .i64 a0, .slice A1 l1.length c1, .int .i64 a2] w fun e w' => ∃ v0_ : Value, e = .returned (.tuple #[v0_, .int .i64 r2]) ∧ Kd.R k28 28 w' w.heap.size (fun _ => True) v0_ r1 ∧ Below w.heap.size w w' := by
 unfold number_Decode.f at h
 split at h
 · rename_i hc
   have e := Option.some.inj h
   have hb : Go.Proofs.Ytmndieohblpgaaa.Aid.Bytes l1 := fun x hx => of_decide_eq_true (List.all_eq_true.1 hc.1 x hx)
   have hd := ndecode_calls a0 A1 c1 l1 a2 w hr1 hc1 hb hc.2
   rw [e] at hd
   exact hd
 · cases h
end Go.Proofs.Ytmndieohblpgaaa.U
namespace Go.Proofs.Ytmndieohblpgaaa.U
open Go.RowKit YtmndieohblpgaaaW PrintWords PrintLast PrintMore
attribute [local go_sem] max2_int min2_int max_two min_two max_three min_three max_four min_four
theorem eqA28 (d : Nat) (w : World) (x0 y0 : Bool) (x1 y1 : Int) :
 (Op.equalIn (d + 2) 28 (.agg #[.bool x0, .int .i64 x1]) (.agg #[.bool y0, .int .i64 y1])).run Try.prog w = .ok (x0 == y0 && (x1 == y1)) w := by
 refine eqA_of Try.underlying28 (by kernel_rfl) ?_
 refine eqf_cons (by rfl) (by go_simp; rfl) (by go_simp; rfl) (by go_simp) ?_
 exact eqf_last (by rfl) (by go_simp; rfl) (by go_simp; rfl) (by go_simp)
attribute [local go_sem high] eqA28
def incunableref03_Same.l0 : Nat → List (S28) → List (S28) → Int → Option (Bool)
 | 0, _, _, _ => none
 | k + 1, x0, x1, x5 => if x5 < (x0.length : Int) then (if 0 ≤ x5 then (if x5 < (x1.length : Int) then (if (!(((rd_T28 x0 x5).f0) == ((rd_T28 x1 x5).f0)) || (!(((rd_T28 x0 x5).f1) == ((rd_T28 x1 x5).f1)))) = true then (some false) else (incunableref03_Same.l0 k x0 x1 (wrap64 (x5 + 1)))) else (none)) else (none)) else (some true)
def incunableref03_Same.f (k : Nat) (l0 : List (S28)) (l1 : List (S28)) : Option (Bool) := if (l0.length : Int) = (l1.length : Int) then (incunableref03_Same.l0 k l0 l1 0) else (some false)
theorem incunableref03_Same.mono_l : ∀ k, (∀ y0 y1 y2, LeO (incunableref03_Same.l0 k y0 y1 y2) (incunableref03_Same.l0 (k + 1) y0 y1 y2))
 | 0 => fun _ _ _ r h => by simp [incunableref03_Same.l0] at h
 | k + 1 => by
   have ih0 := incunableref03_Same.mono_l k
   · intro y0 y1 y2
     unfold incunableref03_Same.l0
     repeat' first
     | (with_reducible exact ih0 _ _ _)
     | (with_reducible exact LeO.refl _)
     | (with_reducible exact LeO.none _)
     | (with_reducible refine LeO.ite ?_ ?_)
     | (with_reducible refine LeO.bind ?_ (fun _ => ?_))
     | exact ih0 _ _ _
     | exact LeO.none _
     | refine LeO.ite ?_ ?_
     | refine LeO.bind ?_ (fun _ => ?_)
theorem incunableref03_Same.mono : ∀ a0 a1 k, LeO (incunableref03_Same.f k a0 a1) (incunableref03_Same.f (k + 1) a0 a1) := by
 intro a0 a1 k; have ih0 := incunableref03_Same.mono_l k; unfold incunableref03_Same.f
 repeat' first
  | (with_reducible exact ih0 _ _ _)
  | (with_reducible exact LeO.refl _)
  | (with_reducible exact LeO.none _)
  | (with_reducible refine LeO.ite ?_ ?_)
  | (with_reducible refine LeO.bind ?_ (fun _ => ?_))
  | exact ih0 _ _ _
  | exact LeO.none _
  | refine LeO.ite ?_ ?_
  | refine LeO.bind ?_ (fun _ => ?_)
set_option maxHeartbeats 8000000 in
set_option maxRecDepth 100000 in
theorem incunableref03_Same.calls (k : Nat) (A0 : Option Addr) (c0 : Nat) (l0 : List (S28)) (A1 : Option Addr) (c1 : Nat) (l1 : List (S28)) (r : Bool) (w : World) (hr0 : Kd.C k28 w A0 l0.length l0) (hc0 : l0.length ≤ c0) (hr1 : Kd.C k28 w A1 l1.length l1) (hc1 : l1.length ≤ c1) (h : incunableref03_Same.f k l0 l1 = some r) :
 Calls Try.prog 11 #[.slice A0 l0.length c0, .slice A1 l1.length c1] w fun e w' => e = .returned (.bool r) ∧ Drawn0 w w' := by
 have hu28 := Try.underlying28; have HR0 := A' hr0; have HC0 := A' hc0; clear hr0 hc0; have HR1 := A' hr1; have HC1 := A' hc1; clear hr1 hc1; have H : (if (l0.length : Int) = (l1.length : Int) then (incunableref03_Same.l0 k l0 l1 0) else (some false)) = some r := h; clear h; by_cases c3 : (l0.length : Int) = (l1.length : Int)
 · rw [if_pos c3] at H
   have c3b0 : ((l0.length : Int) == (l1.length : Int)) = true := beq_iff_eq.mpr c3; have c3b1 : ((l0.length : Int) != (l1.length : Int)) = false := bne_eq_false_iff_eq.mpr c3; (have c3b2 : (l0.length == l1.length) = true := by first | simpa using c3 | (simp at c3 ⊢; omega)); clear c3; have H' := A' H; clear H; go_enter Try.func11, Try.ntmps11; go_wp2; (repeat (go_quiet (fail); try go_wp2)); go_loopg [5] k (fun kq v5 w' => ∃ (x5_1 : Int), v5 = .int .i64 x5_1 ∧ Aside0 (incunableref03_Same.l0 kq l0 l1 x5_1 = some r) ∧ Aside0 (kq ≤ k) ∧ Drawn0 w w'); (case atStart => exact ⟨(0), (by first | rfl | (simp; done) | (simp [*]; done)), H', ⟨Nat.le_refl _⟩, by repeat (first | exact Drawn0.refl _ | apply Drawn0.step)⟩)
   case round =>
    clear H'; (try clear c1); (try clear p2); (try clear c3); (try clear c3b0); (try clear c3b1); (try clear c3b2); obtain ⟨x5_1, rfl, HA, HK1, ⟨m1, rfl⟩⟩ := hrel
    cases gk with
    | zero => exact absurd HA.out (by simp [incunableref03_Same.l0])
    | succ k1 =>
     have H := HA.out; clear HA; simp only [incunableref03_Same.l0] at H; by_cases c4 : x5_1 < (l0.length : Int)
     (· rw [if_pos c4] at H; have c4b0 : decide (x5_1 < (l0.length : Int)) = true := decide_eq_true c4; clear c4; by_cases c5 : 0 ≤ x5_1; (· rw [if_pos c5] at H; have c5b0 : decide (0 ≤ x5_1) = true := decide_eq_true c5; clear c5; by_cases c6 : x5_1 < (l1.length : Int); (· rw [if_pos c6] at H; have c6b0 : decide (x5_1 < (l1.length : Int)) = true := decide_eq_true c6; clear c6; by_cases c7 : (!(((rd_T28 l0 x5_1).f0) == ((rd_T28 l1 x5_1).f0)) || (!(((rd_T28 l0 x5_1).f1) == ((rd_T28 l1 x5_1).f1)))) = true; (· rw [if_pos c7] at H; have c7b0 : (!(((rd_T28 l0 x5_1).f0) == ((rd_T28 l1 x5_1).f0)) || (!(((rd_T28 l0 x5_1).f1) == ((rd_T28 l1 x5_1).f1)))) = true := c7; clear c7; obtain rfl := Option.some.inj H; have p116 : 0 ≤ (x5_1 : Int) := of_decide_eq_true (by first | (with_reducible assumption) | assumption); have q116 : x5_1 < (l0.length : Int) := of_decide_eq_true (by first | (with_reducible assumption) | assumption); obtain ⟨ad116, e116, hx116_0, hx116_1⟩ := at_T28 HR0.out x5_1 p116 q116; cases e116; replace p116 := eq_true p116; replace q116 := eq_true q116; have p117 : 0 ≤ (x5_1 : Int) := of_decide_eq_true (by first | (with_reducible assumption) | assumption); have q117 : x5_1 < (l1.length : Int) := of_decide_eq_true (by first | (with_reducible assumption) | assumption); obtain ⟨ad117, e117, hx117_0, hx117_1⟩ := at_T28 HR1.out x5_1 p117 q117; cases e117; replace p117 := eq_true p117; replace q117 := eq_true q117; go_wp2; (repeat (go_quiet (fail); try go_wp2)); go_ret; exact ⟨by first | rfl | (simp; done) | (simp [*]; done), by repeat (first | exact Drawn0.refl _ | apply Drawn0.step)⟩); (· rw [if_neg c7] at H; (have c7b0 : (!(((rd_T28 l0 x5_1).f0) == ((rd_T28 l1 x5_1).f0)) || (!(((rd_T28 l0 x5_1).f1) == ((rd_T28 l1 x5_1).f1)))) = false := by simpa using c7); clear c7; have H' := A' H; clear H; have p116 : 0 ≤ (x5_1 : Int) := of_decide_eq_true (by first | (with_reducible assumption) | assumption); have q116 : x5_1 < (l0.length : Int) := of_decide_eq_true (by first | (with_reducible assumption) | assumption); obtain ⟨ad116, e116, hx116_0, hx116_1⟩ := at_T28 HR0.out x5_1 p116 q116; cases e116; replace p116 := eq_true p116; replace q116 := eq_true q116; have p117 : 0 ≤ (x5_1 : Int) := of_decide_eq_true (by first | (with_reducible assumption) | assumption); have q117 : x5_1 < (l1.length : Int) := of_decide_eq_true (by first | (with_reducible assumption) | assumption); obtain ⟨ad117, e117, hx117_0, hx117_1⟩ := at_T28 HR1.out x5_1 p117 q117; cases e117; replace p117 := eq_true p117; replace q117 := eq_true q117; go_wp2; (repeat (go_quiet (fail); try go_wp2)); go_roundg k1; (case measure => have := HK1.out; omega); (case rel => exact ⟨(wrap64 (x5_1 + 1)), (by first | rfl | (simp; done) | (simp [*]; done)), H', ⟨by have := HK1.out; omega⟩, by repeat (first | exact Drawn0.refl _ | apply Drawn0.step)⟩))); (· rw [if_neg c6] at H; exact absurd H (by simp))); (· rw [if_neg c5] at H; exact absurd H (by simp)))
     (· rw [if_neg c4] at H; have c4b0 : decide (x5_1 < (l0.length : Int)) = false := decide_eq_false c4; clear c4; obtain rfl := Option.some.inj H; go_wp2; (repeat (go_quiet (fail); try go_wp2)); go_ret; exact ⟨by first | rfl | (simp; done) | (simp [*]; done), by repeat (first | exact Drawn0.refl _ | apply Drawn0.step)⟩)
 (· rw [if_neg c3] at H; have c3b0 : ((l0.length : Int) == (l1.length : Int)) = false := beq_eq_false_iff_ne.mpr c3; have c3b1 : ((l0.length : Int) != (l1.length : Int)) = true := bne_iff_ne.mpr c3; (have c3b2 : (l0.length == l1.length) = false := by first | simpa using c3 | (simp at c3 ⊢; omega)); obtain rfl := Option.some.inj H; go_enter Try.func11, Try.ntmps11; go_wp2; (repeat (go_quiet (fail); try go_wp2)); go_ret; exact ⟨by first | rfl | (simp; done) | (simp [*]; done), by repeat (first | exact Drawn0.refl _ | apply Drawn0.step)⟩)
end Go.Proofs.Ytmndieohblpgaaa.U
