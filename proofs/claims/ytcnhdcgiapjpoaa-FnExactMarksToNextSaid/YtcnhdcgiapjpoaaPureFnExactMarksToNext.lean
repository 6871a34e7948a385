/- The law FnExactMarksToNext holds of the printed functions at every argument. No condition beyond what every readable argument meets. -/
import Derived.Test.YtcnhdcgiapjpoaaStmtFnExactMarksToNext
import Derived.Test.YtcnhdcgiapjpoaaBase
set_option linter.unusedSimpArgs false
set_option linter.unusedVariables false
namespace Go.Proofs.Ytcnhdcgiapjpoaa.PureFnExactMarksToNext
open Go.Proofs.Ytcnhdcgiapjpoaa.PFnExactMarksToNext Go.RowKit Go.Proofs.YtcnhdcgiapjpoaaW.PrintWords Go.Proofs.YtcnhdcgiapjpoaaW.PrintLast Go.Proofs.YtcnhdcgiapjpoaaW.PrintMore

open Go.Proofs.Ytcnhdcgiapjpoaa.Base
theorem szS_l (l : List ByteArray) (hb : l.length ≤ 1048576) : ∀ (rest pre : List ByteArray) (left : Int), l = pre ++ rest → 0 ≤ left → left ≤ 1048576 → (∀ s ∈ rest, s.size ≤ 9223372036854775807) →
    ∃ r, Ev (fun k => laws_szStringS.l0 k l left ((pre.length : Nat) : Int)) r ∧ (r < 0 ∨ 0 ≤ r ∧ r ≤ left ∧ ∀ s ∈ rest, s.size ≤ 1048576) := by
  intro rest
  induction rest with
  | nil =>
    intro pre left e h0 h1 _
    refine ⟨left, Ev.step (fun k => by rw [laws_szStringS.l0]) ?_, .inr ⟨h0, Int.le_refl _, by simp⟩⟩
    simp only [ix_end e, if_false]
    exact Ev.now _
  | cons x rest ih =>
    intro pre left e h0 h1 hs
    have hx : rdOf ByteArray.empty l ((pre.length : Nat) : Int) = x := ix_get e
    have hxs := hs x (by simp)
    have hw : wrap64 (left - ((x.size : Nat) : Int)) = left - ((x.size : Nat) : Int) := wrap_id (by omega) (by omega)
    by_cases c : left - ((x.size : Nat) : Int) < 0
    · refine ⟨-1, Ev.step (fun k => by rw [laws_szStringS.l0]) ?_, .inl (by omega)⟩
      simp only [ix_lt e, ix_nn, if_true, hx, hw, c]
      exact Ev.now _
    · obtain ⟨r, hr, h⟩ := ih (pre ++ [x]) (left - ((x.size : Nat) : Int)) (by simp [e]) (by omega) (by omega) (fun s hm => hs s (by simp [hm]))
      refine ⟨r, Ev.step (fun k => by rw [laws_szStringS.l0]) ?_, ?_⟩
      · simp only [ix_lt e, ix_nn, if_true, hx, hw, c, if_false, ix_wrap e (by omega)]
        exact hr
      · rcases h with h | ⟨h2, h3, h4⟩
        · exact .inl h
        · refine .inr ⟨h2, by omega, fun s hm => ?_⟩
          rcases List.mem_cons.1 hm with rfl | hm
          · omega
          · exact h4 s hm
theorem szS_ev (l : List ByteArray) (left : Int) (h0 : 0 ≤ left) (h1 : left ≤ 1048576) (hl : l.length ≤ 9223372036854775807) (hs : ∀ s ∈ l, s.size ≤ 9223372036854775807) :
    ∃ r, Ev (fun k => laws_szStringS.f k l left) r ∧ (r < 0 ∨ 0 ≤ r ∧ r ≤ left ∧ l.length ≤ 1048576 ∧ ∀ s ∈ l, s.size ≤ 1048576) := by
  unfold laws_szStringS.f
  have hw : wrap64 (left - ((l.length : Nat) : Int)) = left - ((l.length : Nat) : Int) := wrap_id (by omega) (by omega)
  simp only [hw]
  by_cases c : left - ((l.length : Nat) : Int) < 0
  · simp only [c, if_true]
    exact ⟨-1, Ev.now _, .inl (by omega)⟩
  · simp only [c, if_false]
    obtain ⟨r, hr, h⟩ := szS_l l (by omega) l [] (left - ((l.length : Nat) : Int)) rfl (by omega) (by omega) hs
    refine ⟨r, hr, ?_⟩
    rcases h with h | ⟨h2, h3, h4⟩
    · exact .inl h
    · exact .inr ⟨h2, by omega, by omega, h4⟩
theorem toS_l (l : List ByteArray) (z : ByteArray) (hb : l.length ≤ 1048576) : ∀ (rest pre : List ByteArray), l = pre ++ rest →
    Ev (fun k => laws_toStringS.l0 k l (pre ++ List.replicate rest.length z) ((pre.length : Nat) : Int)) l := by
  intro rest
  induction rest with
  | nil =>
    intro pre e
    refine Ev.step (fun k => by rw [laws_toStringS.l0]) ?_
    simp only [ix_end e, if_false]
    exact Ev.ret (fun _ => by simp [e])
  | cons x rest ih =>
    intro pre e
    have h1 := ih (pre ++ [x]) (by simp [e])
    refine Ev.step (fun k => by rw [laws_toStringS.l0]) ?_
    have hx : rdOf ByteArray.empty l ((pre.length : Nat) : Int) = x := ix_get e
    have hs : (pre ++ List.replicate (x :: rest).length z).set ((pre.length : Nat) : Int).toNat x = (pre ++ [x]) ++ List.replicate rest.length z := by
      simp only [List.length_cons, List.replicate_succ, Int.toNat_natCast]
      exact set_mid _ _ _ _ _ rfl
    have hl : ((pre.length : Nat) : Int) < (((pre ++ List.replicate (x :: rest).length z).length : Nat) : Int) := by
      simp
      omega
    simp only [ix_lt e, ix_nn, if_true, hl, hx, hs, ix_wrap e (by omega)]
    exact h1
theorem toS_ev (l : List ByteArray) (hb : l.length ≤ 1048576) : Ev (fun k => laws_toStringS.f k l) l := by
  unfold laws_toStringS.f
  have h0 : (0 : Int) ≤ ((l.length : Nat) : Int) := Int.natCast_nonneg _
  have h1 : l.length ≤ 17592186044416 := by omega
  simp only [h0, if_true, Int.toNat_natCast, h1]
  exact toS_l l _ hb l [] rfl
theorem eqS_l (l : List ByteArray) (hb : l.length ≤ 1048576) : ∀ (rest pre : List ByteArray), l = pre ++ rest → Ev (fun k => laws_eqStringS.l0 k l l ((pre.length : Nat) : Int)) true := by
  intro rest
  induction rest with
  | nil =>
    intro pre e
    refine Ev.step (fun k => by rw [laws_eqStringS.l0]) ?_
    simp only [ix_end e, if_false]
    exact Ev.now _
  | cons x rest ih =>
    intro pre e
    have h1 := ih (pre ++ [x]) (by simp [e])
    refine Ev.step (fun k => by rw [laws_eqStringS.l0]) ?_
    simp only [ix_lt e, ix_nn, if_true, ix_wrap e (by omega)]
    exact h1
theorem eqS_ev (l : List ByteArray) (hb : l.length ≤ 1048576) : Ev (fun k => laws_eqStringS.f k l l) true := by
  unfold laws_eqStringS.f
  simp only [if_true]
  exact eqS_l l hb l [] rfl

def Small (l : List (List ByteArray)) : Prop := l.length ≤ 1048576 ∧ ∀ x ∈ l, x.length ≤ 1048576 ∧ ∀ s ∈ x, s.size ≤ 1048576
theorem szSS_l (l : List (List ByteArray)) (hb : l.length ≤ 1048576) : ∀ (rest pre : List (List ByteArray)) (left : Int), l = pre ++ rest → 0 ≤ left → left ≤ 1048576 → (∀ x ∈ rest, x.length ≤ 9223372036854775807 ∧ ∀ s ∈ x, s.size ≤ 9223372036854775807) →
    ∃ r, Ev (fun k => laws_szStringSS.l0 k l left ((pre.length : Nat) : Int)) r ∧ (r < 0 ∨ 0 ≤ r ∧ r ≤ left ∧ ∀ x ∈ rest, x.length ≤ 1048576 ∧ ∀ s ∈ x, s.size ≤ 1048576) := by
  intro rest
  induction rest with
  | nil =>
    intro pre left e h0 h1 _
    refine ⟨left, Ev.step (fun k => by rw [laws_szStringSS.l0]) ?_, .inr ⟨h0, Int.le_refl _, by simp⟩⟩
    simp only [ix_end e, if_false]
    exact Ev.now _
  | cons x rest ih =>
    intro pre left e h0 h1 hs
    have hx : rd_L1 l ((pre.length : Nat) : Int) = x := ix_get e
    obtain ⟨hx1, hx2⟩ := hs x (by simp)
    obtain ⟨q, hq, hq'⟩ := szS_ev x left h0 h1 hx1 hx2
    rcases hq' with hq' | ⟨hq0, hq1, hq2, hq3⟩
    · refine ⟨-1, Ev.step (fun k => by rw [laws_szStringSS.l0]) ?_, .inl (by omega)⟩
      simp only [ix_lt e, ix_nn, if_true, hx]
      refine Ev.bind hq ?_
      simp only [hq', if_true]
      exact Ev.now _
    · obtain ⟨r, hr, h⟩ := ih (pre ++ [x]) q (by simp [e]) hq0 (by omega) (fun y hm => hs y (by simp [hm]))
      refine ⟨r, Ev.step (fun k => by rw [laws_szStringSS.l0]) ?_, ?_⟩
      · simp only [ix_lt e, ix_nn, if_true, hx]
        refine Ev.bind hq ?_
        simp only [show ¬ q < 0 by omega, if_false, ix_wrap e (by omega)]
        exact hr
      · rcases h with h | ⟨h2, h3, h4⟩
        · exact .inl h
        · refine .inr ⟨h2, by omega, fun y hm => ?_⟩
          rcases List.mem_cons.1 hm with rfl | hm
          · exact ⟨hq2, hq3⟩
          · exact h4 y hm
theorem szSS_ev (l : List (List ByteArray)) (left : Int) (h0 : 0 ≤ left) (h1 : left ≤ 1048576) (hl : l.length ≤ 9223372036854775807) (hs : ∀ x ∈ l, (x.length ≤ 9223372036854775807 ∧ ∀ s ∈ x, s.size ≤ 9223372036854775807)) :
    ∃ r, Ev (fun k => laws_szStringSS.f k l left) r ∧ (r < 0 ∨ ¬ r < 0 ∧ 0 ≤ r ∧ r ≤ left ∧ Small l) := by
  unfold laws_szStringSS.f
  have hw : wrap64 (left - ((l.length : Nat) : Int)) = left - ((l.length : Nat) : Int) := wrap_id (by omega) (by omega)
  simp only [hw]
  by_cases c : left - ((l.length : Nat) : Int) < 0
  · simp only [c, if_true]
    exact ⟨-1, Ev.now _, .inl (by omega)⟩
  · simp only [c, if_false]
    obtain ⟨r, hr, h⟩ := szSS_l l (by omega) l [] (left - ((l.length : Nat) : Int)) rfl (by omega) (by omega) hs
    refine ⟨r, hr, ?_⟩
    rcases h with h | ⟨h2, h3, h4⟩
    · exact .inl h
    · exact .inr ⟨by omega, h2, by omega, by omega, h4⟩
theorem toSS_l (l : List (List ByteArray)) (z : List ByteArray) (hb : Small l) : ∀ (rest pre : List (List ByteArray)), l = pre ++ rest →
    Ev (fun k => laws_toStringSS.l0 k l (pre ++ List.replicate rest.length z) ((pre.length : Nat) : Int)) l := by
  intro rest
  induction rest with
  | nil =>
    intro pre e
    refine Ev.step (fun k => by rw [laws_toStringSS.l0]) ?_
    simp only [ix_end e, if_false]
    exact Ev.ret (fun _ => by simp [e])
  | cons x rest ih =>
    intro pre e
    have h1 := ih (pre ++ [x]) (by simp [e])
    refine Ev.step (fun k => by rw [laws_toStringSS.l0]) ?_
    have hx : rd_L1 l ((pre.length : Nat) : Int) = x := ix_get e
    have hs : (pre ++ List.replicate (x :: rest).length z).set ((pre.length : Nat) : Int).toNat x = (pre ++ [x]) ++ List.replicate rest.length z := by
      simp only [List.length_cons, List.replicate_succ, Int.toNat_natCast]
      exact set_mid _ _ _ _ _ rfl
    have hl : ((pre.length : Nat) : Int) < (((pre ++ List.replicate (x :: rest).length z).length : Nat) : Int) := by
      simp
      omega
    have hb1 := hb.1
    simp only [ix_lt e, ix_nn, if_true, hx]
    refine Ev.bind (toS_ev x (hb.2 x (by simp [e])).1) ?_
    simp only [hl, if_true, hs, ix_wrap e (by omega)]
    exact h1
theorem toSS_ev (l : List (List ByteArray)) (hb : Small l) : Ev (fun k => laws_toStringSS.f k l) l := by
  unfold laws_toStringSS.f
  have h0 : (0 : Int) ≤ ((l.length : Nat) : Int) := Int.natCast_nonneg _
  have h1 : l.length ≤ 11728124029610 := by have := hb.1; omega
  simp only [h0, if_true, Int.toNat_natCast, h1]
  exact toSS_l l _ hb l [] rfl
theorem eqSS_l (l : List (List ByteArray)) (hb : Small l) : ∀ (rest pre : List (List ByteArray)), l = pre ++ rest → Ev (fun k => laws_eqStringSS.l0 k l l ((pre.length : Nat) : Int)) true := by
  intro rest
  induction rest with
  | nil =>
    intro pre e
    refine Ev.step (fun k => by rw [laws_eqStringSS.l0]) ?_
    simp only [ix_end e, if_false]
    exact Ev.now _
  | cons x rest ih =>
    intro pre e
    have h1 := ih (pre ++ [x]) (by simp [e])
    refine Ev.step (fun k => by rw [laws_eqStringSS.l0]) ?_
    have hx : rd_L1 l ((pre.length : Nat) : Int) = x := ix_get e
    have hb1 := hb.1
    simp only [ix_lt e, ix_nn, if_true, hx]
    refine Ev.bind (eqS_ev x (hb.2 x (by simp [e])).1) ?_
    simp only [if_true, ix_wrap e (by omega)]
    exact h1
theorem eqSS_ev (l : List (List ByteArray)) (hb : Small l) : Ev (fun k => laws_eqStringSS.f k l l) true := by
  unfold laws_eqStringSS.f
  simp only [if_true]
  exact eqSS_l l hb l [] rfl

theorem l1In_eq (a b c : Int) : spec_l1In.f a b c = some (decide (b ≤ a ∧ a ≤ c)) := by
  unfold spec_l1In.f
  split
  · next h => simp [show b ≤ a from h]
  · next h => simp [show ¬ b ≤ a from h]

theorem within_eq (a b c : Int) : impl_within.f a b c = some (decide (b ≤ a ∧ a ≤ c)) := by
  unfold impl_within.f
  split
  · next h => simp [show b ≤ a from h]
  · next h => simp [show ¬ b ≤ a from h]

theorem plain_eq : ∀ (k : Nat) (s : ByteArray) (a b i : Int), spec_pfLetters.l0 k s a b i = impl_isPlainText.l0 k s a b i := by
  intro k
  induction k with
  | zero => intros; rfl
  | succ k ih => intro s a b i; simp only [spec_pfLetters.l0, impl_isPlainText.l0, ih, l1In_eq, within_eq]
theorem proof_eq : ∀ (k : Nat) (l m : List ByteArray) (n i : Int), spec_pfGood.l0 k l m n i = impl_IsProof.l0 k l m n i := by
  intro k
  induction k with
  | zero => intros; rfl
  | succ k ih =>
    intro l m n i
    have hp : ∀ s, spec_pfLetters.f k s 0 40 = impl_isProofLine.f k s := fun s => by
      unfold spec_pfLetters.f impl_isProofLine.f impl_isPlainText.f
      rw [plain_eq]
      cases impl_isPlainText.l0 k s 0 40 0 <;> rfl
    simp only [spec_pfGood.l0, impl_IsProof.l0, ih, hp, l1In_eq, within_eq]
theorem pf_eq (k : Nat) (l : List ByteArray) : spec_pfGood.f k l = impl_IsProof.f k l := proof_eq k l l _ _
theorem states_eq : ∀ (k : Nat) (l m : List (List ByteArray)) (n i : Int), spec_rvGood.l0 k l m n i = impl_AreStates.l0 k l m n i := by
  intro k
  induction k with
  | zero => intros; rfl
  | succ k ih => intro l m n i; simp only [spec_rvGood.l0, impl_AreStates.l0, ih, pf_eq, l1In_eq, within_eq]
theorem rv_eq (k : Nat) (l : List (List ByteArray)) : spec_rvGood.f k l = impl_AreStates.f k l := states_eq k l l _ _
theorem plain_ex (s : ByteArray) (hs : s.size ≤ 1048576) (a b : Int) : ∀ (d i : Nat), i + d = s.size → ∃ r, Ev (fun k => impl_isPlainText.l0 k s a b ((i : Nat) : Int)) r := by
  intro d
  induction d with
  | zero =>
    intro i h
    refine ⟨decide (a ≤ ((s.size : Nat) : Int) ∧ ((s.size : Nat) : Int) ≤ b), Ev.step (fun k => by rw [impl_isPlainText.l0]) ?_⟩
    simp only [show ¬ ((i : Nat) : Int) < ((s.size : Nat) : Int) by omega, if_false, within_eq, Option.bind_some]
    exact Ev.now _
  | succ d ih =>
    intro i h
    obtain ⟨r, hr⟩ := ih (i + 1) (by omega)
    have h1 : ((i : Nat) : Int) < ((s.size : Nat) : Int) := by omega
    have h2 : (0 : Int) ≤ ((i : Nat) : Int) := by omega
    have h3 : wrap64 (((i : Nat) : Int) + 1) = ((i + 1 : Nat) : Int) := by
      rw [wrap_id (by omega) (by omega)]
      omega
    by_cases c1 : bt s ((i : Nat) : Int) = 32
    · refine ⟨r, Ev.step (fun k => by rw [impl_isPlainText.l0]) ?_⟩
      simp only [h1, h2, h3, if_true, c1]
      exact hr
    · by_cases c2 : bt s ((i : Nat) : Int) < 97
      · refine ⟨false, Ev.step (fun k => by rw [impl_isPlainText.l0]) ?_⟩
        simp only [h1, h2, if_true, c1, c2, if_false]
        exact Ev.now _
      · by_cases c3 : bt s ((i : Nat) : Int) > 122
        · refine ⟨false, Ev.step (fun k => by rw [impl_isPlainText.l0]) ?_⟩
          simp only [h1, h2, if_true, c1, c2, c3, if_false]
          exact Ev.now _
        · refine ⟨r, Ev.step (fun k => by rw [impl_isPlainText.l0]) ?_⟩
          simp only [h1, h2, h3, if_true, c1, c2, c3, if_false]
          exact hr
theorem proof_l (l : List ByteArray) (hb : l.length ≤ 1048576) (hs : ∀ s ∈ l, s.size ≤ 1048576) : ∀ (rest pre : List ByteArray), l = pre ++ rest →
    ∃ r, Ev (fun k => impl_IsProof.l0 k l l ((l.length : Nat) : Int) ((pre.length : Nat) : Int)) r ∧ (r = true → 1 ≤ l.length ∧ l.length ≤ 12) := by
  intro rest
  induction rest with
  | nil =>
    intro pre e
    refine ⟨decide (1 ≤ ((l.length : Nat) : Int) ∧ ((l.length : Nat) : Int) ≤ 12), Ev.step (fun k => by rw [impl_IsProof.l0]) ?_, fun h => ?_⟩
    · simp only [ix_end e, if_false, within_eq, Option.bind_some]
      exact Ev.now _
    · have := of_decide_eq_true h
      omega
  | cons x rest ih =>
    intro pre e
    obtain ⟨r, hr, hp⟩ := ih (pre ++ [x]) (by simp [e])
    have hx : rdOf ByteArray.empty l ((pre.length : Nat) : Int) = x := ix_get e
    obtain ⟨q, hq⟩ := plain_ex x (hs x (by simp [e])) 0 40 x.size 0 (by omega)
    have hq' : Ev (fun k => impl_isProofLine.f k x) q := by
      unfold impl_isProofLine.f impl_isPlainText.f
      exact Ev.bind hq (Ev.now _)
    cases q with
    | true =>
      refine ⟨r, Ev.step (fun k => by rw [impl_IsProof.l0]) ?_, hp⟩
      simp only [ix_lt e, ix_nn, if_true, hx, ix_wrap e (by omega)]
      exact Ev.bind hq' (by simpa using hr)
    | false =>
      refine ⟨false, Ev.step (fun k => by rw [impl_IsProof.l0]) ?_, by simp⟩
      simp only [ix_lt e, ix_nn, if_true, hx]
      exact Ev.bind hq' (Ev.ret (fun _ => by simp))
theorem proof_ex (l : List ByteArray) (hb : l.length ≤ 1048576) (hs : ∀ s ∈ l, s.size ≤ 1048576) : ∃ r, Ev (fun k => impl_IsProof.f k l) r ∧ (r = true → 1 ≤ l.length ∧ l.length ≤ 12) := proof_l l hb hs l [] rfl
theorem states_l (l : List (List ByteArray)) (hb : Small l) : ∀ (rest pre : List (List ByteArray)), l = pre ++ rest →
    ∃ r, Ev (fun k => impl_AreStates.l0 k l l ((l.length : Nat) : Int) ((pre.length : Nat) : Int)) r ∧ (r = true → 1 ≤ l.length ∧ l.length ≤ 6 ∧ ∀ x ∈ rest, 1 ≤ x.length ∧ x.length ≤ 12 ∧ x.length = (l.getD 0 []).length) := by
  have hb1 := hb.1
  intro rest
  induction rest with
  | nil =>
    intro pre e
    refine ⟨decide (1 ≤ ((l.length : Nat) : Int) ∧ ((l.length : Nat) : Int) ≤ 6), Ev.step (fun k => by rw [impl_AreStates.l0]) ?_, fun h => ?_⟩
    · simp only [ix_end e, if_false, within_eq, Option.bind_some]
      exact Ev.now _
    · have := of_decide_eq_true h
      exact ⟨by omega, by omega, by simp⟩
  | cons x rest ih =>
    intro pre e
    obtain ⟨r, hr, hp⟩ := ih (pre ++ [x]) (by simp [e])
    have hx : rd_L1 l ((pre.length : Nat) : Int) = x := ix_get e
    obtain ⟨hx1, hx2⟩ := hb.2 x (by simp [e])
    obtain ⟨q, hq, hq'⟩ := proof_ex x hx1 hx2
    have hpos : (0 : Int) < ((l.length : Nat) : Int) := by
      have := ix_lt e
      omega
    cases q with
    | false =>
      refine ⟨false, Ev.step (fun k => by rw [impl_AreStates.l0]) ?_, by simp⟩
      simp only [ix_lt e, ix_nn, if_true, hx]
      exact Ev.bind hq (Ev.ret (fun _ => by simp))
    | true =>
      by_cases c : ((x.length : Nat) : Int) = (((rd_L1 l 0).length : Nat) : Int)
      · refine ⟨r, Ev.step (fun k => by rw [impl_AreStates.l0]) ?_, fun h => ?_⟩
        · simp only [ix_lt e, ix_nn, if_true, hx]
          refine Ev.bind hq ?_
          simp only [hpos, if_true, c, ix_wrap e (by omega)]
          exact hr
        · obtain ⟨p1, p2, p3⟩ := hp h
          refine ⟨p1, p2, fun y hy => ?_⟩
          rcases List.mem_cons.1 hy with rfl | hy
          · obtain ⟨q1, q2⟩ := hq' rfl
            refine ⟨q1, q2, ?_⟩
            have : (rd_L1 l 0).length = (l.getD 0 []).length := rfl
            omega
          · exact p3 y hy
      · refine ⟨false, Ev.step (fun k => by rw [impl_AreStates.l0]) ?_, by simp⟩
        simp only [ix_lt e, ix_nn, if_true, hx]
        refine Ev.bind hq ?_
        simp only [hpos, if_true, c, if_false]
        exact Ev.now _
theorem states_ex (l : List (List ByteArray)) (hb : Small l) : ∃ r, Ev (fun k => impl_AreStates.f k l) r ∧ Ev (fun k => spec_rvGood.f k l) r ∧
    (r = true → 1 ≤ l.length ∧ l.length ≤ 6 ∧ ∀ x ∈ l, 1 ≤ x.length ∧ x.length ≤ 12 ∧ x.length = (l.getD 0 []).length) := by
  obtain ⟨r, h1, h2⟩ := states_l l hb l [] rfl
  exact ⟨r, h1, Ev.congr (fun k => rv_eq k l) h1, h2⟩

theorem markText_l : ∀ (n : Nat) (s : ByteArray), s.size + n ≤ 4503599627370496 → ∃ t, Ev (fun k => laws_markText.l0 k (n : Int) s) t := by
  intro n
  induction n using Nat.strongRecOn with
  | ind n ih =>
    intro s hs
    by_cases c : ((n : Nat) : Int) > 0
    · have hd : wrap64 (Int.tdiv ((n : Nat) : Int) 10) = ((n / 10 : Nat) : Int) := by
        rw [Int.tdiv_eq_ediv_of_nonneg (by omega)]
        have : ((n : Nat) : Int) / 10 = ((n / 10 : Nat) : Int) := by omega
        rw [this]
        exact wrap_id (by omega) (by omega)
      have hsz : (strOfNums ([(wrap64 (48 + (Int.tmod ((n : Nat) : Int) 10))) % 256] : List Int)).size = 1 := by simp [strOfNums_size]
      obtain ⟨t, ht⟩ := ih (n / 10) (by omega) (strOfNums ([(wrap64 (48 + (Int.tmod ((n : Nat) : Int) 10))) % 256] : List Int) ++ s) (by rw [ByteArray.size_append, hsz]; omega)
      refine ⟨t, Ev.step (fun k => by rw [laws_markText.l0]) ?_⟩
      have hle : (strOfNums ([(wrap64 (48 + (Int.tmod ((n : Nat) : Int) 10))) % 256] : List Int)).size + s.size ≤ 9223372036854775807 := by rw [hsz]; omega
      simp only [c, if_true, Option.bind_some, hle, hd]
      exact ht
    · refine ⟨(⟨#[109]⟩ : ByteArray) ++ s, Ev.step (fun k => by rw [laws_markText.l0]) ?_⟩
      have hle : 1 + s.size ≤ 9223372036854775807 := by omega
      simp only [c, if_false, hle, if_true]
      exact Ev.now _
theorem markText_ev (a : Int) (h0 : 0 ≤ a) (h1 : a ≤ 2251799813685248) : ∃ t, Ev (fun k => laws_markText.f k a) t := by
  unfold laws_markText.f
  by_cases c : a ≤ 0
  · simp only [c, if_true]
    exact ⟨_, Ev.now _⟩
  · simp only [c, if_false]
    have := markText_l a.toNat (⟨#[]⟩ : ByteArray) (by simp [ByteArray.size]; omega)
    rwa [Int.toNat_of_nonneg h0] at this
theorem markS_l : ∀ (d i : Nat) (l : List ByteArray) (a : Int), l.length ≤ 1048576 → i + d = l.length → 0 ≤ a → a + d ≤ 2251799813685248 → ∃ y : List ByteArray, y.length = l.length ∧ Ev (fun k => laws_markStringS.l0 k l a ((i : Nat) : Int)) (a + d, y) := by
  intro d
  induction d with
  | zero =>
    intro i l a hl hi _ _
    refine ⟨l, rfl, Ev.step (fun k => by rw [laws_markStringS.l0]) ?_⟩
    simp only [show ¬ ((i : Nat) : Int) < ((l.length : Nat) : Int) by omega, if_false]
    exact Ev.ret (fun _ => by simp)
  | succ d ih =>
    intro i l a hl hi h0 h1
    obtain ⟨t, ht⟩ := markText_ev a h0 (by omega)
    have c1 : ((i : Nat) : Int) < ((l.length : Nat) : Int) := by omega
    have c2 : (0 : Int) ≤ ((i : Nat) : Int) := by omega
    have w1 : wrap64 (a + 1) = a + 1 := wrap_id (by omega) (by omega)
    have w3 : wrap64 (((i : Nat) : Int) + 1) = ((i + 1 : Nat) : Int) := by
      rw [wrap_id (by omega) (by omega)]
      omega
    obtain ⟨y, hyl, hy⟩ := ih (i + 1) (l.set ((i : Nat) : Int).toNat t) (a + 1) (by simpa using hl) (by simp; omega) (by omega) (by omega)
    refine ⟨y, by simpa using hyl, Ev.step (fun k => by rw [laws_markStringS.l0]) ?_⟩
    simp only [c1, if_true]
    refine Ev.bind ht ?_
    simp only [c2, if_true, w1, w3]
    rw [show a + ((d + 1 : Nat) : Int) = a + 1 + (d : Int) by omega]
    exact hy
theorem markS_ev (l : List ByteArray) (a : Int) (hl : l.length ≤ 1048576) (h0 : 0 ≤ a) (h1 : a ≤ 1125899906842624) : ∃ y : List ByteArray, y.length = l.length ∧ Ev (fun k => laws_markStringS.f k l a) (a + l.length, y) :=
  markS_l l.length 0 l a hl (by omega) h0 (by omega)

theorem markSS_l : ∀ (d i : Nat) (l : List (List ByteArray)) (a : Int), l.length ≤ 1048576 → (∀ x ∈ l, x.length ≤ 1048576) → i + d = l.length → 0 ≤ a → a + d * 1048576 ≤ 1125899906842624 → ∃ r, Ev (fun k => laws_markStringSS.l0 k l a ((i : Nat) : Int)) r ∧ 0 ≤ r ∧ r ≤ a + d * 1048576 := by
  intro d
  induction d with
  | zero =>
    intro i l a hl _ hi h0 _
    refine ⟨a, Ev.step (fun k => by rw [laws_markStringSS.l0]) ?_, h0, by omega⟩
    simp only [show ¬ ((i : Nat) : Int) < ((l.length : Nat) : Int) by omega, if_false]
    exact Ev.now _
  | succ d ih =>
    intro i l a hl hx hi h0 h1
    have hlt : i < l.length := by omega
    have hrd : laws_markStringSS.rd l ((i : Nat) : Int) = l[i] := by
      unfold laws_markStringSS.rd
      rw [Int.toNat_natCast, List.getD_eq_getElem?_getD, List.getElem?_eq_getElem hlt]
      rfl
    have hxi := hx l[i] (List.getElem_mem _)
    obtain ⟨y, hyl, hy⟩ := markS_ev l[i] a hxi h0 (by omega)
    have c1 : ((i : Nat) : Int) < ((l.length : Nat) : Int) := by omega
    have c2 : (0 : Int) ≤ ((i : Nat) : Int) := by omega
    have w3 : wrap64 (((i : Nat) : Int) + 1) = ((i + 1 : Nat) : Int) := by
      rw [wrap_id (by omega) (by omega)]
      omega
    obtain ⟨r, hr, hr0, hr1⟩ := ih (i + 1) (l.set ((i : Nat) : Int).toNat y) (a + (l[i]).length) (by simpa using hl)
      (fun z hz => by
        rcases List.mem_or_eq_of_mem_set hz with h | rfl
        · exact hx z h
        · omega) (by simp; omega) (by omega) (by omega)
    refine ⟨r, Ev.step (fun k => by rw [laws_markStringSS.l0]) ?_, hr0, by omega⟩
    simp only [c1, c2, if_true, hrd]
    refine Ev.bind hy ?_
    simp only [w3]
    exact hr
theorem markSS_ev (l : List (List ByteArray)) (a : Int) (hb : Small l) (h0 : 0 ≤ a) (h1 : a ≤ 4398046511104) : ∃ r, Ev (fun k => laws_markStringSS.f k l a) r ∧ 0 ≤ r ∧ r ≤ a + 1099511627776 := by
  have hb1 := hb.1
  obtain ⟨r, hr, h2, h3⟩ := markSS_l l.length 0 l a hb.1 (fun x hx => (hb.2 x hx).1) (by omega) h0 (by omega)
  exact ⟨r, hr, h2, by omega⟩

/-! the law's own loops over marks of correction -/
theorem eqK_l (l : List S68) (hb : l.length ≤ 1048576) : ∀ (rest pre : List S68), l = pre ++ rest → Ev (fun k => laws_eqMarkS.l0 k l l ((pre.length : Nat) : Int)) true := by
  intro rest
  induction rest with
  | nil =>
    intro pre e
    refine Ev.step (fun k => by rw [laws_eqMarkS.l0]) ?_
    simp only [ix_end e, if_false]
    exact Ev.now _
  | cons x rest ih =>
    intro pre e
    have h1 := ih (pre ++ [x]) (by simp [e])
    refine Ev.step (fun k => by rw [laws_eqMarkS.l0]) ?_
    simp only [ix_lt e, ix_nn, if_true, laws_eqMark.f, Option.bind_some, ix_wrap e (by omega)]
    exact h1
theorem eqK_ev (l : List S68) (hb : l.length ≤ 1048576) : Ev (fun k => laws_eqMarkS.f k l l) true := by
  unfold laws_eqMarkS.f
  simp only [if_true]
  exact eqK_l l hb l [] rfl
noncomputable def txt (a : Int) : ByteArray := @Classical.epsilon _ ⟨ByteArray.empty⟩ (fun t => Ev (fun k => laws_markText.f k a) t)
theorem txt_ev (a : Int) (h0 : 0 ≤ a) (h1 : a ≤ 2251799813685248) : Ev (fun k => laws_markText.f k a) (txt a) := @Classical.epsilon_spec_aux _ ⟨ByteArray.empty⟩ _ (markText_ev a h0 h1)
noncomputable def mkK (a : Int) : S68 := ⟨a, a + 1, a + 2, txt (a + 3)⟩
noncomputable def upsK : Nat → Int → List S68
  | 0, _ => []
  | n + 1, a => mkK a :: upsK n (a + 4)
theorem upsK_len : ∀ (n : Nat) (a : Int), (upsK n a).length = n
  | 0, _ => rfl
  | n + 1, a => by simp [upsK, upsK_len n (a + 4)]
theorem getK_mid (pre rest : List S68) (x : S68) : rd_T68 (pre ++ x :: rest) ((pre.length : Nat) : Int) = x := ix_get rfl
theorem markK_l : ∀ (rest pre : List S68) (a : Int), (pre ++ rest).length ≤ 1048576 → 0 ≤ a → a + 4 * rest.length ≤ 8388608 →
    Ev (fun k => laws_markMarkS.l0 k (pre ++ rest) a ((pre.length : Nat) : Int)) (a + 4 * rest.length, pre ++ upsK rest.length a) := by
  intro rest
  induction rest with
  | nil =>
    intro pre a _ _ _
    refine Ev.step (fun k => by rw [laws_markMarkS.l0]) ?_
    simp only [ix_end (rfl : pre ++ [] = pre ++ []), if_false]
    exact Ev.ret (fun _ => by simp [upsK])
  | cons x rest ih =>
    intro pre a hb h0 h1
    have e : pre ++ x :: rest = pre ++ x :: rest := rfl
    simp only [List.length_append, List.length_cons] at hb h1
    have w1 : wrap64 (a + 1) = a + 1 := wrap_id (by omega) (by omega)
    have w2 : wrap64 (a + 1 + 1) = a + 2 := by rw [wrap_id (by omega) (by omega)]; omega
    have w3 : wrap64 (a + 2 + 1) = a + 3 := by rw [wrap_id (by omega) (by omega)]; omega
    have w4 : wrap64 (a + 3 + 1) = a + 4 := by rw [wrap_id (by omega) (by omega)]; omega
    have hs : ∀ (z y : S68), (pre ++ z :: rest).set ((pre.length : Nat) : Int).toNat y = pre ++ y :: rest := fun z y => by
      rw [Int.toNat_natCast, set_mid _ _ _ _ _ rfl]
      simp
    have hi := ih (pre ++ [mkK a]) (a + 4) (by simp; omega) (by omega) (by omega)
    refine Ev.step (fun k => by rw [laws_markMarkS.l0]) ?_
    simp only [ix_lt e, ix_nn, if_true, Option.bind_some, getK_mid, hs, w1, w2, w3, w4, ix_wrap e (by simp; omega)]
    refine Ev.bind (txt_ev (a + 3) (by omega) (by omega)) ?_
    have e2 : (a + 4 * ((x :: rest).length : Nat), pre ++ upsK (x :: rest).length a) = (a + 4 + 4 * (rest.length : Nat), pre ++ [mkK a] ++ upsK rest.length (a + 4)) := by
      simp [upsK]
      omega
    rw [e2]
    have e3 : pre ++ [mkK a] ++ rest = pre ++ mkK a :: rest := by simp
    rw [e3] at hi
    have e4 : (((pre ++ [mkK a]).length : Nat) : Int) = (((pre ++ [x]).length : Nat) : Int) := by simp
    rw [e4] at hi
    exact hi
theorem markK_ev (l : List S68) (hb : l.length ≤ 1048576) : Ev (fun k => laws_markMarkS.f k l 1) (1 + 4 * l.length, upsK l.length 1) := markK_l l [] 1 hb (by omega) (by omega)
theorem heldK_l (l : List S68) (hb : l.length ≤ 1048576) : ∀ (n : Nat) (pre : List S68) (a : Int), l = pre ++ upsK n a → 0 ≤ a → a + 4 * n ≤ 8388608 → Ev (fun k => laws_heldMarkS.l0 k l a ((pre.length : Nat) : Int)) (a + 4 * n) := by
  intro n
  induction n with
  | zero =>
    intro pre a e _ _
    refine Ev.step (fun k => by rw [laws_heldMarkS.l0]) ?_
    simp only [ix_end e, if_false]
    exact Ev.ret (fun _ => by simp)
  | succ n ih =>
    intro pre a e h0 h1
    rw [upsK] at e
    have hx : rd_T68 l ((pre.length : Nat) : Int) = mkK a := ix_get e
    have w1 : wrap64 (a + 1) = a + 1 := wrap_id (by omega) (by omega)
    have w2 : wrap64 (a + 1 + 1) = a + 2 := by rw [wrap_id (by omega) (by omega)]; omega
    have w3 : wrap64 (a + 2 + 1) = a + 3 := by rw [wrap_id (by omega) (by omega)]; omega
    have w4 : wrap64 (a + 3 + 1) = a + 4 := by rw [wrap_id (by omega) (by omega)]; omega
    have hi := ih (pre ++ [mkK a]) (a + 4) (by simp [e]) (by omega) (by omega)
    refine Ev.step (fun k => by rw [laws_heldMarkS.l0]) ?_
    simp only [ix_lt e, ix_nn, if_true, hx, mkK, w1, w2, w3, w4, ix_wrap e (by omega)]
    refine Ev.bind (txt_ev (a + 3) (by omega) (by omega)) ?_
    simp only [if_true]
    rw [show a + 4 * ((n + 1 : Nat) : Int) = a + 4 + 4 * (n : Int) by omega]
    exact hi
theorem heldK_ev (n : Nat) (hb : n ≤ 1048576) : Ev (fun k => laws_heldMarkS.f k (upsK n 1) 1) (1 + 4 * n) := heldK_l (upsK n 1) (by rw [upsK_len]; exact hb) n [] 1 rfl (by omega) (by omega)
/-! marks of a proof -/
def TextsOk (y : List S68) : Prop := ∀ m ∈ y, m.f3.size ≤ 1048576
theorem letters_eq (k : Nat) (s : ByteArray) (a b : Int) : spec_pfLetters.f k s a b = impl_isPlainText.f k s a b := plain_eq k s a b 0
theorem alone_eq1 : ∀ (k : Nat) (c : Int) (f : Bool) (x y z : Int) (t : ByteArray), spec_pfMark.j1 k c f x y z t = impl_isMarkAlone.j1 k c f x y z t := by
  intro k
  cases k with
  | zero => intros; rfl
  | succ k => intros; simp only [spec_pfMark.j1, impl_isMarkAlone.j1, letters_eq]
theorem alone_eq0 : ∀ (k : Nat) (f : Bool) (x y z : Int) (t : ByteArray), spec_pfMark.j0 k f x y z t = impl_isMarkAlone.j0 k f x y z t := by
  intro k
  cases k with
  | zero => intros; rfl
  | succ k => intros; simp only [spec_pfMark.j0, impl_isMarkAlone.j0, alone_eq1]
theorem alone_eq (k : Nat) (x y z : Int) (t : ByteArray) : spec_pfMark.f k x y z t = impl_isMarkAlone.f k x y z t := by
  simp only [spec_pfMark.f, impl_isMarkAlone.f, l1In_eq, within_eq, alone_eq0]
theorem plainF_ex (s : ByteArray) (hs : s.size ≤ 1048576) (a b : Int) : ∃ r, Ev (fun k => impl_isPlainText.f k s a b) r := plain_ex s hs a b s.size 0 (by omega)
theorem alone_ex (x y z : Int) (t : ByteArray) (ht : t.size ≤ 1048576) : ∃ r, Ev (fun k => impl_isMarkAlone.f k x y z t) r ∧ (r = true → 0 ≤ x) := by
  obtain ⟨q, hq⟩ := plainF_ex t ht 1 10
  have h1 : ∀ (c : Int) (f : Bool), ∃ r, Ev (fun k => impl_isMarkAlone.j1 k c f x y z t) r := fun c f => by
    cases f with
    | true => exact ⟨_, Ev.step (fun k => by rw [impl_isMarkAlone.j1]) (by simp only [if_true]; exact Ev.now _)⟩
    | false =>
      by_cases c2 : c = 2
      · exact ⟨q, Ev.step (fun k => by rw [impl_isMarkAlone.j1]) (by simp only [Bool.false_eq_true, if_false, c2, if_true]; exact Ev.bind hq (Ev.now _))⟩
      · by_cases c3 : c = 3
        · exact ⟨q, Ev.step (fun k => by rw [impl_isMarkAlone.j1]) (by simp only [Bool.false_eq_true, if_false, c2, c3, if_true]; exact Ev.bind hq (Ev.now _))⟩
        · exact ⟨false, Ev.step (fun k => by rw [impl_isMarkAlone.j1]) (by simp only [Bool.false_eq_true, if_false, c2, c3]; exact Ev.now _)⟩
  have h0 : ∀ (f : Bool), ∃ r, Ev (fun k => impl_isMarkAlone.j0 k f x y z t) r ∧ (f = true → r = false) := fun f => by
    cases f with
    | true => exact ⟨false, Ev.step (fun k => by rw [impl_isMarkAlone.j0]) (by simp only [if_true]; exact Ev.now _), fun _ => rfl⟩
    | false =>
      by_cases c1 : z = 1
      · obtain ⟨r, hr⟩ := h1 z (z == 1)
        exact ⟨r, Ev.step (fun k => by rw [impl_isMarkAlone.j0]) (by simp only [Bool.false_eq_true, if_false, c1, if_true] at hr ⊢; exact hr), by simp⟩
      · obtain ⟨r, hr⟩ := h1 z (z == 4)
        exact ⟨r, Ev.step (fun k => by rw [impl_isMarkAlone.j0]) (by simp only [Bool.false_eq_true, if_false, c1]; exact hr), by simp⟩
  unfold impl_isMarkAlone.f
  simp only [within_eq, Option.bind_some]
  by_cases c : (0 : Int) ≤ x ∧ x ≤ 11
  · simp only [c, and_self, decide_true, if_true]
    obtain ⟨r, hr, _⟩ := h0 (!decide ((0 : Int) ≤ y ∧ y ≤ 40))
    exact ⟨r, hr, fun _ => trivial⟩
  · simp only [c, decide_false, Bool.false_eq_true, if_false]
    obtain ⟨r, hr, hf⟩ := h0 true
    exact ⟨r, hr, fun h => by rw [hf rfl] at h; cases h⟩
theorem areMarks_l (lines : List ByteArray) (hl : lines.length ≤ 1048576) (hs : ∀ s ∈ lines, s.size ≤ 1048576) (l : List S68) (hb : l.length ≤ 1048576) (ht : TextsOk l) : ∀ (rest pre : List S68), l = pre ++ rest →
    ∃ r, Ev (fun k => spec_pfMarks.l0 k lines l l ((l.length : Nat) : Int) ((pre.length : Nat) : Int)) r ∧ Ev (fun k => impl_AreMarks.l0 k lines l l ((l.length : Nat) : Int) ((pre.length : Nat) : Int)) r := by
  intro rest
  induction rest with
  | nil =>
    intro pre e
    obtain ⟨q, hq, _⟩ := proof_ex lines hl hs
    have hq' : Ev (fun k => spec_pfGood.f k lines) q := Ev.congr (fun k => pf_eq k lines) hq
    refine ⟨if q = true then decide (((l.length : Nat) : Int) ≤ 20) else false, Ev.step (fun k => by rw [spec_pfMarks.l0]) ?_, Ev.step (fun k => by rw [impl_AreMarks.l0]) ?_⟩
    · simp only [ix_end e, if_false]
      exact Ev.bind hq' (Ev.ret (fun _ => by cases q <;> rfl))
    · simp only [ix_end e, if_false]
      exact Ev.bind hq (Ev.ret (fun _ => by cases q <;> rfl))
  | cons x rest ih =>
    intro pre e
    obtain ⟨b, hb1, hb2⟩ := ih (pre ++ [x]) (by simp [e])
    have hx : rd_T68 l ((pre.length : Nat) : Int) = x := ix_get e
    obtain ⟨r, hr, hr0⟩ := alone_ex x.f0 x.f1 x.f2 x.f3 (ht x (by simp [e]))
    have hr' : Ev (fun k => spec_pfMark.f k x.f0 x.f1 x.f2 x.f3) r := Ev.congr (fun k => alone_eq k _ _ _ _) hr
    have fs : Ev (fun k => spec_pfMarks.j1 k lines l l ((l.length : Nat) : Int) ((pre.length : Nat) : Int) true x.f0 x.f1 x.f2 x.f3) false :=
      Ev.step (fun k => by rw [spec_pfMarks.j1]) (by simp only [if_true]; exact Ev.now _)
    have fi : Ev (fun k => impl_AreMarks.j1 k lines l l ((l.length : Nat) : Int) ((pre.length : Nat) : Int) true x.f0 x.f1 x.f2 x.f3) false :=
      Ev.step (fun k => by rw [impl_AreMarks.j1]) (by simp only [if_true]; exact Ev.now _)
    cases r with
    | false =>
      refine ⟨false, Ev.step (fun k => by rw [spec_pfMarks.l0]) ?_, Ev.step (fun k => by rw [impl_AreMarks.l0]) ?_⟩
      · simp only [ix_lt e, ix_nn, if_true, hx]
        exact Ev.bind hr' (by simp only [Bool.false_eq_true, if_false]; exact fs)
      · simp only [ix_lt e, ix_nn, if_true, hx]
        exact Ev.bind hr (by simp only [Bool.false_eq_true, if_false]; exact fi)
    | true =>
      have h0 := hr0 rfl
      by_cases c : x.f0 ≥ ((lines.length : Nat) : Int)
      · refine ⟨false, Ev.step (fun k => by rw [spec_pfMarks.l0]) ?_, Ev.step (fun k => by rw [impl_AreMarks.l0]) ?_⟩
        · simp only [ix_lt e, ix_nn, if_true, hx]
          exact Ev.bind hr' (by simp only [if_true, c]; exact fs)
        · simp only [ix_lt e, ix_nn, if_true, hx]
          exact Ev.bind hr (by simp only [if_true, c, decide_true]; exact fi)
      · have c' : x.f0 < ((lines.length : Nat) : Int) := by omega
        by_cases cg : x.f1 > (((rdOf ByteArray.empty lines x.f0).size : Nat) : Int)
        · refine ⟨false, Ev.step (fun k => by rw [spec_pfMarks.l0]) ?_, Ev.step (fun k => by rw [impl_AreMarks.l0]) ?_⟩
          · simp only [ix_lt e, ix_nn, if_true, hx]
            exact Ev.bind hr' (by simp only [if_true, c, c', h0, if_false, cg, decide_true]; exact fs)
          · simp only [ix_lt e, ix_nn, if_true, hx]
            refine Ev.bind hr ?_
            simp only [if_true, c, decide_false]
            refine Ev.step (fun k => by rw [impl_AreMarks.j1]) ?_
            simp only [Bool.false_eq_true, if_false, h0, c', if_true, cg]
            exact Ev.now _
        · have hs1 : ∀ r, (Ev (fun k => if x.f1 = (((rdOf ByteArray.empty lines x.f0).size : Nat) : Int) then (if x.f2 = 1 then some false else (if x.f2 = 3 then some false else (spec_pfMarks.l0 k lines l l ((l.length : Nat) : Int) (wrap64 (((pre.length : Nat) : Int) + 1))))) else (spec_pfMarks.l0 k lines l l ((l.length : Nat) : Int) (wrap64 (((pre.length : Nat) : Int) + 1)))) r) →
              Ev (fun k => spec_pfMarks.l0 k lines l l ((l.length : Nat) : Int) ((pre.length : Nat) : Int)) r := fun r h => by
            refine Ev.step (fun k => by rw [spec_pfMarks.l0]) ?_
            simp only [ix_lt e, ix_nn, if_true, hx]
            refine Ev.bind hr' ?_
            simp only [if_true, c, c', h0, if_false, cg, decide_false]
            refine Ev.step (fun k => by rw [spec_pfMarks.j1]) ?_
            simp only [Bool.false_eq_true, if_false, h0, c', if_true]
            exact h
          have hi1 : ∀ r, (Ev (fun k => if x.f1 = (((rdOf ByteArray.empty lines x.f0).size : Nat) : Int) then (if x.f2 = 1 then some false else (if x.f2 = 3 then some false else (impl_AreMarks.l0 k lines l l ((l.length : Nat) : Int) (wrap64 (((pre.length : Nat) : Int) + 1))))) else (impl_AreMarks.l0 k lines l l ((l.length : Nat) : Int) (wrap64 (((pre.length : Nat) : Int) + 1)))) r) →
              Ev (fun k => impl_AreMarks.l0 k lines l l ((l.length : Nat) : Int) ((pre.length : Nat) : Int)) r := fun r h => by
            refine Ev.step (fun k => by rw [impl_AreMarks.l0]) ?_
            simp only [ix_lt e, ix_nn, if_true, hx]
            refine Ev.bind hr ?_
            simp only [if_true, c, decide_false]
            refine Ev.step (fun k => by rw [impl_AreMarks.j1]) ?_
            simp only [Bool.false_eq_true, if_false, h0, c', if_true, cg]
            exact h
          by_cases ce : x.f1 = (((rdOf ByteArray.empty lines x.f0).size : Nat) : Int)
          · by_cases c1 : x.f2 = 1
            · exact ⟨false, hs1 _ (by simp only [ce, c1, if_true]; exact Ev.now _), hi1 _ (by simp only [ce, c1, if_true]; exact Ev.now _)⟩
            · by_cases c3 : x.f2 = 3
              · exact ⟨false, hs1 _ (by simp only [ce, c1, c3, if_true, if_false]; exact Ev.now _), hi1 _ (by simp only [ce, c1, c3, if_true, if_false]; exact Ev.now _)⟩
              · exact ⟨b, hs1 _ (by simp only [ce, c1, c3, if_true, if_false, ix_wrap e (by omega)]; exact hb1), hi1 _ (by simp only [ce, c1, c3, if_true, if_false, ix_wrap e (by omega)]; exact hb2)⟩
          · exact ⟨b, hs1 _ (by simp only [ce, if_false, ix_wrap e (by omega)]; exact hb1), hi1 _ (by simp only [ce, if_false, ix_wrap e (by omega)]; exact hb2)⟩
theorem areMarks_ex (lines : List ByteArray) (hl : lines.length ≤ 1048576) (hs : ∀ s ∈ lines, s.size ≤ 1048576) (l : List S68) (hb : l.length ≤ 1048576) (ht : TextsOk l) : ∃ r, Ev (fun k => spec_pfMarks.f k lines l) r ∧ Ev (fun k => impl_AreMarks.f k lines l) r := areMarks_l lines hl hs l hb ht l [] rfl

/-! marks that make a line another one -/
def Asc (s : ByteArray) : Prop := ∀ j : Int, bt s j < 128
theorem asc_extract (s : ByteArray) (h : Asc s) (a b : Nat) : Asc (s.extract a b) := fun j => by
  unfold bt
  split
  · rename_i hj
    have := h ((a + j.toNat : Nat) : Int)
    unfold bt at this
    rw [ByteArray.size_extract] at hj
    have hlt : a + j.toNat < s.size := by omega
    rw [dif_pos (by rw [Int.toNat_natCast]; exact hlt)] at this
    rw [ByteArray.getElem_extract]
    have e : ((a + j.toNat : Nat) : Int).toNat = a + j.toNat := Int.toNat_natCast _
    simp only [e] at this
    exact this
  · omega
theorem plain_asc (s : ByteArray) (hs : s.size ≤ 1048576) (a b : Int) : ∀ (d i : Nat), i + d = s.size → ∃ r, Ev (fun k => impl_isPlainText.l0 k s a b ((i : Nat) : Int)) r ∧ (r = true → (∀ j : Nat, i ≤ j → bt s (j : Int) < 128) ∧ ((s.size : Nat) : Int) ≤ b) := by
  intro d
  induction d with
  | zero =>
    intro i h
    refine ⟨decide (a ≤ ((s.size : Nat) : Int) ∧ ((s.size : Nat) : Int) ≤ b), Ev.step (fun k => by rw [impl_isPlainText.l0]) ?_, fun hr => ⟨fun j hj => ?_, (of_decide_eq_true hr).2⟩⟩
    · simp only [show ¬ ((i : Nat) : Int) < ((s.size : Nat) : Int) by omega, if_false, within_eq, Option.bind_some]
      exact Ev.now _
    · unfold bt
      rw [dif_neg (by rw [Int.toNat_natCast]; omega)]
      omega
  | succ d ih =>
    intro i h
    obtain ⟨r, hr, hf⟩ := ih (i + 1) (by omega)
    have h1 : ((i : Nat) : Int) < ((s.size : Nat) : Int) := by omega
    have h2 : (0 : Int) ≤ ((i : Nat) : Int) := by omega
    have h3 : wrap64 (((i : Nat) : Int) + 1) = ((i + 1 : Nat) : Int) := by
      rw [wrap_id (by omega) (by omega)]
      omega
    have hext : bt s ((i : Nat) : Int) < 128 → r = true → (∀ j : Nat, i ≤ j → bt s (j : Int) < 128) ∧ ((s.size : Nat) : Int) ≤ b := fun hi h => by
      obtain ⟨p1, p2⟩ := hf h
      refine ⟨fun j hj => ?_, p2⟩
      by_cases e : j = i
      · subst e; exact hi
      · exact p1 j (by omega)
    by_cases c1 : bt s ((i : Nat) : Int) = 32
    · refine ⟨r, Ev.step (fun k => by rw [impl_isPlainText.l0]) ?_, hext (by omega)⟩
      simp only [h1, h2, h3, if_true, c1]
      exact hr
    · by_cases c2 : bt s ((i : Nat) : Int) < 97
      · refine ⟨false, Ev.step (fun k => by rw [impl_isPlainText.l0]) ?_, by simp⟩
        simp only [h1, h2, if_true, c1, c2, if_false]
        exact Ev.now _
      · by_cases c3 : bt s ((i : Nat) : Int) > 122
        · refine ⟨false, Ev.step (fun k => by rw [impl_isPlainText.l0]) ?_, by simp⟩
          simp only [h1, h2, if_true, c1, c2, c3, if_false]
          exact Ev.now _
        · refine ⟨r, Ev.step (fun k => by rw [impl_isPlainText.l0]) ?_, hext (by omega)⟩
          simp only [h1, h2, h3, if_true, c1, c2, c3, if_false]
          exact hr
/-- A line of a proof: told alike by both. -/
theorem line_ex (s : ByteArray) (hs : s.size ≤ 1048576) : ∃ r, Ev (fun k => impl_isProofLine.f k s) r ∧ Ev (fun k => spec_pfGood.f k [s]) r ∧ (r = true → Asc s ∧ s.size ≤ 40) := by
  obtain ⟨r, hr, hf⟩ := plain_asc s hs 0 40 s.size 0 (by omega)
  have h1 : Ev (fun k => impl_isProofLine.f k s) r := by
    unfold impl_isProofLine.f impl_isPlainText.f
    exact Ev.bind hr (Ev.now _)
  refine ⟨r, h1, Ev.congr (fun k => pf_eq k [s]) ?_, fun h => ?_⟩
  · unfold impl_IsProof.f
    refine Ev.step (fun k => by rw [impl_IsProof.l0]) ?_
    simp only [List.length_cons, List.length_nil, show ((0 : Int) < ((0 + 1 : Nat) : Int)) = True by simp, if_true, show ((0 : Int) ≤ 0) = True by simp]
    refine Ev.bind (show Ev (fun k => impl_isProofLine.f k (rdOf ByteArray.empty [s] 0)) r from h1) ?_
    cases r with
    | false => exact Ev.ret (fun _ => by simp)
    | true =>
      simp only [if_true]
      refine Ev.step (fun k => by rw [impl_IsProof.l0]) ?_
      have hw : ¬ wrap64 (0 + 1) < ((0 + 1 : Nat) : Int) := by rw [wrap_id (by omega) (by omega)]; omega
      simp only [List.length_cons, List.length_nil, hw, if_false, within_eq, Option.bind_some]
      exact Ev.ret (fun _ => by decide)
  · obtain ⟨p1, p2⟩ := hf h
    refine ⟨fun j => ?_, by omega⟩
    have := p1 j.toNat (by omega)
    unfold bt at this ⊢
    rwa [Int.toNat_natCast] at this
def fin (a0 : ByteArray) (y : List S68) (k : Nat) : Option (List S68 × Bool) := (spec_pfMarks.f k [a0] y).bind fun t => if t = true then some (y, true) else some ([], false)
/-- The same marks by both, and the model's answer behind them. -/
def Both (a0 : ByteArray) (f : Nat → Option (List S68)) (g : Nat → Option (List S68 × Bool)) : Prop :=
  ∃ y, y.length ≤ 100 ∧ TextsOk y ∧ Ev f y ∧ ∀ r, Ev (fin a0 y) r → Ev g r
theorem Both.step {a0 : ByteArray} {f f' : Nat → Option (List S68)} {g g' : Nat → Option (List S68 × Bool)} (hf : ∀ k, f (k + 1) = f' k) (hg : ∀ k, g (k + 1) = g' k) (h : Both a0 f' g') : Both a0 f g := by
  obtain ⟨y, h1, h2, h3, h4⟩ := h
  exact ⟨y, h1, h2, Ev.step hf h3, fun r hr => Ev.step hg (h4 r hr)⟩
theorem texts_add {y : List S68} {m : S68} (h : TextsOk y) (hm : m.f3.size ≤ 1048576) : TextsOk (y ++ [m]) := fun q hq => by
  rcases List.mem_append.1 hq with hq | hq
  · exact h q hq
  · simp at hq; subst hq; exact hm
theorem size_ex (s : ByteArray) (a b : Nat) (h : s.size ≤ 1048576) : (s.extract a b).size ≤ 1048576 := by
  rw [ByteArray.size_extract]
  omega
theorem between2 (a0 : ByteArray) (p : Int) (x8 x9 : ByteArray) (h8 : x8.size ≤ 40) (h9 : x9.size ≤ 40) (ha : Asc x8) : ∀ (d i : Nat) (acc : List S68), i + d = x8.size → acc.length ≤ i → TextsOk acc →
    Both a0 (fun k => impl_between.l2 k p acc x8 x9 ((i : Nat) : Int)) (fun k => spec_MarksBetween.l2 k a0 p x8 x9 acc ((i : Nat) : Int)) := by
  intro d
  induction d with
  | zero =>
    intro i acc hd hl ht
    refine Both.step (fun k => by rw [impl_between.l2]) (fun k => by rw [spec_MarksBetween.l2]) ?_
    have hlen : acc.length < 3518437208883 := by omega
    simp only [show ¬ ((i : Nat) : Int) < ((x8.size : Nat) : Int) by omega, if_false]
    by_cases c : ((x9.size : Nat) : Int) > ((x8.size : Nat) : Int)
    · simp only [c, if_true, show (0 : Int) ≤ ((x8.size : Nat) : Int) by omega, show ((x8.size : Nat) : Int) ≤ ((x9.size : Nat) : Int) by omega, hlen]
      exact ⟨_, by simp; omega, texts_add ht (size_ex _ _ _ (by omega)), Ev.now _, fun r hr => hr⟩
    · simp only [c, if_false]
      exact ⟨_, by omega, ht, Ev.now _, fun r hr => hr⟩
  | succ d ih =>
    intro i acc hd hl ht
    have c1 : ((i : Nat) : Int) < ((x8.size : Nat) : Int) := by omega
    have c2 : (0 : Int) ≤ ((i : Nat) : Int) ∧ ((i : Nat) : Int) < 1000 ∧ bt x8 ((i : Nat) : Int) < 128 := ⟨by omega, by omega, ha _⟩
    have hw : wrap64 (((i : Nat) : Int) + 1) = ((i + 1 : Nat) : Int) := by rw [wrap_id (by omega) (by omega)]; omega
    have hlen : acc.length < 3518437208883 := by omega
    by_cases c3 : ((i : Nat) : Int) ≥ ((x9.size : Nat) : Int)
    · refine Both.step (fun k => by rw [impl_between.l2]) (fun k => by rw [spec_MarksBetween.l2]) ?_
      simp only [c1, c2, and_self, if_true, c3, hlen, hw]
      exact ih (i + 1) _ (by omega) (by simp; omega) (texts_add ht (by simp [ByteArray.size]))
    · have c4 : ((i : Nat) : Int) < ((x9.size : Nat) : Int) := by omega
      by_cases c5 : bt x8 ((i : Nat) : Int) = bt x9 ((i : Nat) : Int)
      · refine Both.step (fun k => by rw [impl_between.l2]) (fun k => by rw [spec_MarksBetween.l2]) ?_
        simp only [c1, c2, and_self, if_true]
        simp only [c3, if_false, c4, c5, hw, show (0 : Int) ≤ ((i : Nat) : Int) by omega, if_true]
        exact ih (i + 1) acc (by omega) (by omega) ht
      · refine Both.step (fun k => by rw [impl_between.l2]) (fun k => by rw [spec_MarksBetween.l2]) ?_
        simp only [c1, c2, and_self, if_true, c3, if_false, c4, c5, hw, show ((i : Nat) : Int) ≤ ((i + 1 : Nat) : Int) by omega, show ((i + 1 : Nat) : Int) ≤ ((x9.size : Nat) : Int) by omega, hlen]
        exact ih (i + 1) _ (by omega) (by simp; omega) (texts_add ht (size_ex _ _ _ (by omega)))
theorem between34 (a0 a1 : ByteArray) (h0 : a0.size ≤ 40) (h1 : a1.size ≤ 40) (ha : Asc a0) (p e : Nat) (hp : p + e ≤ a0.size) (hq : p + e ≤ a1.size) :
    Both a0 (fun k => impl_between.j3 k a0 a1 (p : Int) (e : Int)) (fun k => spec_MarksBetween.j4 k a0 a1 (p : Int) (e : Int)) := by
  refine Both.step (fun k => by rw [impl_between.j3]) (fun k => by rw [spec_MarksBetween.j4]) ?_
  have w0 : wrap64 (((a0.size : Nat) : Int) - (e : Int)) = ((a0.size - e : Nat) : Int) := by rw [wrap_id (by omega) (by omega)]; omega
  have w1 : wrap64 (((a1.size : Nat) : Int) - (e : Int)) = ((a1.size - e : Nat) : Int) := by rw [wrap_id (by omega) (by omega)]; omega
  simp only [w0, w1, show (0 : Int) ≤ (p : Int) by omega, show (p : Int) ≤ ((a0.size - e : Nat) : Int) by omega, show ((a0.size - e : Nat) : Int) ≤ ((a0.size : Nat) : Int) by omega, show (p : Int) ≤ ((a1.size - e : Nat) : Int) by omega, show ((a1.size - e : Nat) : Int) ≤ ((a1.size : Nat) : Int) by omega, if_true]
  have s0 : (a0.extract (p : Int).toNat ((a0.size - e : Nat) : Int).toNat).size ≤ 40 := by rw [ByteArray.size_extract]; omega
  have s1 : (a1.extract (p : Int).toNat ((a1.size - e : Nat) : Int).toNat).size ≤ 40 := by rw [ByteArray.size_extract]; omega
  exact between2 a0 (p : Int) _ _ s0 s1 (asc_extract _ ha _ _) _ 0 [] (Nat.zero_add _) (by simp) (fun _ h => by cases h)
theorem ar0 (n p : Nat) (hn : n ≤ 40) (h : p ≤ n) : wrap64 ((n : Int) - (p : Int)) = (n : Int) - (p : Int) := wrap_id (by omega) (by omega)
theorem ar1 (n : Nat) (hn : n ≤ 40) : wrap64 ((n : Int) - 1) = (n : Int) - 1 := wrap_id (by omega) (by omega)
theorem ar2 (n e : Nat) (hn : n ≤ 40) (h : e < n) : wrap64 ((n : Int) - 1 - (e : Int)) = (n : Int) - 1 - (e : Int) := wrap_id (by omega) (by omega)
theorem ar3 (n p e : Nat) (h : p + e < n) : (e : Int) < (n : Int) - (p : Int) ∧ (0 : Int) ≤ (n : Int) - 1 - (e : Int) ∧ (n : Int) - 1 - (e : Int) < (n : Int) := by omega
theorem ar4 (n p e : Nat) (h : p + e = n) : ¬ (e : Int) < (n : Int) - (p : Int) := by omega
theorem ar5 (e : Nat) (h : e ≤ 40) : wrap64 ((e : Int) + 1) = ((e + 1 : Nat) : Int) := by rw [wrap_id (by omega) (by omega)]; omega
theorem between1 (a0 a1 : ByteArray) (h0 : a0.size ≤ 40) (h1 : a1.size ≤ 40) (ha : Asc a0) (p : Nat) : ∀ (d e : Nat), p + e + d = min a0.size a1.size →
    Both a0 (fun k => impl_between.l1 k a0 a1 (p : Int) (e : Int)) (fun k => spec_MarksBetween.l1 k a0 a1 (p : Int) (e : Int)) := by
  intro d
  induction d with
  | zero =>
    intro e hd
    have g0 : p + e ≤ a0.size := by omega
    have g1 : p + e ≤ a1.size := by omega
    have gm : p + e = a0.size ∨ p + e = a1.size := by omega
    have w0 := ar0 a0.size p h0 (by omega)
    have w1 := ar0 a1.size p h1 (by omega)
    have hb := between34 a0 a1 h0 h1 ha p e g0 g1
    refine Both.step (fun k => by rw [impl_between.l1]) (fun k => by rw [spec_MarksBetween.l1]) ?_
    simp only [w0, w1]
    by_cases c0 : (e : Int) < ((a0.size : Nat) : Int) - (p : Int)
    · have c1 : ¬ (e : Int) < ((a1.size : Nat) : Int) - (p : Int) := ar4 _ _ _ (gm.resolve_left (fun h => ar4 _ _ _ h c0))
      simp only [c0, if_true, c1, if_false]
      exact hb
    · simp only [c0, if_false]
      exact hb
  | succ d ih =>
    intro e hd
    have hn := ih (e + 1) (by omega)
    have g0 : p + e < a0.size := by omega
    have g1 : p + e < a1.size := by omega
    have w0 := ar0 a0.size p h0 (by omega)
    have w1 := ar0 a1.size p h1 (by omega)
    have w2 := ar1 a0.size h0
    have w3 := ar1 a1.size h1
    have w4 := ar2 a0.size e h0 (by omega)
    have w5 := ar2 a1.size e h1 (by omega)
    have w6 := ar5 e (by omega)
    obtain ⟨f0, f1, f2⟩ := ar3 a0.size p e g0
    obtain ⟨f3, f4, f5⟩ := ar3 a1.size p e g1
    have hj := between34 a0 a1 h0 h1 ha p e (Nat.le_of_lt g0) (Nat.le_of_lt g1)
    clear ih hd
    refine Both.step (fun k => by rw [impl_between.l1]) (fun k => by rw [spec_MarksBetween.l1]) ?_
    simp only [w0, w1, w2, w3, w4, w5, w6, f0, f1, f2, f3, f4, f5, if_true]
    by_cases c : bt a0 (((a0.size : Nat) : Int) - 1 - (e : Int)) = bt a1 (((a1.size : Nat) : Int) - 1 - (e : Int))
    · simp only [c, if_true]
      exact hn
    · simp only [c, if_false]
      exact hj
theorem between0 (a0 a1 : ByteArray) (h0 : a0.size ≤ 40) (h1 : a1.size ≤ 40) (ha : Asc a0) : ∀ (d p : Nat), p + d = min a0.size a1.size →
    Both a0 (fun k => impl_between.l0 k a0 a1 (p : Int)) (fun k => spec_MarksBetween.l0 k a0 a1 (p : Int)) := by
  have hj : ∀ p : Nat, p ≤ min a0.size a1.size → Both a0 (fun k => impl_between.j1 k a0 a1 (p : Int)) (fun k => spec_MarksBetween.j2 k a0 a1 (p : Int)) := fun p hp =>
    Both.step (f' := fun k => impl_between.l1 k a0 a1 (p : Int) ((0 : Nat) : Int)) (g' := fun k => spec_MarksBetween.l1 k a0 a1 (p : Int) ((0 : Nat) : Int)) (fun k => by rw [impl_between.j1]; rfl) (fun k => by rw [spec_MarksBetween.j2]; rfl) (between1 a0 a1 h0 h1 ha p (min a0.size a1.size - p) 0 (by omega))
  intro d
  induction d with
  | zero =>
    intro p hd
    refine Both.step (fun k => by rw [impl_between.l0]) (fun k => by rw [spec_MarksBetween.l0]) ?_
    by_cases c0 : (p : Int) < ((a0.size : Nat) : Int)
    · simp only [c0, if_true, show ¬ (p : Int) < ((a1.size : Nat) : Int) by omega, if_false]
      exact hj p (by omega)
    · simp only [c0, if_false]
      exact hj p (by omega)
  | succ d ih =>
    intro p hd
    refine Both.step (fun k => by rw [impl_between.l0]) (fun k => by rw [spec_MarksBetween.l0]) ?_
    have w6 : wrap64 ((p : Int) + 1) = ((p + 1 : Nat) : Int) := by rw [wrap_id (by omega) (by omega)]; omega
    simp only [w6, show (p : Int) < ((a0.size : Nat) : Int) by omega, show (p : Int) < ((a1.size : Nat) : Int) by omega, show (0 : Int) ≤ (p : Int) by omega, if_true]
    by_cases c : bt a0 (p : Int) = bt a1 (p : Int)
    · simp only [c, if_true]
      exact ih (p + 1) (by omega)
    · simp only [c, if_false]
      exact hj p (by omega)
theorem marksBetween_ex (a0 a1 : ByteArray) (h0 : a0.size ≤ 1048576) (h1 : a1.size ≤ 1048576) : ∃ r : List S68 × Bool, r.1.length ≤ 100 ∧ TextsOk r.1 ∧ Ev (fun k => spec_MarksBetween.f k a0 a1) r ∧ Ev (fun k => impl_MarksBetween.f k a0 a1) r := by
  obtain ⟨q, hq, hq', hqf⟩ := line_ex a0 h0
  obtain ⟨q1, hq1, hq1', hq1f⟩ := line_ex a1 h1
  have nil : (([] : List S68), false).1.length ≤ 100 ∧ TextsOk (([] : List S68), false).1 := ⟨by simp, fun _ h => by cases h⟩
  have fs : Ev (fun k => spec_MarksBetween.j0 k a0 a1 true) (([] : List S68), false) := Ev.step (fun k => by rw [spec_MarksBetween.j0]) (by simp only [if_true]; exact Ev.now _)
  have fi : Ev (fun k => impl_MarksBetween.j0 k a0 a1 true) (([] : List S68), false) := Ev.step (fun k => by rw [impl_MarksBetween.j0]) (by simp only [if_true]; exact Ev.now _)
  cases q with
  | false =>
    refine ⟨_, nil.1, nil.2, ?_, ?_⟩
    · unfold spec_MarksBetween.f
      exact Ev.bind hq' (by simp only [Bool.false_eq_true, if_false]; exact fs)
    · unfold impl_MarksBetween.f
      exact Ev.bind hq (by simp only [Bool.false_eq_true, if_false]; exact fi)
  | true =>
    cases q1 with
    | false =>
      refine ⟨_, nil.1, nil.2, ?_, ?_⟩
      · unfold spec_MarksBetween.f
        exact Ev.bind hq' (by simp only [if_true]; exact Ev.bind hq1' (by simp only [Bool.not_false]; exact fs))
      · unfold impl_MarksBetween.f
        exact Ev.bind hq (by simp only [if_true]; exact Ev.bind hq1 (by simp only [Bool.not_false]; exact fi))
    | true =>
      obtain ⟨hA, hs⟩ := hqf rfl
      obtain ⟨_, hs1⟩ := hq1f rfl
      obtain ⟨y, hy1, hy2, hy3, hy4⟩ := between0 a0 a1 hs hs1 hA (min a0.size a1.size) 0 (by omega)
      obtain ⟨b, hb1, hb2⟩ := areMarks_ex [a0] (by simp) (by simpa using h0) y (by omega) hy2
      refine ⟨if b = true then (y, true) else ([], false), ?_, ?_, ?_, ?_⟩
      · cases b <;> simp; omega
      · cases b
        · exact nil.2
        · exact hy2
      · unfold spec_MarksBetween.f
        refine Ev.bind hq' ?_
        simp only [if_true]
        refine Ev.bind hq1' ?_
        refine Ev.step (fun k => by rw [spec_MarksBetween.j0]) ?_
        simp only [Bool.not_true, Bool.false_eq_true, if_false]
        refine hy4 _ ?_
        unfold fin
        exact Ev.bind hb1 (Ev.ret (fun _ => by cases b <;> rfl))
      · unfold impl_MarksBetween.f
        refine Ev.bind hq ?_
        simp only [if_true]
        refine Ev.bind hq1 ?_
        refine Ev.step (fun k => by rw [impl_MarksBetween.j0]) ?_
        simp only [Bool.not_true, Bool.false_eq_true, if_false]
        refine Ev.bind (show Ev (fun k => impl_between.f k a0 a1) y from hy3) ?_
        exact Ev.bind hb2 (Ev.ret (fun _ => by cases b <;> rfl))

theorem app_s (l : List (List ByteArray)) (a1 : Int) (x7 : Int) (x27 : List ByteArray) (x28 x29 : Int) (y : List S68) (hy : y.length ≤ 1048576) (r : List S68 × Bool) : ∀ (rest pre acc : List S68), y = pre ++ rest → acc.length + rest.length ≤ 1048576 →
    Ev (fun k => spec_MarksToNext.l0 k l a1 (acc ++ rest.map (fun m => (⟨x7, m.f1, m.f2, m.f3⟩ : S68))) x27 x28 (wrap64 (x29 + 1))) r →
    Ev (fun k => spec_MarksToNext.l1 k l a1 acc x7 x27 x28 x29 y ((y.length : Nat) : Int) ((pre.length : Nat) : Int)) r := by
  intro rest
  induction rest with
  | nil =>
    intro pre acc e _ h
    refine Ev.step (fun k => by rw [spec_MarksToNext.l1]) ?_
    simp only [ix_end e, if_false]
    simpa using h
  | cons x rest ih =>
    intro pre acc e hl h
    simp only [List.length_cons] at hl
    have hx : rd_T68 y ((pre.length : Nat) : Int) = x := ix_get e
    refine Ev.step (fun k => by rw [spec_MarksToNext.l1]) ?_
    simp only [ix_lt e, ix_nn, if_true, hx, show acc.length < 3518437208883 by omega, ix_wrap e (by omega)]
    refine ih (pre ++ [x]) _ (by simp [e]) (by simp; omega) ?_
    simpa using h
theorem app_i (l : List (List ByteArray)) (a1 : Int) (x7 : Int) (x27 : List ByteArray) (x28 x29 : Int) (y : List S68) (hy : y.length ≤ 1048576) (r : List S68 × Bool) : ∀ (rest pre acc : List S68), y = pre ++ rest → acc.length + rest.length ≤ 1048576 →
    Ev (fun k => impl_MarksToNext.l0 k l a1 (acc ++ rest.map (fun m => (⟨x7, m.f1, m.f2, m.f3⟩ : S68))) x27 x28 (wrap64 (x29 + 1))) r →
    Ev (fun k => impl_MarksToNext.l1 k l a1 acc x7 x27 x28 x29 y ((y.length : Nat) : Int) ((pre.length : Nat) : Int)) r := by
  intro rest
  induction rest with
  | nil =>
    intro pre acc e _ h
    refine Ev.step (fun k => by rw [impl_MarksToNext.l1]) ?_
    simp only [ix_end e, if_false]
    simpa using h
  | cons x rest ih =>
    intro pre acc e hl h
    simp only [List.length_cons] at hl
    have hx : rd_T68 y ((pre.length : Nat) : Int) = x := ix_get e
    refine Ev.step (fun k => by rw [impl_MarksToNext.l1]) ?_
    simp only [ix_lt e, ix_nn, if_true, hx, show acc.length < 3518437208883 by omega, ix_wrap e (by omega)]
    refine ih (pre ++ [x]) _ (by simp [e]) (by simp; omega) ?_
    simpa using h
theorem next_l (l : List (List ByteArray)) (hb : Small l) (a1 : Int) (h0 : 0 ≤ a1) (h1 : a1 < ((l.length : Nat) : Int) - 1) (hl6 : l.length ≤ 6) (hn : (rd_L1 l a1).length ≤ 12) (hlen : (rd_L1 l (wrap64 (a1 + 1))).length = (rd_L1 l a1).length)
    (hs0 : ∀ s ∈ rd_L1 l a1, s.size ≤ 1048576) (hs1 : ∀ s ∈ rd_L1 l (wrap64 (a1 + 1)), s.size ≤ 1048576) : ∀ (rest pre : List ByteArray) (acc : List S68), rd_L1 l a1 = pre ++ rest → acc.length ≤ 100 * pre.length → TextsOk acc →
    ∃ r : List S68 × Bool, r.1.length ≤ 1048576 ∧ Ev (fun k => spec_MarksToNext.l0 k l a1 acc (rd_L1 l a1) (((rd_L1 l a1).length : Nat) : Int) ((pre.length : Nat) : Int)) r ∧ Ev (fun k => impl_MarksToNext.l0 k l a1 acc (rd_L1 l a1) (((rd_L1 l a1).length : Nat) : Int) ((pre.length : Nat) : Int)) r := by
  have hw : wrap64 (a1 + 1) = a1 + 1 := wrap_id (by omega) (by omega)
  intro rest
  induction rest with
  | nil =>
    intro pre acc e hl ht
    have hpl : pre.length ≤ 12 := by rw [e] at hn; simpa using hn
    obtain ⟨b, hb1, hb2⟩ := areMarks_ex (rd_L1 l a1) (by omega) hs0 acc (by omega) ht
    refine ⟨if b = true then (acc, true) else ([], false), ?_, Ev.step (fun k => by rw [spec_MarksToNext.l0]) ?_, Ev.step (fun k => by rw [impl_MarksToNext.l0]) ?_⟩
    · cases b <;> simp; omega
    · simp only [ix_end e, if_false, h0, if_true, show a1 < ((l.length : Nat) : Int) by omega]
      exact Ev.bind hb1 (Ev.ret (fun _ => by cases b <;> rfl))
    · simp only [ix_end e, if_false, h0, if_true, show a1 < ((l.length : Nat) : Int) by omega]
      exact Ev.bind hb2 (Ev.ret (fun _ => by cases b <;> rfl))
  | cons x rest ih =>
    intro pre acc e hl ht
    have hpl : pre.length + (rest.length + 1) ≤ 12 := by rw [e] at hn; simpa using hn
    have hx : rdOf ByteArray.empty (rd_L1 l a1) ((pre.length : Nat) : Int) = x := ix_get e
    have hlt := ix_lt e
    have hlt' : ((pre.length : Nat) : Int) < (((rd_L1 l (wrap64 (a1 + 1))).length : Nat) : Int) := by rw [hlen]; exact hlt
    obtain ⟨z, hz⟩ : ∃ z, z = rdOf ByteArray.empty (rd_L1 l (wrap64 (a1 + 1))) ((pre.length : Nat) : Int) := ⟨_, rfl⟩
    have hzs : z.size ≤ 1048576 := by
      rw [hz]
      unfold rdOf
      rw [Int.toNat_natCast, List.getD_eq_getElem?_getD, List.getElem?_eq_getElem (by omega)]
      exact hs1 _ (List.getElem_mem _)
    obtain ⟨q, hq1, hq2, hqs, hqi⟩ := marksBetween_ex x z (hs0 x (by simp [e])) hzs
    have hc : (0 : Int) ≤ a1 + 1 ∧ a1 + 1 < ((l.length : Nat) : Int) := by omega
    rw [hw] at hlt' hz
    cases hqb : q.2 with
    | false =>
      refine ⟨([], false), by simp, Ev.step (fun k => by rw [spec_MarksToNext.l0]) ?_, Ev.step (fun k => by rw [impl_MarksToNext.l0]) ?_⟩
      · simp only [hlt, ix_nn, if_true, hw, hc.1, hc.2, hlt', hx, ← hz]
        exact Ev.bind hqs (Ev.ret (fun _ => by simp [hqb]))
      · simp only [hlt, ix_nn, if_true, hw, hc.1, hc.2, hlt', hx, ← hz]
        exact Ev.bind hqi (Ev.ret (fun _ => by simp [hqb]))
    | true =>
      obtain ⟨r, hr0, hr1, hr2⟩ := ih (pre ++ [x]) (acc ++ q.1.map (fun m => (⟨((pre.length : Nat) : Int), m.f1, m.f2, m.f3⟩ : S68))) (by simp [e]) (by simp; omega) (fun m hm => by
        rcases List.mem_append.1 hm with hm | hm
        · exact ht m hm
        · obtain ⟨m', hm', rfl⟩ := List.mem_map.1 hm
          exact hq2 m' hm')
      refine ⟨r, hr0, Ev.step (fun k => by rw [spec_MarksToNext.l0]) ?_, Ev.step (fun k => by rw [impl_MarksToNext.l0]) ?_⟩
      · simp only [hlt, ix_nn, if_true, hw, hc.1, hc.2, hlt', hx, ← hz]
        refine Ev.bind hqs ?_
        simp only [hqb, if_true]
        refine app_s l a1 _ _ _ _ q.1 (by omega) r q.1 [] acc rfl (by omega) ?_
        rw [ix_wrap e (by omega)]
        exact hr1
      · simp only [hlt, ix_nn, if_true, hw, hc.1, hc.2, hlt', hx, ← hz]
        refine Ev.bind hqi ?_
        simp only [hqb, if_true]
        refine app_i l a1 _ _ _ _ q.1 (by omega) r q.1 [] acc rfl (by omega) ?_
        rw [ix_wrap e (by omega)]
        exact hr2
theorem fns (l : List (List ByteArray)) (a1 : Int) (hwf : (Lit.int .i64 a1).wf = true) (hb : Small l) : ∃ r : List S68 × Bool, r.1.length ≤ 1048576 ∧ Ev (fun k => spec_MarksToNext.f k l a1) r ∧ Ev (fun k => impl_MarksToNext.f k l a1) r := by
  obtain ⟨r, hi, hsp, hr⟩ := states_ex l hb
  have fs : Ev (fun k => spec_MarksToNext.j0 k l a1 true) (([] : List S68), false) := Ev.step (fun k => by rw [spec_MarksToNext.j0]) (by simp only [if_true]; exact Ev.now _)
  have fi : Ev (fun k => impl_MarksToNext.j0 k l a1 true) (([] : List S68), false) := Ev.step (fun k => by rw [impl_MarksToNext.j0]) (by simp only [if_true]; exact Ev.now _)
  have hbl := hb.1
  have hwl : wrap64 (((l.length : Nat) : Int) - 1) = ((l.length : Nat) : Int) - 1 := wrap_id (by omega) (by omega)
  have hstate : ∀ x : Int, Ev (fun k => impl_isStateOf.f k l x) (r && decide (0 ≤ x ∧ x ≤ ((l.length : Nat) : Int) - 1)) := fun x => by
    unfold impl_isStateOf.f
    refine Ev.bind hi ?_
    cases r with
    | false => exact Ev.ret (fun _ => by simp)
    | true => simp only [if_true, within_eq, Option.bind_some, hwl]; exact Ev.ret (fun _ => by simp)
  have hhas : Ev (fun k => spec_rvHas.f k l a1) (r && decide (0 ≤ a1 ∧ a1 ≤ ((l.length : Nat) : Int) - 1)) := by
    unfold spec_rvHas.f
    refine Ev.bind hsp ?_
    cases r with
    | false => exact Ev.ret (fun _ => by simp)
    | true => simp only [if_true, l1In_eq, Option.bind_some, hwl]; exact Ev.ret (fun _ => by simp)
  cases hv : (r && decide (0 ≤ a1 ∧ a1 ≤ ((l.length : Nat) : Int) - 1)) with
  | false =>
    rw [hv] at hhas
    have hst := hstate a1
    rw [hv] at hst
    refine ⟨([], false), by simp, ?_, ?_⟩
    · unfold spec_MarksToNext.f
      exact Ev.bind hhas (by simp only [Bool.false_eq_true, if_false]; exact fs)
    · unfold impl_MarksToNext.f
      exact Ev.bind hst (by simp only [Bool.false_eq_true, if_false]; exact fi)
  | true =>
    rw [hv] at hhas
    have hst := hstate a1
    rw [hv] at hst
    simp only [Bool.and_eq_true, decide_eq_true_eq] at hv
    obtain ⟨rfl, ha0, ha1⟩ := hv
    obtain ⟨p1, p2, p3⟩ := hr rfl
    have hw : wrap64 (a1 + 1) = a1 + 1 := wrap_id (by omega) (by omega)
    by_cases c : a1 = ((l.length : Nat) : Int) - 1
    · refine ⟨([], false), by simp, ?_, ?_⟩
      · unfold spec_MarksToNext.f
        exact Ev.bind hhas (by simp only [if_true, hwl, show (a1 == ((l.length : Nat) : Int) - 1) = true by simp [c]]; exact fs)
      · unfold impl_MarksToNext.f
        refine Ev.bind hst ?_
        simp only [if_true, hw]
        have := hstate (a1 + 1)
        rw [show (true && decide (0 ≤ a1 + 1 ∧ a1 + 1 ≤ ((l.length : Nat) : Int) - 1)) = false by simp; omega] at this
        exact Ev.bind this (by simp only [Bool.not_false]; exact fi)
    · have hlt : a1 < ((l.length : Nat) : Int) - 1 := by omega
      have hin : ∀ x : Int, 0 ≤ x → x < ((l.length : Nat) : Int) → rd_L1 l x ∈ l := fun x h0 h1 => by
        unfold rd_L1
        rw [List.getD_eq_getElem?_getD, List.getElem?_eq_getElem (by omega)]
        exact List.getElem_mem _
      have m0 := hin a1 ha0 (by omega)
      have m1 := hin (a1 + 1) (by omega) (by omega)
      obtain ⟨_, q2, q3⟩ := p3 _ m0
      obtain ⟨_, _, q4⟩ := p3 _ m1
      obtain ⟨rr, h1, h2, h3⟩ := next_l l hb a1 ha0 hlt p2 q2 (by rw [hw, q4, q3]) (hb.2 _ m0).2 (by rw [hw]; exact (hb.2 _ m1).2) (rd_L1 l a1) [] [] rfl (by simp) (fun _ h => by cases h)
      refine ⟨rr, h1, ?_, ?_⟩
      · unfold spec_MarksToNext.f
        refine Ev.bind hhas ?_
        simp only [if_true, hwl, show (a1 == ((l.length : Nat) : Int) - 1) = false by simp [c]]
        refine Ev.step (fun k => by rw [spec_MarksToNext.j0]) ?_
        simp only [Bool.false_eq_true, if_false, ha0, show a1 < ((l.length : Nat) : Int) by omega, if_true]
        exact h2
      · unfold impl_MarksToNext.f
        refine Ev.bind hst ?_
        simp only [if_true, hw]
        have := hstate (a1 + 1)
        rw [show (true && decide (0 ≤ a1 + 1 ∧ a1 + 1 ≤ ((l.length : Nat) : Int) - 1)) = true by simp; omega] at this
        refine Ev.bind this ?_
        refine Ev.step (fun k => by rw [impl_MarksToNext.j0]) ?_
        simp only [Bool.not_true, Bool.false_eq_true, if_false, ha0, show a1 < ((l.length : Nat) : Int) by omega, if_true]
        exact h3
theorem proved : Stmt.FnExactMarksToNext := by
  intro l a1 hl hs hwf
  refine Ev.law (g := fun k => laws_FnExactMarksToNext.f k l a1) ?_
  unfold laws_FnExactMarksToNext.f
  obtain ⟨s, hsz, h⟩ := szSS_ev l 1048576 (by omega) (by omega) hl hs
  refine Ev.bind hsz ?_
  rcases h with h | ⟨h, hs0, hs1, hb⟩
  · simp only [h, if_true]
    exact Ev.now _
  simp only [h, if_false]
  refine Ev.bind (toSS_ev l hb) ?_
  obtain ⟨r, hlen, hr, hr'⟩ := fns l a1 hwf hb
  obtain ⟨q, hq, hq0, hq1⟩ := markSS_ev l 1 hb (by omega) (by omega)
  have hhd := heldK_ev r.1.length hlen
  refine Ev.bind hr ?_
  refine Ev.bind (toSS_ev l hb) ?_
  refine Ev.bind hr' ?_
  refine Ev.bind (eqK_ev _ hlen) ?_
  simp only [bne_self_eq_false, if_true]
  refine Ev.step (fun k => by rw [laws_FnExactMarksToNext.j0]) ?_
  simp only [Bool.false_eq_true, if_false]
  refine Ev.bind (toSS_ev l hb) ?_
  refine Ev.bind (eqSS_ev _ hb) ?_
  simp only [if_true]
  refine Ev.bind hq ?_
  simp only [show ¬ q < 0 by omega, if_false]
  refine Ev.bind (eqK_ev _ hlen) ?_
  simp only [bne_self_eq_false, if_true]
  refine Ev.step (fun k => by rw [laws_FnExactMarksToNext.j1]) ?_
  simp only [Bool.false_eq_true, if_false]
  refine Ev.bind (markK_ev _ hlen) ?_
  refine Ev.bind hhd ?_
  simp only [show ¬ (1 + 4 * (r.1.length : Int)) < 0 by omega, if_false, if_true]
  refine Ev.bind (toSS_ev l hb) ?_
  refine Ev.bind hr' ?_
  refine Ev.bind (eqK_ev _ hlen) ?_
  simp only [bne_self_eq_false, if_true]
  refine Ev.step (fun k => by rw [laws_FnExactMarksToNext.j2]) ?_
  simp only [Bool.false_eq_true, if_false]
  refine Ev.bind hhd ?_
  simp only [show ¬ (1 + 4 * (r.1.length : Int)) < 0 by omega, if_false, if_true]
  exact Ev.now _

end Go.Proofs.Ytcnhdcgiapjpoaa.PureFnExactMarksToNext
