/- The law FnExactCountInState holds of the printed functions at every argument. No condition beyond what every readable argument meets. -/
import Derived.Test.YtcnhdcgiapjpoaaStmtFnExactCountInState
import Derived.Test.YtcnhdcgiapjpoaaBase
set_option linter.unusedSimpArgs false
set_option linter.unusedVariables false
namespace Go.Proofs.Ytcnhdcgiapjpoaa.PureFnExactCountInState
open Go.Proofs.Ytcnhdcgiapjpoaa.PFnExactCountInState Go.RowKit Go.Proofs.YtcnhdcgiapjpoaaW.PrintWords Go.Proofs.YtcnhdcgiapjpoaaW.PrintLast Go.Proofs.YtcnhdcgiapjpoaaW.PrintMore

open Go.Proofs.Ytcnhdcgiapjpoaa.Base
theorem szS_l (l : List ByteArray) (hb : l.length ≤ 1048576) : ∀ (rest pre : List ByteArray) (left : Int), l = pre ++ rest → 0 ≤ left → left ≤ 1048576 → (∀ s ∈ rest, s.size ≤ 9223372036854775807) →
    ∃ r, Ev (fun k => laws_szStringS.l0 k l left ((pre.length : Nat) : Int)) r ∧ (r < 0 ∨ 0 ≤ r ∧ r ≤ left ∧ ∀ s ∈ rest, s.size ≤ 1048576) := by
  intro rest
  induction rest with
  | nil =>
    intro pre left e h0 h1 _
    refine ⟨left, Ev.step (fun k => by rw [laws_szStringS.l0]) ?_, .inr ⟨h0, Int.le_refl _, by simp⟩⟩
    simp only [ix_end e, if_false]
    exact Ev.now _
  | cons x rest ih =>
    intro pre left e h0 h1 hs
    have hx : rdOf ByteArray.empty l ((pre.length : Nat) : Int) = x := ix_get e
    have hxs := hs x (by simp)
    have hw : wrap64 (left - ((x.size : Nat) : Int)) = left - ((x.size : Nat) : Int) := wrap_id (by omega) (by omega)
    by_cases c : left - ((x.size : Nat) : Int) < 0
    · refine ⟨-1, Ev.step (fun k => by rw [laws_szStringS.l0]) ?_, .inl (by omega)⟩
      simp only [ix_lt e, ix_nn, if_true, hx, hw, c]
      exact Ev.now _
    · obtain ⟨r, hr, h⟩ := ih (pre ++ [x]) (left - ((x.size : Nat) : Int)) (by simp [e]) (by omega) (by omega) (fun s hm => hs s (by simp [hm]))
      refine ⟨r, Ev.step (fun k => by rw [laws_szStringS.l0]) ?_, ?_⟩
      · simp only [ix_lt e, ix_nn, if_true, hx, hw, c, if_false, ix_wrap e (by omega)]
        exact hr
      · rcases h with h | ⟨h2, h3, h4⟩
        · exact .inl h
        · refine .inr ⟨h2, by omega, fun s hm => ?_⟩
          rcases List.mem_cons.1 hm with rfl | hm
          · omega
          · exact h4 s hm
theorem szS_ev (l : List ByteArray) (left : Int) (h0 : 0 ≤ left) (h1 : left ≤ 1048576) (hl : l.length ≤ 9223372036854775807) (hs : ∀ s ∈ l, s.size ≤ 9223372036854775807) :
    ∃ r, Ev (fun k => laws_szStringS.f k l left) r ∧ (r < 0 ∨ 0 ≤ r ∧ r ≤ left ∧ l.length ≤ 1048576 ∧ ∀ s ∈ l, s.size ≤ 1048576) := by
  unfold laws_szStringS.f
  have hw : wrap64 (left - ((l.length : Nat) : Int)) = left - ((l.length : Nat) : Int) := wrap_id (by omega) (by omega)
  simp only [hw]
  by_cases c : left - ((l.length : Nat) : Int) < 0
  · simp only [c, if_true]
    exact ⟨-1, Ev.now _, .inl (by omega)⟩
  · simp only [c, if_false]
    obtain ⟨r, hr, h⟩ := szS_l l (by omega) l [] (left - ((l.length : Nat) : Int)) rfl (by omega) (by omega) hs
    refine ⟨r, hr, ?_⟩
    rcases h with h | ⟨h2, h3, h4⟩
    · exact .inl h
    · exact .inr ⟨h2, by omega, by omega, h4⟩
theorem toS_l (l : List ByteArray) (z : ByteArray) (hb : l.length ≤ 1048576) : ∀ (rest pre : List ByteArray), l = pre ++ rest →
    Ev (fun k => laws_toStringS.l0 k l (pre ++ List.replicate rest.length z) ((pre.length : Nat) : Int)) l := by
  intro rest
  induction rest with
  | nil =>
    intro pre e
    refine Ev.step (fun k => by rw [laws_toStringS.l0]) ?_
    simp only [ix_end e, if_false]
    exact Ev.ret (fun _ => by simp [e])
  | cons x rest ih =>
    intro pre e
    have h1 := ih (pre ++ [x]) (by simp [e])
    refine Ev.step (fun k => by rw [laws_toStringS.l0]) ?_
    have hx : rdOf ByteArray.empty l ((pre.length : Nat) : Int) = x := ix_get e
    have hs : (pre ++ List.replicate (x :: rest).length z).set ((pre.length : Nat) : Int).toNat x = (pre ++ [x]) ++ List.replicate rest.length z := by
      simp only [List.length_cons, List.replicate_succ, Int.toNat_natCast]
      exact set_mid _ _ _ _ _ rfl
    have hl : ((pre.length : Nat) : Int) < (((pre ++ List.replicate (x :: rest).length z).length : Nat) : Int) := by
      simp
      omega
    simp only [ix_lt e, ix_nn, if_true, hl, hx, hs, ix_wrap e (by omega)]
    exact h1
theorem toS_ev (l : List ByteArray) (hb : l.length ≤ 1048576) : Ev (fun k => laws_toStringS.f k l) l := by
  unfold laws_toStringS.f
  have h0 : (0 : Int) ≤ ((l.length : Nat) : Int) := Int.natCast_nonneg _
  have h1 : l.length ≤ 17592186044416 := by omega
  simp only [h0, if_true, Int.toNat_natCast, h1]
  exact toS_l l _ hb l [] rfl
theorem eqS_l (l : List ByteArray) (hb : l.length ≤ 1048576) : ∀ (rest pre : List ByteArray), l = pre ++ rest → Ev (fun k => laws_eqStringS.l0 k l l ((pre.length : Nat) : Int)) true := by
  intro rest
  induction rest with
  | nil =>
    intro pre e
    refine Ev.step (fun k => by rw [laws_eqStringS.l0]) ?_
    simp only [ix_end e, if_false]
    exact Ev.now _
  | cons x rest ih =>
    intro pre e
    have h1 := ih (pre ++ [x]) (by simp [e])
    refine Ev.step (fun k => by rw [laws_eqStringS.l0]) ?_
    simp only [ix_lt e, ix_nn, if_true, ix_wrap e (by omega)]
    exact h1
theorem eqS_ev (l : List ByteArray) (hb : l.length ≤ 1048576) : Ev (fun k => laws_eqStringS.f k l l) true := by
  unfold laws_eqStringS.f
  simp only [if_true]
  exact eqS_l l hb l [] rfl

def Small (l : List (List ByteArray)) : Prop := l.length ≤ 1048576 ∧ ∀ x ∈ l, x.length ≤ 1048576 ∧ ∀ s ∈ x, s.size ≤ 1048576
theorem szSS_l (l : List (List ByteArray)) (hb : l.length ≤ 1048576) : ∀ (rest pre : List (List ByteArray)) (left : Int), l = pre ++ rest → 0 ≤ left → left ≤ 1048576 → (∀ x ∈ rest, x.length ≤ 9223372036854775807 ∧ ∀ s ∈ x, s.size ≤ 9223372036854775807) →
    ∃ r, Ev (fun k => laws_szStringSS.l0 k l left ((pre.length : Nat) : Int)) r ∧ (r < 0 ∨ 0 ≤ r ∧ r ≤ left ∧ ∀ x ∈ rest, x.length ≤ 1048576 ∧ ∀ s ∈ x, s.size ≤ 1048576) := by
  intro rest
  induction rest with
  | nil =>
    intro pre left e h0 h1 _
    refine ⟨left, Ev.step (fun k => by rw [laws_szStringSS.l0]) ?_, .inr ⟨h0, Int.le_refl _, by simp⟩⟩
    simp only [ix_end e, if_false]
    exact Ev.now _
  | cons x rest ih =>
    intro pre left e h0 h1 hs
    have hx : rd_L1 l ((pre.length : Nat) : Int) = x := ix_get e
    obtain ⟨hx1, hx2⟩ := hs x (by simp)
    obtain ⟨q, hq, hq'⟩ := szS_ev x left h0 h1 hx1 hx2
    rcases hq' with hq' | ⟨hq0, hq1, hq2, hq3⟩
    · refine ⟨-1, Ev.step (fun k => by rw [laws_szStringSS.l0]) ?_, .inl (by omega)⟩
      simp only [ix_lt e, ix_nn, if_true, hx]
      refine Ev.bind hq ?_
      simp only [hq', if_true]
      exact Ev.now _
    · obtain ⟨r, hr, h⟩ := ih (pre ++ [x]) q (by simp [e]) hq0 (by omega) (fun y hm => hs y (by simp [hm]))
      refine ⟨r, Ev.step (fun k => by rw [laws_szStringSS.l0]) ?_, ?_⟩
      · simp only [ix_lt e, ix_nn, if_true, hx]
        refine Ev.bind hq ?_
        simp only [show ¬ q < 0 by omega, if_false, ix_wrap e (by omega)]
        exact hr
      · rcases h with h | ⟨h2, h3, h4⟩
        · exact .inl h
        · refine .inr ⟨h2, by omega, fun y hm => ?_⟩
          rcases List.mem_cons.1 hm with rfl | hm
          · exact ⟨hq2, hq3⟩
          · exact h4 y hm
theorem szSS_ev (l : List (List ByteArray)) (left : Int) (h0 : 0 ≤ left) (h1 : left ≤ 1048576) (hl : l.length ≤ 9223372036854775807) (hs : ∀ x ∈ l, (x.length ≤ 9223372036854775807 ∧ ∀ s ∈ x, s.size ≤ 9223372036854775807)) :
    ∃ r, Ev (fun k => laws_szStringSS.f k l left) r ∧ (r < 0 ∨ ¬ r < 0 ∧ 0 ≤ r ∧ r ≤ left ∧ Small l) := by
  unfold laws_szStringSS.f
  have hw : wrap64 (left - ((l.length : Nat) : Int)) = left - ((l.length : Nat) : Int) := wrap_id (by omega) (by omega)
  simp only [hw]
  by_cases c : left - ((l.length : Nat) : Int) < 0
  · simp only [c, if_true]
    exact ⟨-1, Ev.now _, .inl (by omega)⟩
  · simp only [c, if_false]
    obtain ⟨r, hr, h⟩ := szSS_l l (by omega) l [] (left - ((l.length : Nat) : Int)) rfl (by omega) (by omega) hs
    refine ⟨r, hr, ?_⟩
    rcases h with h | ⟨h2, h3, h4⟩
    · exact .inl h
    · exact .inr ⟨by omega, h2, by omega, by omega, h4⟩
theorem toSS_l (l : List (List ByteArray)) (z : List ByteArray) (hb : Small l) : ∀ (rest pre : List (List ByteArray)), l = pre ++ rest →
    Ev (fun k => laws_toStringSS.l0 k l (pre ++ List.replicate rest.length z) ((pre.length : Nat) : Int)) l := by
  intro rest
  induction rest with
  | nil =>
    intro pre e
    refine Ev.step (fun k => by rw [laws_toStringSS.l0]) ?_
    simp only [ix_end e, if_false]
    exact Ev.ret (fun _ => by simp [e])
  | cons x rest ih =>
    intro pre e
    have h1 := ih (pre ++ [x]) (by simp [e])
    refine Ev.step (fun k => by rw [laws_toStringSS.l0]) ?_
    have hx : rd_L1 l ((pre.length : Nat) : Int) = x := ix_get e
    have hs : (pre ++ List.replicate (x :: rest).length z).set ((pre.length : Nat) : Int).toNat x = (pre ++ [x]) ++ List.replicate rest.length z := by
      simp only [List.length_cons, List.replicate_succ, Int.toNat_natCast]
      exact set_mid _ _ _ _ _ rfl
    have hl : ((pre.length : Nat) : Int) < (((pre ++ List.replicate (x :: rest).length z).length : Nat) : Int) := by
      simp
      omega
    have hb1 := hb.1
    simp only [ix_lt e, ix_nn, if_true, hx]
    refine Ev.bind (toS_ev x (hb.2 x (by simp [e])).1) ?_
    simp only [hl, if_true, hs, ix_wrap e (by omega)]
    exact h1
theorem toSS_ev (l : List (List ByteArray)) (hb : Small l) : Ev (fun k => laws_toStringSS.f k l) l := by
  unfold laws_toStringSS.f
  have h0 : (0 : Int) ≤ ((l.length : Nat) : Int) := Int.natCast_nonneg _
  have h1 : l.length ≤ 11728124029610 := by have := hb.1; omega
  simp only [h0, if_true, Int.toNat_natCast, h1]
  exact toSS_l l _ hb l [] rfl
theorem eqSS_l (l : List (List ByteArray)) (hb : Small l) : ∀ (rest pre : List (List ByteArray)), l = pre ++ rest → Ev (fun k => laws_eqStringSS.l0 k l l ((pre.length : Nat) : Int)) true := by
  intro rest
  induction rest with
  | nil =>
    intro pre e
    refine Ev.step (fun k => by rw [laws_eqStringSS.l0]) ?_
    simp only [ix_end e, if_false]
    exact Ev.now _
  | cons x rest ih =>
    intro pre e
    have h1 := ih (pre ++ [x]) (by simp [e])
    refine Ev.step (fun k => by rw [laws_eqStringSS.l0]) ?_
    have hx : rd_L1 l ((pre.length : Nat) : Int) = x := ix_get e
    have hb1 := hb.1
    simp only [ix_lt e, ix_nn, if_true, hx]
    refine Ev.bind (eqS_ev x (hb.2 x (by simp [e])).1) ?_
    simp only [if_true, ix_wrap e (by omega)]
    exact h1
theorem eqSS_ev (l : List (List ByteArray)) (hb : Small l) : Ev (fun k => laws_eqStringSS.f k l l) true := by
  unfold laws_eqStringSS.f
  simp only [if_true]
  exact eqSS_l l hb l [] rfl

theorem l1In_eq (a b c : Int) : spec_l1In.f a b c = some (decide (b ≤ a ∧ a ≤ c)) := by
  unfold spec_l1In.f
  split
  · next h => simp [show b ≤ a from h]
  · next h => simp [show ¬ b ≤ a from h]

theorem within_eq (a b c : Int) : impl_within.f a b c = some (decide (b ≤ a ∧ a ≤ c)) := by
  unfold impl_within.f
  split
  · next h => simp [show b ≤ a from h]
  · next h => simp [show ¬ b ≤ a from h]

theorem plain_eq : ∀ (k : Nat) (s : ByteArray) (a b i : Int), spec_pfLetters.l0 k s a b i = impl_isPlainText.l0 k s a b i := by
  intro k
  induction k with
  | zero => intros; rfl
  | succ k ih => intro s a b i; simp only [spec_pfLetters.l0, impl_isPlainText.l0, ih, l1In_eq, within_eq]
theorem proof_eq : ∀ (k : Nat) (l m : List ByteArray) (n i : Int), spec_pfGood.l0 k l m n i = impl_IsProof.l0 k l m n i := by
  intro k
  induction k with
  | zero => intros; rfl
  | succ k ih =>
    intro l m n i
    have hp : ∀ s, spec_pfLetters.f k s 0 40 = impl_isProofLine.f k s := fun s => by
      unfold spec_pfLetters.f impl_isProofLine.f impl_isPlainText.f
      rw [plain_eq]
      cases impl_isPlainText.l0 k s 0 40 0 <;> rfl
    simp only [spec_pfGood.l0, impl_IsProof.l0, ih, hp, l1In_eq, within_eq]
theorem pf_eq (k : Nat) (l : List ByteArray) : spec_pfGood.f k l = impl_IsProof.f k l := proof_eq k l l _ _
theorem states_eq : ∀ (k : Nat) (l m : List (List ByteArray)) (n i : Int), spec_rvGood.l0 k l m n i = impl_AreStates.l0 k l m n i := by
  intro k
  induction k with
  | zero => intros; rfl
  | succ k ih => intro l m n i; simp only [spec_rvGood.l0, impl_AreStates.l0, ih, pf_eq, l1In_eq, within_eq]
theorem rv_eq (k : Nat) (l : List (List ByteArray)) : spec_rvGood.f k l = impl_AreStates.f k l := states_eq k l l _ _
theorem plain_ex (s : ByteArray) (hs : s.size ≤ 1048576) (a b : Int) : ∀ (d i : Nat), i + d = s.size → ∃ r, Ev (fun k => impl_isPlainText.l0 k s a b ((i : Nat) : Int)) r := by
  intro d
  induction d with
  | zero =>
    intro i h
    refine ⟨decide (a ≤ ((s.size : Nat) : Int) ∧ ((s.size : Nat) : Int) ≤ b), Ev.step (fun k => by rw [impl_isPlainText.l0]) ?_⟩
    simp only [show ¬ ((i : Nat) : Int) < ((s.size : Nat) : Int) by omega, if_false, within_eq, Option.bind_some]
    exact Ev.now _
  | succ d ih =>
    intro i h
    obtain ⟨r, hr⟩ := ih (i + 1) (by omega)
    have h1 : ((i : Nat) : Int) < ((s.size : Nat) : Int) := by omega
    have h2 : (0 : Int) ≤ ((i : Nat) : Int) := by omega
    have h3 : wrap64 (((i : Nat) : Int) + 1) = ((i + 1 : Nat) : Int) := by
      rw [wrap_id (by omega) (by omega)]
      omega
    by_cases c1 : bt s ((i : Nat) : Int) = 32
    · refine ⟨r, Ev.step (fun k => by rw [impl_isPlainText.l0]) ?_⟩
      simp only [h1, h2, h3, if_true, c1]
      exact hr
    · by_cases c2 : bt s ((i : Nat) : Int) < 97
      · refine ⟨false, Ev.step (fun k => by rw [impl_isPlainText.l0]) ?_⟩
        simp only [h1, h2, if_true, c1, c2, if_false]
        exact Ev.now _
      · by_cases c3 : bt s ((i : Nat) : Int) > 122
        · refine ⟨false, Ev.step (fun k => by rw [impl_isPlainText.l0]) ?_⟩
          simp only [h1, h2, if_true, c1, c2, c3, if_false]
          exact Ev.now _
        · refine ⟨r, Ev.step (fun k => by rw [impl_isPlainText.l0]) ?_⟩
          simp only [h1, h2, h3, if_true, c1, c2, c3, if_false]
          exact hr
theorem proof_l (l : List ByteArray) (hb : l.length ≤ 1048576) (hs : ∀ s ∈ l, s.size ≤ 1048576) : ∀ (rest pre : List ByteArray), l = pre ++ rest →
    ∃ r, Ev (fun k => impl_IsProof.l0 k l l ((l.length : Nat) : Int) ((pre.length : Nat) : Int)) r ∧ (r = true → 1 ≤ l.length ∧ l.length ≤ 12) := by
  intro rest
  induction rest with
  | nil =>
    intro pre e
    refine ⟨decide (1 ≤ ((l.length : Nat) : Int) ∧ ((l.length : Nat) : Int) ≤ 12), Ev.step (fun k => by rw [impl_IsProof.l0]) ?_, fun h => ?_⟩
    · simp only [ix_end e, if_false, within_eq, Option.bind_some]
      exact Ev.now _
    · have := of_decide_eq_true h
      omega
  | cons x rest ih =>
    intro pre e
    obtain ⟨r, hr, hp⟩ := ih (pre ++ [x]) (by simp [e])
    have hx : rdOf ByteArray.empty l ((pre.length : Nat) : Int) = x := ix_get e
    obtain ⟨q, hq⟩ := plain_ex x (hs x (by simp [e])) 0 40 x.size 0 (by omega)
    have hq' : Ev (fun k => impl_isProofLine.f k x) q := by
      unfold impl_isProofLine.f impl_isPlainText.f
      exact Ev.bind hq (Ev.now _)
    cases q with
    | true =>
      refine ⟨r, Ev.step (fun k => by rw [impl_IsProof.l0]) ?_, hp⟩
      simp only [ix_lt e, ix_nn, if_true, hx, ix_wrap e (by omega)]
      exact Ev.bind hq' (by simpa using hr)
    | false =>
      refine ⟨false, Ev.step (fun k => by rw [impl_IsProof.l0]) ?_, by simp⟩
      simp only [ix_lt e, ix_nn, if_true, hx]
      exact Ev.bind hq' (Ev.ret (fun _ => by simp))
theorem proof_ex (l : List ByteArray) (hb : l.length ≤ 1048576) (hs : ∀ s ∈ l, s.size ≤ 1048576) : ∃ r, Ev (fun k => impl_IsProof.f k l) r ∧ (r = true → 1 ≤ l.length ∧ l.length ≤ 12) := proof_l l hb hs l [] rfl
theorem states_l (l : List (List ByteArray)) (hb : Small l) : ∀ (rest pre : List (List ByteArray)), l = pre ++ rest →
    ∃ r, Ev (fun k => impl_AreStates.l0 k l l ((l.length : Nat) : Int) ((pre.length : Nat) : Int)) r ∧ (r = true → 1 ≤ l.length ∧ l.length ≤ 6 ∧ ∀ x ∈ rest, 1 ≤ x.length ∧ x.length ≤ 12 ∧ x.length = (l.getD 0 []).length) := by
  have hb1 := hb.1
  intro rest
  induction rest with
  | nil =>
    intro pre e
    refine ⟨decide (1 ≤ ((l.length : Nat) : Int) ∧ ((l.length : Nat) : Int) ≤ 6), Ev.step (fun k => by rw [impl_AreStates.l0]) ?_, fun h => ?_⟩
    · simp only [ix_end e, if_false, within_eq, Option.bind_some]
      exact Ev.now _
    · have := of_decide_eq_true h
      exact ⟨by omega, by omega, by simp⟩
  | cons x rest ih =>
    intro pre e
    obtain ⟨r, hr, hp⟩ := ih (pre ++ [x]) (by simp [e])
    have hx : rd_L1 l ((pre.length : Nat) : Int) = x := ix_get e
    obtain ⟨hx1, hx2⟩ := hb.2 x (by simp [e])
    obtain ⟨q, hq, hq'⟩ := proof_ex x hx1 hx2
    have hpos : (0 : Int) < ((l.length : Nat) : Int) := by
      have := ix_lt e
      omega
    cases q with
    | false =>
      refine ⟨false, Ev.step (fun k => by rw [impl_AreStates.l0]) ?_, by simp⟩
      simp only [ix_lt e, ix_nn, if_true, hx]
      exact Ev.bind hq (Ev.ret (fun _ => by simp))
    | true =>
      by_cases c : ((x.length : Nat) : Int) = (((rd_L1 l 0).length : Nat) : Int)
      · refine ⟨r, Ev.step (fun k => by rw [impl_AreStates.l0]) ?_, fun h => ?_⟩
        · simp only [ix_lt e, ix_nn, if_true, hx]
          refine Ev.bind hq ?_
          simp only [hpos, if_true, c, ix_wrap e (by omega)]
          exact hr
        · obtain ⟨p1, p2, p3⟩ := hp h
          refine ⟨p1, p2, fun y hy => ?_⟩
          rcases List.mem_cons.1 hy with rfl | hy
          · obtain ⟨q1, q2⟩ := hq' rfl
            refine ⟨q1, q2, ?_⟩
            have : (rd_L1 l 0).length = (l.getD 0 []).length := rfl
            omega
          · exact p3 y hy
      · refine ⟨false, Ev.step (fun k => by rw [impl_AreStates.l0]) ?_, by simp⟩
        simp only [ix_lt e, ix_nn, if_true, hx]
        refine Ev.bind hq ?_
        simp only [hpos, if_true, c, if_false]
        exact Ev.now _
theorem states_ex (l : List (List ByteArray)) (hb : Small l) : ∃ r, Ev (fun k => impl_AreStates.f k l) r ∧ Ev (fun k => spec_rvGood.f k l) r ∧
    (r = true → 1 ≤ l.length ∧ l.length ≤ 6 ∧ ∀ x ∈ l, 1 ≤ x.length ∧ x.length ≤ 12 ∧ x.length = (l.getD 0 []).length) := by
  obtain ⟨r, h1, h2⟩ := states_l l hb l [] rfl
  exact ⟨r, h1, Ev.congr (fun k => rv_eq k l) h1, h2⟩

def sameB (a b : List ByteArray) : Bool := decide (a.map (fun s => s.toList) = b.map (fun s => s.toList))
theorem sameB_cons (x y : ByteArray) (a b : List ByteArray) : sameB (x :: a) (y :: b) = (decide (x.toList = y.toList) && sameB a b) := by
  unfold sameB
  by_cases h : x.toList = y.toList <;> simp [h]
theorem same_len {a b : List ByteArray} (h : sameB a b = true) : a.length = b.length := by
  have := congrArg List.length (of_decide_eq_true h)
  simpa using this
theorem rvSame_l (m l : List ByteArray) (hl : l.length ≤ 1048576) (hlen : l.length = m.length) : ∀ (rest restm pre prem : List ByteArray), l = pre ++ rest → m = prem ++ restm → pre.length = prem.length →
    Ev (fun k => spec_rvSame.l0 k m l ((l.length : Nat) : Int) ((pre.length : Nat) : Int)) (sameB rest restm) := by
  intro rest
  induction rest with
  | nil =>
    intro restm pre prem e em hp
    have : restm = [] := by
      have h1 := congrArg List.length e
      have h2 := congrArg List.length em
      simp at h1 h2
      exact List.length_eq_zero_iff.1 (by omega)
    subst this
    refine Ev.step (fun k => by rw [spec_rvSame.l0]) ?_
    simp only [ix_end e, if_false]
    exact Ev.ret (fun _ => by simp [sameB])
  | cons x rest ih =>
    intro restm pre prem e em hp
    match restm, em with
    | [], em =>
      have h1 := congrArg List.length e
      have h2 := congrArg List.length em
      simp at h1 h2
      omega
    | y :: restm, em =>
      have h1 := ih restm (pre ++ [x]) (prem ++ [y]) (by simp [e]) (by simp [em]) (by simp [hp])
      have hx : rdOf ByteArray.empty l ((pre.length : Nat) : Int) = x := ix_get e
      have hy : rdOf ByteArray.empty m ((pre.length : Nat) : Int) = y := by
        rw [hp]
        exact ix_get em
      have hlm : ((pre.length : Nat) : Int) < ((m.length : Nat) : Int) := by
        rw [hp]
        exact ix_lt em
      refine Ev.step (fun k => by rw [spec_rvSame.l0]) ?_
      simp only [ix_lt e, ix_nn, if_true, hx, hy, hlm, ix_wrap e (by omega), sameB_cons]
      by_cases c : x.toList = y.toList
      · simpa [c] using h1
      · simp only [c, if_false]
        exact Ev.ret (fun _ => by simp)
theorem rvSame_ev (l m : List ByteArray) (hl : l.length ≤ 1048576) : Ev (fun k => spec_rvSame.f k l m) (sameB l m) := by
  unfold spec_rvSame.f
  by_cases c : ((l.length : Nat) : Int) = ((m.length : Nat) : Int)
  · simp only [c, if_true]
    have hc : l.length = m.length := by omega
    have := rvSame_l m l hl hc l m [] [] rfl rfl rfl
    rw [hc] at this
    exact this
  · simp only [c, if_false]
    refine Ev.ret (fun _ => ?_)
    cases h : sameB l m with
    | false => rfl
    | true => exact absurd (by rw [same_len h]) c
def ch : List ByteArray → List ByteArray → Nat → List Int
  | x :: t, y :: u, i => if y.toList = x.toList then ch t u (i + 1) else (i : Int) :: ch t u (i + 1)
  | _, _, _ => []
theorem changed_l (m l : List ByteArray) (hl : l.length ≤ 1048576) (hlen : l.length = m.length) : ∀ (rest restm pre prem : List ByteArray) (acc : List Int), l = pre ++ rest → m = prem ++ restm → pre.length = prem.length → acc.length ≤ pre.length →
    Ev (fun k => impl_changedLines.l0 k m acc l ((l.length : Nat) : Int) ((pre.length : Nat) : Int)) (acc ++ ch rest restm pre.length) := by
  intro rest
  induction rest with
  | nil =>
    intro restm pre prem acc e em hp _
    refine Ev.step (fun k => by rw [impl_changedLines.l0]) ?_
    simp only [ix_end e, if_false]
    exact Ev.ret (fun _ => by simp [ch])
  | cons x rest ih =>
    intro restm pre prem acc e em hp ha
    match restm, em with
    | [], em =>
      have h1 := congrArg List.length e
      have h2 := congrArg List.length em
      simp at h1 h2
      omega
    | y :: restm, em =>
      have hx : rdOf ByteArray.empty l ((pre.length : Nat) : Int) = x := ix_get e
      have hy : rdOf ByteArray.empty m ((pre.length : Nat) : Int) = y := by
        rw [hp]
        exact ix_get em
      have hlm : ((pre.length : Nat) : Int) < ((m.length : Nat) : Int) := by
        rw [hp]
        exact ix_lt em
      have hal : acc.length < 17592186044416 := by
        have := ix_lt e
        omega
      refine Ev.step (fun k => by rw [impl_changedLines.l0]) ?_
      simp only [ix_lt e, ix_nn, if_true, hx, hy, hlm, ix_wrap e (by omega), hal, ch]
      by_cases c : y.toList = x.toList
      · simp only [c, if_true]
        have h1 := ih restm (pre ++ [x]) (prem ++ [y]) acc (by simp [e]) (by simp [em]) (by simp [hp]) (by simp; omega)
        simpa using h1
      · simp only [c, if_false]
        have h1 := ih restm (pre ++ [x]) (prem ++ [y]) (acc ++ [((pre.length : Nat) : Int)]) (by simp [e]) (by simp [em]) (by simp [hp]) (by simp; omega)
        simpa using h1
theorem changed_ev (l m : List ByteArray) (hl : l.length ≤ 1048576) (hlen : l.length = m.length) : Ev (fun k => impl_changedLines.f k l m) (ch l m 0) := by
  have := changed_l m l hl hlen l m [] [] [] rfl rfl rfl (by simp)
  simpa [impl_changedLines.f] using this
theorem ch_same : ∀ (a b : List ByteArray) (i : Nat), a.length = b.length → ((((ch a b i).length : Nat) : Int) = 0 ↔ sameB a b = true)
  | [], [], i, _ => by simp [ch, sameB]
  | x :: a, y :: b, i, h => by
    have ih := ch_same a b (i + 1) (by simpa using h)
    rw [sameB_cons, ch]
    by_cases c : y.toList = x.toList
    · simp only [c, if_true, decide_true, Bool.true_and]
      exact ih
    · have c' : ¬ x.toList = y.toList := fun h => c h.symm
      simp [c, c']
      omega
  | [], _ :: _, _, h => by simp at h
  | _ :: _, [], _, h => by simp at h
theorem areEqual_ev (l m : List ByteArray) (hl : l.length ≤ 1048576) : Ev (fun k => impl_areEqual.f k l m) (sameB l m) := by
  unfold impl_areEqual.f
  by_cases c : ((l.length : Nat) : Int) = ((m.length : Nat) : Int)
  · simp only [c, if_true]
    have hc : l.length = m.length := by omega
    refine Ev.bind (changed_ev l m hl hc) (Ev.ret (fun _ => ?_))
    have := ch_same l m 0 hc
    cases h : sameB l m with
    | true => simpa [h] using this
    | false => simpa [h] using this
  · simp only [c, if_false]
    refine Ev.ret (fun _ => ?_)
    cases h : sameB l m with
    | false => rfl
    | true => exact absurd (by rw [same_len h]) c
def st (lines : List ByteArray) : List (List ByteArray) → Nat → Int
  | [], _ => -1
  | x :: t, i => if sameB x lines = true then (i : Int) else st lines t (i + 1)
theorem st_ge (lines : List ByteArray) : ∀ (t : List (List ByteArray)) (i : Nat), st lines t i = -1 ∨ (i : Int) ≤ st lines t i ∧ st lines t i < (i : Int) + t.length
  | [], i => .inl rfl
  | x :: t, i => by
    rw [st]
    split
    · right
      simp
      omega
    · rcases st_ge lines t (i + 1) with h | h
      · exact .inl h
      · right
        simp
        omega
theorem rvState_l (lines : List ByteArray) (l : List (List ByteArray)) (hb : Small l) : ∀ (rest pre : List (List ByteArray)), l = pre ++ rest →
    Ev (fun k => spec_rvState.l0 k lines l ((l.length : Nat) : Int) ((pre.length : Nat) : Int)) (st lines rest pre.length) := by
  have hb1 := hb.1
  intro rest
  induction rest with
  | nil =>
    intro pre e
    refine Ev.step (fun k => by rw [spec_rvState.l0]) ?_
    simp only [ix_end e, if_false]
    exact Ev.now _
  | cons x rest ih =>
    intro pre e
    have h1 := ih (pre ++ [x]) (by simp [e])
    have hx : rd_L1 l ((pre.length : Nat) : Int) = x := ix_get e
    refine Ev.step (fun k => by rw [spec_rvState.l0]) ?_
    simp only [ix_lt e, ix_nn, if_true, hx, st]
    refine Ev.bind (rvSame_ev x lines (hb.2 x (by simp [e])).1) ?_
    simp only [ix_wrap e (by omega)]
    by_cases c : sameB x lines = true
    · simp only [c, if_true]
      exact Ev.now _
    · simp only [c, if_false]
      simpa using h1
theorem rvState_ev (l : List (List ByteArray)) (lines : List ByteArray) (hb : Small l) : Ev (fun k => spec_rvState.f k l lines) (st lines l 0) := rvState_l lines l hb l [] rfl
theorem stateOf_l (lines : List ByteArray) (l : List (List ByteArray)) (hb : Small l) : ∀ (rest pre : List (List ByteArray)), l = pre ++ rest →
    Ev (fun k => impl_stateOf.l0 k lines l ((l.length : Nat) : Int) ((pre.length : Nat) : Int)) (st lines rest pre.length) := by
  have hb1 := hb.1
  intro rest
  induction rest with
  | nil =>
    intro pre e
    refine Ev.step (fun k => by rw [impl_stateOf.l0]) ?_
    simp only [ix_end e, if_false]
    exact Ev.now _
  | cons x rest ih =>
    intro pre e
    have h1 := ih (pre ++ [x]) (by simp [e])
    have hx : rd_L1 l ((pre.length : Nat) : Int) = x := ix_get e
    refine Ev.step (fun k => by rw [impl_stateOf.l0]) ?_
    simp only [ix_lt e, ix_nn, if_true, hx, st]
    refine Ev.bind (areEqual_ev x lines (hb.2 x (by simp [e])).1) ?_
    simp only [ix_wrap e (by omega)]
    by_cases c : sameB x lines = true
    · simp only [c, if_true]
      exact Ev.now _
    · simp only [c, if_false]
      simpa using h1
theorem stateOf_ev (l : List (List ByteArray)) (lines : List ByteArray) (hb : Small l) : Ev (fun k => impl_stateOf.f k l lines) (st lines l 0) := stateOf_l lines l hb l [] rfl

theorem eqI_l (l : List Int) (hb : l.length ≤ 1048576) : ∀ (rest pre : List Int), l = pre ++ rest → Ev (fun k => laws_eqIntS.l0 k l l ((pre.length : Nat) : Int)) true := by
  intro rest
  induction rest with
  | nil =>
    intro pre e
    refine Ev.step (fun k => by rw [laws_eqIntS.l0]) ?_
    simp only [ix_end e, if_false]
    exact Ev.now _
  | cons x rest ih =>
    intro pre e
    have h1 := ih (pre ++ [x]) (by simp [e])
    refine Ev.step (fun k => by rw [laws_eqIntS.l0]) ?_
    simp only [ix_lt e, ix_nn, if_true, ix_wrap e (by omega)]
    exact h1
theorem eqI_ev (l : List Int) (hb : l.length ≤ 1048576) : Ev (fun k => laws_eqIntS.f k l l) true := by
  unfold laws_eqIntS.f
  simp only [if_true]
  exact eqI_l l hb l [] rfl
def ups : Nat → Int → List Int
  | 0, _ => []
  | n + 1, a => a :: ups n (a + 1)
theorem ups_len : ∀ (n : Nat) (a : Int), (ups n a).length = n
  | 0, _ => rfl
  | n + 1, a => by simp [ups, ups_len n (a + 1)]
theorem markI_l : ∀ (rest pre : List Int) (a : Int), (pre ++ rest).length ≤ 1048576 → 0 ≤ a → a + rest.length ≤ 4194304 →
    Ev (fun k => laws_markIntS.l0 k (pre ++ rest) a ((pre.length : Nat) : Int)) (a + rest.length, pre ++ ups rest.length a) := by
  intro rest
  induction rest with
  | nil =>
    intro pre a _ _ _
    refine Ev.step (fun k => by rw [laws_markIntS.l0]) ?_
    simp only [ix_end (rfl : pre ++ [] = pre ++ []), if_false]
    exact Ev.ret (fun _ => by simp [ups])
  | cons x rest ih =>
    intro pre a hb h0 h1
    have e : pre ++ x :: rest = pre ++ x :: rest := rfl
    have hs : (pre ++ x :: rest).set ((pre.length : Nat) : Int).toNat a = (pre ++ [a]) ++ rest := by
      rw [Int.toNat_natCast]
      exact set_mid _ _ _ _ _ rfl
    have hw : wrap64 (a + 1) = a + 1 := wrap_id (by omega) (by simp at h1; omega)
    have hw2 : wrap64 (((pre.length : Nat) : Int) + 1) = (((pre ++ [a]).length : Nat) : Int) := by
      simp at hb
      rw [wrap_id (by omega) (by omega)]
      simp
    have hi := ih (pre ++ [a]) (a + 1) (by simpa using hb) (by omega) (by simp at h1; omega)
    refine Ev.step (fun k => by rw [laws_markIntS.l0]) ?_
    simp only [ix_lt e, ix_nn, if_true, hs, hw, hw2]
    have e2 : (a + ((x :: rest).length : Nat), pre ++ ups (x :: rest).length a) = (a + 1 + (rest.length : Nat), pre ++ [a] ++ ups rest.length (a + 1)) := by
      simp [ups]
      omega
    rw [e2]
    exact hi
theorem markI_ev (l : List Int) (hb : l.length ≤ 1048576) : Ev (fun k => laws_markIntS.f k l 1) (1 + l.length, ups l.length 1) := markI_l l [] 1 hb (by omega) (by omega)
theorem heldI_l (l : List Int) (hb : l.length ≤ 1048576) : ∀ (n : Nat) (pre : List Int) (a : Int), l = pre ++ ups n a → 0 ≤ a → a + n ≤ 4194304 → Ev (fun k => laws_heldIntS.l0 k l a ((pre.length : Nat) : Int)) (a + n) := by
  intro n
  induction n with
  | zero =>
    intro pre a e _ _
    refine Ev.step (fun k => by rw [laws_heldIntS.l0]) ?_
    simp only [ix_end e, if_false]
    exact Ev.ret (fun _ => by simp)
  | succ n ih =>
    intro pre a e h0 h1
    rw [ups] at e
    have hx : rd l ((pre.length : Nat) : Int) = a := ix_get e
    have hw : wrap64 (a + 1) = a + 1 := wrap_id (by omega) (by omega)
    have hi := ih (pre ++ [a]) (a + 1) (by simp [e]) (by omega) (by omega)
    refine Ev.step (fun k => by rw [laws_heldIntS.l0]) ?_
    simp only [ix_lt e, ix_nn, if_true, hx, hw, ix_wrap e (by omega)]
    rw [show a + ((n + 1 : Nat) : Int) = a + 1 + (n : Int) by omega]
    exact hi
theorem heldI_ev (n : Nat) (hb : n ≤ 1048576) : Ev (fun k => laws_heldIntS.f k (ups n 1) 1) (1 + n) := heldI_l (ups n 1) (by rw [ups_len]; exact hb) n [] 1 rfl (by omega) (by omega)

theorem markText_l : ∀ (n : Nat) (s : ByteArray), s.size + n ≤ 4503599627370496 → ∃ t, Ev (fun k => laws_markText.l0 k (n : Int) s) t := by
  intro n
  induction n using Nat.strongRecOn with
  | ind n ih =>
    intro s hs
    by_cases c : ((n : Nat) : Int) > 0
    · have hd : wrap64 (Int.tdiv ((n : Nat) : Int) 10) = ((n / 10 : Nat) : Int) := by
        rw [Int.tdiv_eq_ediv_of_nonneg (by omega)]
        have : ((n : Nat) : Int) / 10 = ((n / 10 : Nat) : Int) := by omega
        rw [this]
        exact wrap_id (by omega) (by omega)
      have hsz : (strOfNums ([(wrap64 (48 + (Int.tmod ((n : Nat) : Int) 10))) % 256] : List Int)).size = 1 := by simp [strOfNums_size]
      obtain ⟨t, ht⟩ := ih (n / 10) (by omega) (strOfNums ([(wrap64 (48 + (Int.tmod ((n : Nat) : Int) 10))) % 256] : List Int) ++ s) (by rw [ByteArray.size_append, hsz]; omega)
      refine ⟨t, Ev.step (fun k => by rw [laws_markText.l0]) ?_⟩
      have hle : (strOfNums ([(wrap64 (48 + (Int.tmod ((n : Nat) : Int) 10))) % 256] : List Int)).size + s.size ≤ 9223372036854775807 := by rw [hsz]; omega
      simp only [c, if_true, Option.bind_some, hle, hd]
      exact ht
    · refine ⟨(⟨#[109]⟩ : ByteArray) ++ s, Ev.step (fun k => by rw [laws_markText.l0]) ?_⟩
      have hle : 1 + s.size ≤ 9223372036854775807 := by omega
      simp only [c, if_false, hle, if_true]
      exact Ev.now _
theorem markText_ev (a : Int) (h0 : 0 ≤ a) (h1 : a ≤ 2251799813685248) : ∃ t, Ev (fun k => laws_markText.f k a) t := by
  unfold laws_markText.f
  by_cases c : a ≤ 0
  · simp only [c, if_true]
    exact ⟨_, Ev.now _⟩
  · simp only [c, if_false]
    have := markText_l a.toNat (⟨#[]⟩ : ByteArray) (by simp [ByteArray.size]; omega)
    rwa [Int.toNat_of_nonneg h0] at this
theorem markS_l : ∀ (d i : Nat) (l : List ByteArray) (a : Int), l.length ≤ 1048576 → i + d = l.length → 0 ≤ a → a + d ≤ 2251799813685248 → ∃ y : List ByteArray, y.length = l.length ∧ Ev (fun k => laws_markStringS.l0 k l a ((i : Nat) : Int)) (a + d, y) := by
  intro d
  induction d with
  | zero =>
    intro i l a hl hi _ _
    refine ⟨l, rfl, Ev.step (fun k => by rw [laws_markStringS.l0]) ?_⟩
    simp only [show ¬ ((i : Nat) : Int) < ((l.length : Nat) : Int) by omega, if_false]
    exact Ev.ret (fun _ => by simp)
  | succ d ih =>
    intro i l a hl hi h0 h1
    obtain ⟨t, ht⟩ := markText_ev a h0 (by omega)
    have c1 : ((i : Nat) : Int) < ((l.length : Nat) : Int) := by omega
    have c2 : (0 : Int) ≤ ((i : Nat) : Int) := by omega
    have w1 : wrap64 (a + 1) = a + 1 := wrap_id (by omega) (by omega)
    have w3 : wrap64 (((i : Nat) : Int) + 1) = ((i + 1 : Nat) : Int) := by
      rw [wrap_id (by omega) (by omega)]
      omega
    obtain ⟨y, hyl, hy⟩ := ih (i + 1) (l.set ((i : Nat) : Int).toNat t) (a + 1) (by simpa using hl) (by simp; omega) (by omega) (by omega)
    refine ⟨y, by simpa using hyl, Ev.step (fun k => by rw [laws_markStringS.l0]) ?_⟩
    simp only [c1, if_true]
    refine Ev.bind ht ?_
    simp only [c2, if_true, w1, w3]
    rw [show a + ((d + 1 : Nat) : Int) = a + 1 + (d : Int) by omega]
    exact hy
theorem markS_ev (l : List ByteArray) (a : Int) (hl : l.length ≤ 1048576) (h0 : 0 ≤ a) (h1 : a ≤ 1125899906842624) : ∃ y : List ByteArray, y.length = l.length ∧ Ev (fun k => laws_markStringS.f k l a) (a + l.length, y) :=
  markS_l l.length 0 l a hl (by omega) h0 (by omega)

theorem markSS_l : ∀ (d i : Nat) (l : List (List ByteArray)) (a : Int), l.length ≤ 1048576 → (∀ x ∈ l, x.length ≤ 1048576) → i + d = l.length → 0 ≤ a → a + d * 1048576 ≤ 1125899906842624 → ∃ r, Ev (fun k => laws_markStringSS.l0 k l a ((i : Nat) : Int)) r ∧ 0 ≤ r ∧ r ≤ a + d * 1048576 := by
  intro d
  induction d with
  | zero =>
    intro i l a hl _ hi h0 _
    refine ⟨a, Ev.step (fun k => by rw [laws_markStringSS.l0]) ?_, h0, by omega⟩
    simp only [show ¬ ((i : Nat) : Int) < ((l.length : Nat) : Int) by omega, if_false]
    exact Ev.now _
  | succ d ih =>
    intro i l a hl hx hi h0 h1
    have hlt : i < l.length := by omega
    have hrd : laws_markStringSS.rd l ((i : Nat) : Int) = l[i] := by
      unfold laws_markStringSS.rd
      rw [Int.toNat_natCast, List.getD_eq_getElem?_getD, List.getElem?_eq_getElem hlt]
      rfl
    have hxi := hx l[i] (List.getElem_mem _)
    obtain ⟨y, hyl, hy⟩ := markS_ev l[i] a hxi h0 (by omega)
    have c1 : ((i : Nat) : Int) < ((l.length : Nat) : Int) := by omega
    have c2 : (0 : Int) ≤ ((i : Nat) : Int) := by omega
    have w3 : wrap64 (((i : Nat) : Int) + 1) = ((i + 1 : Nat) : Int) := by
      rw [wrap_id (by omega) (by omega)]
      omega
    obtain ⟨r, hr, hr0, hr1⟩ := ih (i + 1) (l.set ((i : Nat) : Int).toNat y) (a + (l[i]).length) (by simpa using hl)
      (fun z hz => by
        rcases List.mem_or_eq_of_mem_set hz with h | rfl
        · exact hx z h
        · omega) (by simp; omega) (by omega) (by omega)
    refine ⟨r, Ev.step (fun k => by rw [laws_markStringSS.l0]) ?_, hr0, by omega⟩
    simp only [c1, c2, if_true, hrd]
    refine Ev.bind hy ?_
    simp only [w3]
    exact hr
theorem markSS_ev (l : List (List ByteArray)) (a : Int) (hb : Small l) (h0 : 0 ≤ a) (h1 : a ≤ 4398046511104) : ∃ r, Ev (fun k => laws_markStringSS.f k l a) r ∧ 0 ≤ r ∧ r ≤ a + 1099511627776 := by
  have hb1 := hb.1
  obtain ⟨r, hr, h2, h3⟩ := markSS_l l.length 0 l a hb.1 (fun x hx => (hb.2 x hx).1) (by omega) h0 (by omega)
  exact ⟨r, hr, h2, by omega⟩

theorem copies_eq : ∀ (k : Nat) (l m : List (List ByteArray)) (n i : Int), spec_rvCopies.l0 k l m n i = impl_areCopies.l0 k l m n i := by
  intro k
  induction k with
  | zero => intros; rfl
  | succ k ih => intro l m n i; simp only [spec_rvCopies.l0, impl_areCopies.l0, ih, pf_eq]
theorem cp_eq (k : Nat) (l : List (List ByteArray)) : spec_rvCopies.f k l = impl_areCopies.f k l := copies_eq k l l _ _
theorem copies_l (l : List (List ByteArray)) (hb : Small l) : ∀ (rest pre : List (List ByteArray)), l = pre ++ rest →
    ∃ r, Ev (fun k => impl_areCopies.l0 k l l ((l.length : Nat) : Int) ((pre.length : Nat) : Int)) r := by
  have hb1 := hb.1
  intro rest
  induction rest with
  | nil =>
    intro pre e
    refine ⟨decide (((l.length : Nat) : Int) ≤ 10), Ev.step (fun k => by rw [impl_areCopies.l0]) ?_⟩
    simp only [ix_end e, if_false]
    exact Ev.now _
  | cons x rest ih =>
    intro pre e
    obtain ⟨r, hr⟩ := ih (pre ++ [x]) (by simp [e])
    have hx : rd_L1 l ((pre.length : Nat) : Int) = x := ix_get e
    obtain ⟨hx1, hx2⟩ := hb.2 x (by simp [e])
    obtain ⟨q, hq, _⟩ := proof_ex x hx1 hx2
    cases q with
    | false =>
      refine ⟨false, Ev.step (fun k => by rw [impl_areCopies.l0]) ?_⟩
      simp only [ix_lt e, ix_nn, if_true, hx]
      exact Ev.bind hq (Ev.ret (fun _ => by simp))
    | true =>
      refine ⟨r, Ev.step (fun k => by rw [impl_areCopies.l0]) ?_⟩
      simp only [ix_lt e, ix_nn, if_true, hx]
      refine Ev.bind hq ?_
      simp only [if_true, ix_wrap e (by omega)]
      exact hr
theorem copies_ex (l : List (List ByteArray)) (hb : Small l) : ∃ r, Ev (fun k => impl_areCopies.f k l) r ∧ Ev (fun k => spec_rvCopies.f k l) r := by
  obtain ⟨r, h⟩ := copies_l l hb l [] rfl
  exact ⟨r, h, Ev.congr (fun k => cp_eq k l) h⟩
def cn (l : List (List ByteArray)) : List (List ByteArray) → List Int → List Int
  | [], a => a
  | x :: t, a => cn l t (if st x l 0 ≥ 0 then a.set (st x l 0).toNat (wrap64 ((rd a (st x l 0)) + 1)) else a)
theorem cn_len (l : List (List ByteArray)) : ∀ (t : List (List ByteArray)) (a : List Int), (cn l t a).length = a.length
  | [], a => rfl
  | x :: t, a => by
    rw [cn, cn_len l t]
    split <;> simp
theorem cn_l (F : Nat → List (List ByteArray) → List Int → List (List ByteArray) → Int → Int → Option (List Int × Bool)) (G : Nat → List (List ByteArray) → List ByteArray → Option Int)
    (hF : ∀ k x0 x6 x21 x22 x23, F (k + 1) x0 x6 x21 x22 x23 = if x23 < x22 then (if 0 ≤ x23 then (if x23 < (x21.length : Int) then ((G k x0 (rd_L1 x21 x23)).bind fun t => (if t ≥ 0 then (if 0 ≤ t then (if t < (x6.length : Int) then (F k x0 (x6.set (t : Int).toNat (wrap64 ((rd x6 t) + 1))) x21 x22 (wrap64 (x23 + 1))) else (none)) else (none)) else (F k x0 x6 x21 x22 (wrap64 (x23 + 1))))) else (none)) else (none)) else (some (x6, true)))
    (l m : List (List ByteArray)) (hG : ∀ x, Ev (fun k => G k l x) (st x l 0)) (hm : m.length ≤ 1048576) :
    ∀ (rest pre : List (List ByteArray)) (acc : List Int), m = pre ++ rest → acc.length = l.length → Ev (fun k => F k l acc m ((m.length : Nat) : Int) ((pre.length : Nat) : Int)) (cn l rest acc, true) := by
  intro rest
  induction rest with
  | nil =>
    intro pre acc e _
    refine Ev.step (fun k => by rw [hF]) ?_
    simp only [ix_end e, if_false]
    exact Ev.now _
  | cons x rest ih =>
    intro pre acc e ha
    have hx : rd_L1 m ((pre.length : Nat) : Int) = x := ix_get e
    refine Ev.step (fun k => by rw [hF]) ?_
    simp only [ix_lt e, ix_nn, if_true, hx, cn]
    refine Ev.bind (hG x) ?_
    simp only [ix_wrap e (by omega)]
    by_cases c : st x l 0 ≥ 0
    · have c1 : st x l 0 < ((acc.length : Nat) : Int) := by
        rcases st_ge x l 0 with h | h
        · omega
        · rw [ha]
          have := h.2
          omega
      have c0 : 0 ≤ st x l 0 := c
      simp only [c, c0, c1, if_true]
      have := ih (pre ++ [x]) (acc.set (st x l 0).toNat (wrap64 ((rd acc (st x l 0)) + 1))) (by simp [e]) (by simpa using ha)
      simpa using this
    · simp only [c, if_false]
      have := ih (pre ++ [x]) acc (by simp [e]) ha
      simpa using this
theorem fns (l m : List (List ByteArray)) (hb : Small l) (hm : Small m) : ∃ r : List Int × Bool, r.1.length ≤ 1048576 ∧ Ev (fun k => spec_CountInState.f k l m) r ∧ Ev (fun k => impl_CountInState.f k l m) r := by
  obtain ⟨r, hi, hsp, hr⟩ := states_ex l hb
  obtain ⟨q, hq, hq'⟩ := copies_ex m hm
  have hl1 := hb.1
  have c0 : (0 : Int) ≤ ((l.length : Nat) : Int) := by omega
  have c1 : (((l.length : Nat) : Int) : Int).toNat ≤ 35184372088832 := by omega
  have hz : (List.replicate (((l.length : Nat) : Int) : Int).toNat (0 : Int)).length = l.length := by simp
  refine ⟨if r = true ∧ q = true then (cn l m (List.replicate (((l.length : Nat) : Int) : Int).toNat (0 : Int)), true) else ([], false), ?_, ?_, ?_⟩
  · split
    · simp only [cn_len, hz]
      exact hl1
    · simp
  · unfold spec_CountInState.f
    refine Ev.bind hsp ?_
    cases r with
    | false =>
      simp only [Bool.false_eq_true, if_false, false_and]
      refine Ev.step (fun k => by rw [spec_CountInState.j0]) ?_
      exact Ev.ret (fun _ => by simp)
    | true =>
      simp only [if_true]
      refine Ev.bind hq' ?_
      refine Ev.step (fun k => by rw [spec_CountInState.j0]) ?_
      cases q with
      | false => exact Ev.ret (fun _ => by simp)
      | true =>
        simp only [Bool.not_true, Bool.false_eq_true, if_false, c0, c1, if_true, and_self]
        exact cn_l spec_CountInState.l0 spec_rvState.f (fun k a b c d e => by rw [spec_CountInState.l0]) l m (fun x => rvState_ev l x hb) hm.1 m [] _ rfl hz
  · unfold impl_CountInState.f
    refine Ev.bind hi ?_
    cases r with
    | false =>
      simp only [Bool.false_eq_true, if_false, false_and]
      refine Ev.step (fun k => by rw [impl_CountInState.j0]) ?_
      exact Ev.ret (fun _ => by simp)
    | true =>
      simp only [if_true]
      refine Ev.bind hq ?_
      refine Ev.step (fun k => by rw [impl_CountInState.j0]) ?_
      cases q with
      | false => exact Ev.ret (fun _ => by simp)
      | true =>
        simp only [Bool.not_true, Bool.false_eq_true, if_false, c0, c1, if_true, and_self]
        exact cn_l impl_CountInState.l0 impl_stateOf.f (fun k a b c d e => by rw [impl_CountInState.l0]) l m (fun x => stateOf_ev l x hb) hm.1 m [] _ rfl hz
theorem proved : Stmt.FnExactCountInState := by
  intro l m hl hs hl' hs'
  refine Ev.law (g := fun k => laws_FnExactCountInState.f k l m) ?_
  unfold laws_FnExactCountInState.f
  obtain ⟨s, hsz, h⟩ := szSS_ev l 1048576 (by omega) (by omega) hl hs
  refine Ev.bind hsz ?_
  rcases h with h | ⟨h, hs0, hs1, hb⟩
  · simp only [h, if_true]
    exact Ev.now _
  simp only [h, if_false]
  obtain ⟨s', hsz', h'⟩ := szSS_ev m s hs0 hs1 hl' hs'
  refine Ev.bind hsz' ?_
  rcases h' with h' | ⟨h', _, _, hm⟩
  · simp only [h', if_true]
    exact Ev.now _
  simp only [h', if_false]
  refine Ev.bind (toSS_ev l hb) ?_
  refine Ev.bind (toSS_ev m hm) ?_
  obtain ⟨r, hlen, hr, hr'⟩ := fns l m hb hm
  obtain ⟨q, hq, hq0, hq1⟩ := markSS_ev l 1 hb (by omega) (by omega)
  obtain ⟨q', hq', hq0', _⟩ := markSS_ev m q hm (by omega) (by omega)
  refine Ev.bind hr ?_
  refine Ev.bind (toSS_ev l hb) ?_
  refine Ev.bind (toSS_ev m hm) ?_
  refine Ev.bind hr' ?_
  refine Ev.bind (eqI_ev _ hlen) ?_
  simp only [bne_self_eq_false, if_true]
  refine Ev.step (fun k => by rw [laws_FnExactCountInState.j0]) ?_
  simp only [Bool.false_eq_true, if_false]
  refine Ev.bind (toSS_ev l hb) ?_
  refine Ev.bind (eqSS_ev _ hb) ?_
  simp only [if_true]
  refine Ev.bind (toSS_ev m hm) ?_
  refine Ev.bind (eqSS_ev _ hm) ?_
  simp only [if_true]
  refine Ev.bind hq ?_
  refine Ev.bind hq' ?_
  simp only [show ¬ q' < 0 by omega, if_false]
  refine Ev.bind (eqI_ev _ hlen) ?_
  simp only [bne_self_eq_false, if_true]
  refine Ev.step (fun k => by rw [laws_FnExactCountInState.j1]) ?_
  simp only [Bool.false_eq_true, if_false]
  refine Ev.bind (markI_ev _ hlen) ?_
  refine Ev.bind (heldI_ev _ hlen) ?_
  simp only [show ¬ (1 + (r.1.length : Int)) < 0 by omega, if_false, if_true]
  refine Ev.bind (toSS_ev l hb) ?_
  refine Ev.bind (toSS_ev m hm) ?_
  refine Ev.bind hr' ?_
  refine Ev.bind (eqI_ev _ hlen) ?_
  simp only [bne_self_eq_false, if_true]
  refine Ev.step (fun k => by rw [laws_FnExactCountInState.j2]) ?_
  simp only [Bool.false_eq_true, if_false]
  refine Ev.bind (heldI_ev _ hlen) ?_
  simp only [show ¬ (1 + (r.1.length : Int)) < 0 by omega, if_false, if_true]
  exact Ev.now _

end Go.Proofs.Ytcnhdcgiapjpoaa.PureFnExactCountInState
