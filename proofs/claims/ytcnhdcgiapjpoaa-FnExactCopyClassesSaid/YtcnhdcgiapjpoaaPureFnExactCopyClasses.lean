/- The law FnExactCopyClasses holds of the printed functions at every argument. No condition beyond what every readable argument meets. -/
import Derived.Test.YtcnhdcgiapjpoaaStmtFnExactCopyClasses
import Derived.Test.YtcnhdcgiapjpoaaBase
set_option linter.unusedSimpArgs false
set_option linter.unusedVariables false
namespace Go.Proofs.Ytcnhdcgiapjpoaa.PureFnExactCopyClasses
open Go.Proofs.Ytcnhdcgiapjpoaa.PFnExactCopyClasses Go.RowKit Go.Proofs.YtcnhdcgiapjpoaaW.PrintWords Go.Proofs.YtcnhdcgiapjpoaaW.PrintLast Go.Proofs.YtcnhdcgiapjpoaaW.PrintMore

open Go.Proofs.Ytcnhdcgiapjpoaa.Base
theorem szS_l (l : List ByteArray) (hb : l.length ≤ 1048576) : ∀ (rest pre : List ByteArray) (left : Int), l = pre ++ rest → 0 ≤ left → left ≤ 1048576 → (∀ s ∈ rest, s.size ≤ 9223372036854775807) →
    ∃ r, Ev (fun k => laws_szStringS.l0 k l left ((pre.length : Nat) : Int)) r ∧ (r < 0 ∨ 0 ≤ r ∧ r ≤ left ∧ ∀ s ∈ rest, s.size ≤ 1048576) := by
  intro rest
  induction rest with
  | nil =>
    intro pre left e h0 h1 _
    refine ⟨left, Ev.step (fun k => by rw [laws_szStringS.l0]) ?_, .inr ⟨h0, Int.le_refl _, by simp⟩⟩
    simp only [ix_end e, if_false]
    exact Ev.now _
  | cons x rest ih =>
    intro pre left e h0 h1 hs
    have hx : rdOf ByteArray.empty l ((pre.length : Nat) : Int) = x := ix_get e
    have hxs := hs x (by simp)
    have hw : wrap64 (left - ((x.size : Nat) : Int)) = left - ((x.size : Nat) : Int) := wrap_id (by omega) (by omega)
    by_cases c : left - ((x.size : Nat) : Int) < 0
    · refine ⟨-1, Ev.step (fun k => by rw [laws_szStringS.l0]) ?_, .inl (by omega)⟩
      simp only [ix_lt e, ix_nn, if_true, hx, hw, c]
      exact Ev.now _
    · obtain ⟨r, hr, h⟩ := ih (pre ++ [x]) (left - ((x.size : Nat) : Int)) (by simp [e]) (by omega) (by omega) (fun s hm => hs s (by simp [hm]))
      refine ⟨r, Ev.step (fun k => by rw [laws_szStringS.l0]) ?_, ?_⟩
      · simp only [ix_lt e, ix_nn, if_true, hx, hw, c, if_false, ix_wrap e (by omega)]
        exact hr
      · rcases h with h | ⟨h2, h3, h4⟩
        · exact .inl h
        · refine .inr ⟨h2, by omega, fun s hm => ?_⟩
          rcases List.mem_cons.1 hm with rfl | hm
          · omega
          · exact h4 s hm
theorem szS_ev (l : List ByteArray) (left : Int) (h0 : 0 ≤ left) (h1 : left ≤ 1048576) (hl : l.length ≤ 9223372036854775807) (hs : ∀ s ∈ l, s.size ≤ 9223372036854775807) :
    ∃ r, Ev (fun k => laws_szStringS.f k l left) r ∧ (r < 0 ∨ 0 ≤ r ∧ r ≤ left ∧ l.length ≤ 1048576 ∧ ∀ s ∈ l, s.size ≤ 1048576) := by
  unfold laws_szStringS.f
  have hw : wrap64 (left - ((l.length : Nat) : Int)) = left - ((l.length : Nat) : Int) := wrap_id (by omega) (by omega)
  simp only [hw]
  by_cases c : left - ((l.length : Nat) : Int) < 0
  · simp only [c, if_true]
    exact ⟨-1, Ev.now _, .inl (by omega)⟩
  · simp only [c, if_false]
    obtain ⟨r, hr, h⟩ := szS_l l (by omega) l [] (left - ((l.length : Nat) : Int)) rfl (by omega) (by omega) hs
    refine ⟨r, hr, ?_⟩
    rcases h with h | ⟨h2, h3, h4⟩
    · exact .inl h
    · exact .inr ⟨h2, by omega, by omega, h4⟩
theorem toS_l (l : List ByteArray) (z : ByteArray) (hb : l.length ≤ 1048576) : ∀ (rest pre : List ByteArray), l = pre ++ rest →
    Ev (fun k => laws_toStringS.l0 k l (pre ++ List.replicate rest.length z) ((pre.length : Nat) : Int)) l := by
  intro rest
  induction rest with
  | nil =>
    intro pre e
    refine Ev.step (fun k => by rw [laws_toStringS.l0]) ?_
    simp only [ix_end e, if_false]
    exact Ev.ret (fun _ => by simp [e])
  | cons x rest ih =>
    intro pre e
    have h1 := ih (pre ++ [x]) (by simp [e])
    refine Ev.step (fun k => by rw [laws_toStringS.l0]) ?_
    have hx : rdOf ByteArray.empty l ((pre.length : Nat) : Int) = x := ix_get e
    have hs : (pre ++ List.replicate (x :: rest).length z).set ((pre.length : Nat) : Int).toNat x = (pre ++ [x]) ++ List.replicate rest.length z := by
      simp only [List.length_cons, List.replicate_succ, Int.toNat_natCast]
      exact set_mid _ _ _ _ _ rfl
    have hl : ((pre.length : Nat) : Int) < (((pre ++ List.replicate (x :: rest).length z).length : Nat) : Int) := by
      simp
      omega
    simp only [ix_lt e, ix_nn, if_true, hl, hx, hs, ix_wrap e (by omega)]
    exact h1
theorem toS_ev (l : List ByteArray) (hb : l.length ≤ 1048576) : Ev (fun k => laws_toStringS.f k l) l := by
  unfold laws_toStringS.f
  have h0 : (0 : Int) ≤ ((l.length : Nat) : Int) := Int.natCast_nonneg _
  have h1 : l.length ≤ 17592186044416 := by omega
  simp only [h0, if_true, Int.toNat_natCast, h1]
  exact toS_l l _ hb l [] rfl
theorem eqS_l (l : List ByteArray) (hb : l.length ≤ 1048576) : ∀ (rest pre : List ByteArray), l = pre ++ rest → Ev (fun k => laws_eqStringS.l0 k l l ((pre.length : Nat) : Int)) true := by
  intro rest
  induction rest with
  | nil =>
    intro pre e
    refine Ev.step (fun k => by rw [laws_eqStringS.l0]) ?_
    simp only [ix_end e, if_false]
    exact Ev.now _
  | cons x rest ih =>
    intro pre e
    have h1 := ih (pre ++ [x]) (by simp [e])
    refine Ev.step (fun k => by rw [laws_eqStringS.l0]) ?_
    simp only [ix_lt e, ix_nn, if_true, ix_wrap e (by omega)]
    exact h1
theorem eqS_ev (l : List ByteArray) (hb : l.length ≤ 1048576) : Ev (fun k => laws_eqStringS.f k l l) true := by
  unfold laws_eqStringS.f
  simp only [if_true]
  exact eqS_l l hb l [] rfl

def Small (l : List (List ByteArray)) : Prop := l.length ≤ 1048576 ∧ ∀ x ∈ l, x.length ≤ 1048576 ∧ ∀ s ∈ x, s.size ≤ 1048576
theorem szSS_l (l : List (List ByteArray)) (hb : l.length ≤ 1048576) : ∀ (rest pre : List (List ByteArray)) (left : Int), l = pre ++ rest → 0 ≤ left → left ≤ 1048576 → (∀ x ∈ rest, x.length ≤ 9223372036854775807 ∧ ∀ s ∈ x, s.size ≤ 9223372036854775807) →
    ∃ r, Ev (fun k => laws_szStringSS.l0 k l left ((pre.length : Nat) : Int)) r ∧ (r < 0 ∨ 0 ≤ r ∧ r ≤ left ∧ ∀ x ∈ rest, x.length ≤ 1048576 ∧ ∀ s ∈ x, s.size ≤ 1048576) := by
  intro rest
  induction rest with
  | nil =>
    intro pre left e h0 h1 _
    refine ⟨left, Ev.step (fun k => by rw [laws_szStringSS.l0]) ?_, .inr ⟨h0, Int.le_refl _, by simp⟩⟩
    simp only [ix_end e, if_false]
    exact Ev.now _
  | cons x rest ih =>
    intro pre left e h0 h1 hs
    have hx : rd_L1 l ((pre.length : Nat) : Int) = x := ix_get e
    obtain ⟨hx1, hx2⟩ := hs x (by simp)
    obtain ⟨q, hq, hq'⟩ := szS_ev x left h0 h1 hx1 hx2
    rcases hq' with hq' | ⟨hq0, hq1, hq2, hq3⟩
    · refine ⟨-1, Ev.step (fun k => by rw [laws_szStringSS.l0]) ?_, .inl (by omega)⟩
      simp only [ix_lt e, ix_nn, if_true, hx]
      refine Ev.bind hq ?_
      simp only [hq', if_true]
      exact Ev.now _
    · obtain ⟨r, hr, h⟩ := ih (pre ++ [x]) q (by simp [e]) hq0 (by omega) (fun y hm => hs y (by simp [hm]))
      refine ⟨r, Ev.step (fun k => by rw [laws_szStringSS.l0]) ?_, ?_⟩
      · simp only [ix_lt e, ix_nn, if_true, hx]
        refine Ev.bind hq ?_
        simp only [show ¬ q < 0 by omega, if_false, ix_wrap e (by omega)]
        exact hr
      · rcases h with h | ⟨h2, h3, h4⟩
        · exact .inl h
        · refine .inr ⟨h2, by omega, fun y hm => ?_⟩
          rcases List.mem_cons.1 hm with rfl | hm
          · exact ⟨hq2, hq3⟩
          · exact h4 y hm
theorem szSS_ev (l : List (List ByteArray)) (left : Int) (h0 : 0 ≤ left) (h1 : left ≤ 1048576) (hl : l.length ≤ 9223372036854775807) (hs : ∀ x ∈ l, (x.length ≤ 9223372036854775807 ∧ ∀ s ∈ x, s.size ≤ 9223372036854775807)) :
    ∃ r, Ev (fun k => laws_szStringSS.f k l left) r ∧ (r < 0 ∨ ¬ r < 0 ∧ 0 ≤ r ∧ r ≤ left ∧ Small l) := by
  unfold laws_szStringSS.f
  have hw : wrap64 (left - ((l.length : Nat) : Int)) = left - ((l.length : Nat) : Int) := wrap_id (by omega) (by omega)
  simp only [hw]
  by_cases c : left - ((l.length : Nat) : Int) < 0
  · simp only [c, if_true]
    exact ⟨-1, Ev.now _, .inl (by omega)⟩
  · simp only [c, if_false]
    obtain ⟨r, hr, h⟩ := szSS_l l (by omega) l [] (left - ((l.length : Nat) : Int)) rfl (by omega) (by omega) hs
    refine ⟨r, hr, ?_⟩
    rcases h with h | ⟨h2, h3, h4⟩
    · exact .inl h
    · exact .inr ⟨by omega, h2, by omega, by omega, h4⟩
theorem toSS_l (l : List (List ByteArray)) (z : List ByteArray) (hb : Small l) : ∀ (rest pre : List (List ByteArray)), l = pre ++ rest →
    Ev (fun k => laws_toStringSS.l0 k l (pre ++ List.replicate rest.length z) ((pre.length : Nat) : Int)) l := by
  intro rest
  induction rest with
  | nil =>
    intro pre e
    refine Ev.step (fun k => by rw [laws_toStringSS.l0]) ?_
    simp only [ix_end e, if_false]
    exact Ev.ret (fun _ => by simp [e])
  | cons x rest ih =>
    intro pre e
    have h1 := ih (pre ++ [x]) (by simp [e])
    refine Ev.step (fun k => by rw [laws_toStringSS.l0]) ?_
    have hx : rd_L1 l ((pre.length : Nat) : Int) = x := ix_get e
    have hs : (pre ++ List.replicate (x :: rest).length z).set ((pre.length : Nat) : Int).toNat x = (pre ++ [x]) ++ List.replicate rest.length z := by
      simp only [List.length_cons, List.replicate_succ, Int.toNat_natCast]
      exact set_mid _ _ _ _ _ rfl
    have hl : ((pre.length : Nat) : Int) < (((pre ++ List.replicate (x :: rest).length z).length : Nat) : Int) := by
      simp
      omega
    have hb1 := hb.1
    simp only [ix_lt e, ix_nn, if_true, hx]
    refine Ev.bind (toS_ev x (hb.2 x (by simp [e])).1) ?_
    simp only [hl, if_true, hs, ix_wrap e (by omega)]
    exact h1
theorem toSS_ev (l : List (List ByteArray)) (hb : Small l) : Ev (fun k => laws_toStringSS.f k l) l := by
  unfold laws_toStringSS.f
  have h0 : (0 : Int) ≤ ((l.length : Nat) : Int) := Int.natCast_nonneg _
  have h1 : l.length ≤ 11728124029610 := by have := hb.1; omega
  simp only [h0, if_true, Int.toNat_natCast, h1]
  exact toSS_l l _ hb l [] rfl
theorem eqSS_l (l : List (List ByteArray)) (hb : Small l) : ∀ (rest pre : List (List ByteArray)), l = pre ++ rest → Ev (fun k => laws_eqStringSS.l0 k l l ((pre.length : Nat) : Int)) true := by
  intro rest
  induction rest with
  | nil =>
    intro pre e
    refine Ev.step (fun k => by rw [laws_eqStringSS.l0]) ?_
    simp only [ix_end e, if_false]
    exact Ev.now _
  | cons x rest ih =>
    intro pre e
    have h1 := ih (pre ++ [x]) (by simp [e])
    refine Ev.step (fun k => by rw [laws_eqStringSS.l0]) ?_
    have hx : rd_L1 l ((pre.length : Nat) : Int) = x := ix_get e
    have hb1 := hb.1
    simp only [ix_lt e, ix_nn, if_true, hx]
    refine Ev.bind (eqS_ev x (hb.2 x (by simp [e])).1) ?_
    simp only [if_true, ix_wrap e (by omega)]
    exact h1
theorem eqSS_ev (l : List (List ByteArray)) (hb : Small l) : Ev (fun k => laws_eqStringSS.f k l l) true := by
  unfold laws_eqStringSS.f
  simp only [if_true]
  exact eqSS_l l hb l [] rfl

theorem l1In_eq (a b c : Int) : spec_l1In.f a b c = some (decide (b ≤ a ∧ a ≤ c)) := by
  unfold spec_l1In.f
  split
  · next h => simp [show b ≤ a from h]
  · next h => simp [show ¬ b ≤ a from h]

theorem within_eq (a b c : Int) : impl_within.f a b c = some (decide (b ≤ a ∧ a ≤ c)) := by
  unfold impl_within.f
  split
  · next h => simp [show b ≤ a from h]
  · next h => simp [show ¬ b ≤ a from h]

theorem plain_eq : ∀ (k : Nat) (s : ByteArray) (a b i : Int), spec_pfLetters.l0 k s a b i = impl_isPlainText.l0 k s a b i := by
  intro k
  induction k with
  | zero => intros; rfl
  | succ k ih => intro s a b i; simp only [spec_pfLetters.l0, impl_isPlainText.l0, ih, l1In_eq, within_eq]
theorem proof_eq : ∀ (k : Nat) (l m : List ByteArray) (n i : Int), spec_pfGood.l0 k l m n i = impl_IsProof.l0 k l m n i := by
  intro k
  induction k with
  | zero => intros; rfl
  | succ k ih =>
    intro l m n i
    have hp : ∀ s, spec_pfLetters.f k s 0 40 = impl_isProofLine.f k s := fun s => by
      unfold spec_pfLetters.f impl_isProofLine.f impl_isPlainText.f
      rw [plain_eq]
      cases impl_isPlainText.l0 k s 0 40 0 <;> rfl
    simp only [spec_pfGood.l0, impl_IsProof.l0, ih, hp, l1In_eq, within_eq]
theorem pf_eq (k : Nat) (l : List ByteArray) : spec_pfGood.f k l = impl_IsProof.f k l := proof_eq k l l _ _
theorem plain_ex (s : ByteArray) (hs : s.size ≤ 1048576) (a b : Int) : ∀ (d i : Nat), i + d = s.size → ∃ r, Ev (fun k => impl_isPlainText.l0 k s a b ((i : Nat) : Int)) r := by
  intro d
  induction d with
  | zero =>
    intro i h
    refine ⟨decide (a ≤ ((s.size : Nat) : Int) ∧ ((s.size : Nat) : Int) ≤ b), Ev.step (fun k => by rw [impl_isPlainText.l0]) ?_⟩
    simp only [show ¬ ((i : Nat) : Int) < ((s.size : Nat) : Int) by omega, if_false, within_eq, Option.bind_some]
    exact Ev.now _
  | succ d ih =>
    intro i h
    obtain ⟨r, hr⟩ := ih (i + 1) (by omega)
    have h1 : ((i : Nat) : Int) < ((s.size : Nat) : Int) := by omega
    have h2 : (0 : Int) ≤ ((i : Nat) : Int) := by omega
    have h3 : wrap64 (((i : Nat) : Int) + 1) = ((i + 1 : Nat) : Int) := by
      rw [wrap_id (by omega) (by omega)]
      omega
    by_cases c1 : bt s ((i : Nat) : Int) = 32
    · refine ⟨r, Ev.step (fun k => by rw [impl_isPlainText.l0]) ?_⟩
      simp only [h1, h2, h3, if_true, c1]
      exact hr
    · by_cases c2 : bt s ((i : Nat) : Int) < 97
      · refine ⟨false, Ev.step (fun k => by rw [impl_isPlainText.l0]) ?_⟩
        simp only [h1, h2, if_true, c1, c2, if_false]
        exact Ev.now _
      · by_cases c3 : bt s ((i : Nat) : Int) > 122
        · refine ⟨false, Ev.step (fun k => by rw [impl_isPlainText.l0]) ?_⟩
          simp only [h1, h2, if_true, c1, c2, c3, if_false]
          exact Ev.now _
        · refine ⟨r, Ev.step (fun k => by rw [impl_isPlainText.l0]) ?_⟩
          simp only [h1, h2, h3, if_true, c1, c2, c3, if_false]
          exact hr
theorem proof_l (l : List ByteArray) (hb : l.length ≤ 1048576) (hs : ∀ s ∈ l, s.size ≤ 1048576) : ∀ (rest pre : List ByteArray), l = pre ++ rest →
    ∃ r, Ev (fun k => impl_IsProof.l0 k l l ((l.length : Nat) : Int) ((pre.length : Nat) : Int)) r ∧ (r = true → 1 ≤ l.length ∧ l.length ≤ 12) := by
  intro rest
  induction rest with
  | nil =>
    intro pre e
    refine ⟨decide (1 ≤ ((l.length : Nat) : Int) ∧ ((l.length : Nat) : Int) ≤ 12), Ev.step (fun k => by rw [impl_IsProof.l0]) ?_, fun h => ?_⟩
    · simp only [ix_end e, if_false, within_eq, Option.bind_some]
      exact Ev.now _
    · have := of_decide_eq_true h
      omega
  | cons x rest ih =>
    intro pre e
    obtain ⟨r, hr, hp⟩ := ih (pre ++ [x]) (by simp [e])
    have hx : rdOf ByteArray.empty l ((pre.length : Nat) : Int) = x := ix_get e
    obtain ⟨q, hq⟩ := plain_ex x (hs x (by simp [e])) 0 40 x.size 0 (by omega)
    have hq' : Ev (fun k => impl_isProofLine.f k x) q := by
      unfold impl_isProofLine.f impl_isPlainText.f
      exact Ev.bind hq (Ev.now _)
    cases q with
    | true =>
      refine ⟨r, Ev.step (fun k => by rw [impl_IsProof.l0]) ?_, hp⟩
      simp only [ix_lt e, ix_nn, if_true, hx, ix_wrap e (by omega)]
      exact Ev.bind hq' (by simpa using hr)
    | false =>
      refine ⟨false, Ev.step (fun k => by rw [impl_IsProof.l0]) ?_, by simp⟩
      simp only [ix_lt e, ix_nn, if_true, hx]
      exact Ev.bind hq' (Ev.ret (fun _ => by simp))
theorem proof_ex (l : List ByteArray) (hb : l.length ≤ 1048576) (hs : ∀ s ∈ l, s.size ≤ 1048576) : ∃ r, Ev (fun k => impl_IsProof.f k l) r ∧ (r = true → 1 ≤ l.length ∧ l.length ≤ 12) := proof_l l hb hs l [] rfl

def sameB (a b : List ByteArray) : Bool := decide (a.map (fun s => s.toList) = b.map (fun s => s.toList))
theorem sameB_cons (x y : ByteArray) (a b : List ByteArray) : sameB (x :: a) (y :: b) = (decide (x.toList = y.toList) && sameB a b) := by
  unfold sameB
  by_cases h : x.toList = y.toList <;> simp [h]
theorem same_len {a b : List ByteArray} (h : sameB a b = true) : a.length = b.length := by
  have := congrArg List.length (of_decide_eq_true h)
  simpa using this
theorem rvSame_l (m l : List ByteArray) (hl : l.length ≤ 1048576) (hlen : l.length = m.length) : ∀ (rest restm pre prem : List ByteArray), l = pre ++ rest → m = prem ++ restm → pre.length = prem.length →
    Ev (fun k => spec_rvSame.l0 k m l ((l.length : Nat) : Int) ((pre.length : Nat) : Int)) (sameB rest restm) := by
  intro rest
  induction rest with
  | nil =>
    intro restm pre prem e em hp
    have : restm = [] := by
      have h1 := congrArg List.length e
      have h2 := congrArg List.length em
      simp at h1 h2
      exact List.length_eq_zero_iff.1 (by omega)
    subst this
    refine Ev.step (fun k => by rw [spec_rvSame.l0]) ?_
    simp only [ix_end e, if_false]
    exact Ev.ret (fun _ => by simp [sameB])
  | cons x rest ih =>
    intro restm pre prem e em hp
    match restm, em with
    | [], em =>
      have h1 := congrArg List.length e
      have h2 := congrArg List.length em
      simp at h1 h2
      omega
    | y :: restm, em =>
      have h1 := ih restm (pre ++ [x]) (prem ++ [y]) (by simp [e]) (by simp [em]) (by simp [hp])
      have hx : rdOf ByteArray.empty l ((pre.length : Nat) : Int) = x := ix_get e
      have hy : rdOf ByteArray.empty m ((pre.length : Nat) : Int) = y := by
        rw [hp]
        exact ix_get em
      have hlm : ((pre.length : Nat) : Int) < ((m.length : Nat) : Int) := by
        rw [hp]
        exact ix_lt em
      refine Ev.step (fun k => by rw [spec_rvSame.l0]) ?_
      simp only [ix_lt e, ix_nn, if_true, hx, hy, hlm, ix_wrap e (by omega), sameB_cons]
      by_cases c : x.toList = y.toList
      · simpa [c] using h1
      · simp only [c, if_false]
        exact Ev.ret (fun _ => by simp)
theorem rvSame_ev (l m : List ByteArray) (hl : l.length ≤ 1048576) : Ev (fun k => spec_rvSame.f k l m) (sameB l m) := by
  unfold spec_rvSame.f
  by_cases c : ((l.length : Nat) : Int) = ((m.length : Nat) : Int)
  · simp only [c, if_true]
    have hc : l.length = m.length := by omega
    have := rvSame_l m l hl hc l m [] [] rfl rfl rfl
    rw [hc] at this
    exact this
  · simp only [c, if_false]
    refine Ev.ret (fun _ => ?_)
    cases h : sameB l m with
    | false => rfl
    | true => exact absurd (by rw [same_len h]) c
def ch : List ByteArray → List ByteArray → Nat → List Int
  | x :: t, y :: u, i => if y.toList = x.toList then ch t u (i + 1) else (i : Int) :: ch t u (i + 1)
  | _, _, _ => []
theorem changed_l (m l : List ByteArray) (hl : l.length ≤ 1048576) (hlen : l.length = m.length) : ∀ (rest restm pre prem : List ByteArray) (acc : List Int), l = pre ++ rest → m = prem ++ restm → pre.length = prem.length → acc.length ≤ pre.length →
    Ev (fun k => impl_changedLines.l0 k m acc l ((l.length : Nat) : Int) ((pre.length : Nat) : Int)) (acc ++ ch rest restm pre.length) := by
  intro rest
  induction rest with
  | nil =>
    intro restm pre prem acc e em hp _
    refine Ev.step (fun k => by rw [impl_changedLines.l0]) ?_
    simp only [ix_end e, if_false]
    exact Ev.ret (fun _ => by simp [ch])
  | cons x rest ih =>
    intro restm pre prem acc e em hp ha
    match restm, em with
    | [], em =>
      have h1 := congrArg List.length e
      have h2 := congrArg List.length em
      simp at h1 h2
      omega
    | y :: restm, em =>
      have hx : rdOf ByteArray.empty l ((pre.length : Nat) : Int) = x := ix_get e
      have hy : rdOf ByteArray.empty m ((pre.length : Nat) : Int) = y := by
        rw [hp]
        exact ix_get em
      have hlm : ((pre.length : Nat) : Int) < ((m.length : Nat) : Int) := by
        rw [hp]
        exact ix_lt em
      have hal : acc.length < 17592186044416 := by
        have := ix_lt e
        omega
      refine Ev.step (fun k => by rw [impl_changedLines.l0]) ?_
      simp only [ix_lt e, ix_nn, if_true, hx, hy, hlm, ix_wrap e (by omega), hal, ch]
      by_cases c : y.toList = x.toList
      · simp only [c, if_true]
        have h1 := ih restm (pre ++ [x]) (prem ++ [y]) acc (by simp [e]) (by simp [em]) (by simp [hp]) (by simp; omega)
        simpa using h1
      · simp only [c, if_false]
        have h1 := ih restm (pre ++ [x]) (prem ++ [y]) (acc ++ [((pre.length : Nat) : Int)]) (by simp [e]) (by simp [em]) (by simp [hp]) (by simp; omega)
        simpa using h1
theorem changed_ev (l m : List ByteArray) (hl : l.length ≤ 1048576) (hlen : l.length = m.length) : Ev (fun k => impl_changedLines.f k l m) (ch l m 0) := by
  have := changed_l m l hl hlen l m [] [] [] rfl rfl rfl (by simp)
  simpa [impl_changedLines.f] using this
theorem ch_same : ∀ (a b : List ByteArray) (i : Nat), a.length = b.length → ((((ch a b i).length : Nat) : Int) = 0 ↔ sameB a b = true)
  | [], [], i, _ => by simp [ch, sameB]
  | x :: a, y :: b, i, h => by
    have ih := ch_same a b (i + 1) (by simpa using h)
    rw [sameB_cons, ch]
    by_cases c : y.toList = x.toList
    · simp only [c, if_true, decide_true, Bool.true_and]
      exact ih
    · have c' : ¬ x.toList = y.toList := fun h => c h.symm
      simp [c, c']
      omega
  | [], _ :: _, _, h => by simp at h
  | _ :: _, [], _, h => by simp at h
theorem areEqual_ev (l m : List ByteArray) (hl : l.length ≤ 1048576) : Ev (fun k => impl_areEqual.f k l m) (sameB l m) := by
  unfold impl_areEqual.f
  by_cases c : ((l.length : Nat) : Int) = ((m.length : Nat) : Int)
  · simp only [c, if_true]
    have hc : l.length = m.length := by omega
    refine Ev.bind (changed_ev l m hl hc) (Ev.ret (fun _ => ?_))
    have := ch_same l m 0 hc
    cases h : sameB l m with
    | true => simpa [h] using this
    | false => simpa [h] using this
  · simp only [c, if_false]
    refine Ev.ret (fun _ => ?_)
    cases h : sameB l m with
    | false => rfl
    | true => exact absurd (by rw [same_len h]) c
def st (lines : List ByteArray) : List (List ByteArray) → Nat → Int
  | [], _ => -1
  | x :: t, i => if sameB x lines = true then (i : Int) else st lines t (i + 1)
theorem st_ge (lines : List ByteArray) : ∀ (t : List (List ByteArray)) (i : Nat), st lines t i = -1 ∨ (i : Int) ≤ st lines t i ∧ st lines t i < (i : Int) + t.length
  | [], i => .inl rfl
  | x :: t, i => by
    rw [st]
    split
    · right
      simp
      omega
    · rcases st_ge lines t (i + 1) with h | h
      · exact .inl h
      · right
        simp
        omega
theorem stateOf_l (lines : List ByteArray) (l : List (List ByteArray)) (hb : Small l) : ∀ (rest pre : List (List ByteArray)), l = pre ++ rest →
    Ev (fun k => impl_stateOf.l0 k lines l ((l.length : Nat) : Int) ((pre.length : Nat) : Int)) (st lines rest pre.length) := by
  have hb1 := hb.1
  intro rest
  induction rest with
  | nil =>
    intro pre e
    refine Ev.step (fun k => by rw [impl_stateOf.l0]) ?_
    simp only [ix_end e, if_false]
    exact Ev.now _
  | cons x rest ih =>
    intro pre e
    have h1 := ih (pre ++ [x]) (by simp [e])
    have hx : rd_L1 l ((pre.length : Nat) : Int) = x := ix_get e
    refine Ev.step (fun k => by rw [impl_stateOf.l0]) ?_
    simp only [ix_lt e, ix_nn, if_true, hx, st]
    refine Ev.bind (areEqual_ev x lines (hb.2 x (by simp [e])).1) ?_
    simp only [ix_wrap e (by omega)]
    by_cases c : sameB x lines = true
    · simp only [c, if_true]
      exact Ev.now _
    · simp only [c, if_false]
      simpa using h1
theorem stateOf_ev (l : List (List ByteArray)) (lines : List ByteArray) (hb : Small l) : Ev (fun k => impl_stateOf.f k l lines) (st lines l 0) := stateOf_l lines l hb l [] rfl

theorem eqI_l (l : List Int) (hb : l.length ≤ 1048576) : ∀ (rest pre : List Int), l = pre ++ rest → Ev (fun k => laws_eqIntS.l0 k l l ((pre.length : Nat) : Int)) true := by
  intro rest
  induction rest with
  | nil =>
    intro pre e
    refine Ev.step (fun k => by rw [laws_eqIntS.l0]) ?_
    simp only [ix_end e, if_false]
    exact Ev.now _
  | cons x rest ih =>
    intro pre e
    have h1 := ih (pre ++ [x]) (by simp [e])
    refine Ev.step (fun k => by rw [laws_eqIntS.l0]) ?_
    simp only [ix_lt e, ix_nn, if_true, ix_wrap e (by omega)]
    exact h1
theorem eqI_ev (l : List Int) (hb : l.length ≤ 1048576) : Ev (fun k => laws_eqIntS.f k l l) true := by
  unfold laws_eqIntS.f
  simp only [if_true]
  exact eqI_l l hb l [] rfl
def ups : Nat → Int → List Int
  | 0, _ => []
  | n + 1, a => a :: ups n (a + 1)
theorem ups_len : ∀ (n : Nat) (a : Int), (ups n a).length = n
  | 0, _ => rfl
  | n + 1, a => by simp [ups, ups_len n (a + 1)]
theorem markI_l : ∀ (rest pre : List Int) (a : Int), (pre ++ rest).length ≤ 1048576 → 0 ≤ a → a + rest.length ≤ 4194304 →
    Ev (fun k => laws_markIntS.l0 k (pre ++ rest) a ((pre.length : Nat) : Int)) (a + rest.length, pre ++ ups rest.length a) := by
  intro rest
  induction rest with
  | nil =>
    intro pre a _ _ _
    refine Ev.step (fun k => by rw [laws_markIntS.l0]) ?_
    simp only [ix_end (rfl : pre ++ [] = pre ++ []), if_false]
    exact Ev.ret (fun _ => by simp [ups])
  | cons x rest ih =>
    intro pre a hb h0 h1
    have e : pre ++ x :: rest = pre ++ x :: rest := rfl
    have hs : (pre ++ x :: rest).set ((pre.length : Nat) : Int).toNat a = (pre ++ [a]) ++ rest := by
      rw [Int.toNat_natCast]
      exact set_mid _ _ _ _ _ rfl
    have hw : wrap64 (a + 1) = a + 1 := wrap_id (by omega) (by simp at h1; omega)
    have hw2 : wrap64 (((pre.length : Nat) : Int) + 1) = (((pre ++ [a]).length : Nat) : Int) := by
      simp at hb
      rw [wrap_id (by omega) (by omega)]
      simp
    have hi := ih (pre ++ [a]) (a + 1) (by simpa using hb) (by omega) (by simp at h1; omega)
    refine Ev.step (fun k => by rw [laws_markIntS.l0]) ?_
    simp only [ix_lt e, ix_nn, if_true, hs, hw, hw2]
    have e2 : (a + ((x :: rest).length : Nat), pre ++ ups (x :: rest).length a) = (a + 1 + (rest.length : Nat), pre ++ [a] ++ ups rest.length (a + 1)) := by
      simp [ups]
      omega
    rw [e2]
    exact hi
theorem markI_ev (l : List Int) (hb : l.length ≤ 1048576) : Ev (fun k => laws_markIntS.f k l 1) (1 + l.length, ups l.length 1) := markI_l l [] 1 hb (by omega) (by omega)
theorem heldI_l (l : List Int) (hb : l.length ≤ 1048576) : ∀ (n : Nat) (pre : List Int) (a : Int), l = pre ++ ups n a → 0 ≤ a → a + n ≤ 4194304 → Ev (fun k => laws_heldIntS.l0 k l a ((pre.length : Nat) : Int)) (a + n) := by
  intro n
  induction n with
  | zero =>
    intro pre a e _ _
    refine Ev.step (fun k => by rw [laws_heldIntS.l0]) ?_
    simp only [ix_end e, if_false]
    exact Ev.ret (fun _ => by simp)
  | succ n ih =>
    intro pre a e h0 h1
    rw [ups] at e
    have hx : rd l ((pre.length : Nat) : Int) = a := ix_get e
    have hw : wrap64 (a + 1) = a + 1 := wrap_id (by omega) (by omega)
    have hi := ih (pre ++ [a]) (a + 1) (by simp [e]) (by omega) (by omega)
    refine Ev.step (fun k => by rw [laws_heldIntS.l0]) ?_
    simp only [ix_lt e, ix_nn, if_true, hx, hw, ix_wrap e (by omega)]
    rw [show a + ((n + 1 : Nat) : Int) = a + 1 + (n : Int) by omega]
    exact hi
theorem heldI_ev (n : Nat) (hb : n ≤ 1048576) : Ev (fun k => laws_heldIntS.f k (ups n 1) 1) (1 + n) := heldI_l (ups n 1) (by rw [ups_len]; exact hb) n [] 1 rfl (by omega) (by omega)

theorem markText_l : ∀ (n : Nat) (s : ByteArray), s.size + n ≤ 4503599627370496 → ∃ t, Ev (fun k => laws_markText.l0 k (n : Int) s) t := by
  intro n
  induction n using Nat.strongRecOn with
  | ind n ih =>
    intro s hs
    by_cases c : ((n : Nat) : Int) > 0
    · have hd : wrap64 (Int.tdiv ((n : Nat) : Int) 10) = ((n / 10 : Nat) : Int) := by
        rw [Int.tdiv_eq_ediv_of_nonneg (by omega)]
        have : ((n : Nat) : Int) / 10 = ((n / 10 : Nat) : Int) := by omega
        rw [this]
        exact wrap_id (by omega) (by omega)
      have hsz : (strOfNums ([(wrap64 (48 + (Int.tmod ((n : Nat) : Int) 10))) % 256] : List Int)).size = 1 := by simp [strOfNums_size]
      obtain ⟨t, ht⟩ := ih (n / 10) (by omega) (strOfNums ([(wrap64 (48 + (Int.tmod ((n : Nat) : Int) 10))) % 256] : List Int) ++ s) (by rw [ByteArray.size_append, hsz]; omega)
      refine ⟨t, Ev.step (fun k => by rw [laws_markText.l0]) ?_⟩
      have hle : (strOfNums ([(wrap64 (48 + (Int.tmod ((n : Nat) : Int) 10))) % 256] : List Int)).size + s.size ≤ 9223372036854775807 := by rw [hsz]; omega
      simp only [c, if_true, Option.bind_some, hle, hd]
      exact ht
    · refine ⟨(⟨#[109]⟩ : ByteArray) ++ s, Ev.step (fun k => by rw [laws_markText.l0]) ?_⟩
      have hle : 1 + s.size ≤ 9223372036854775807 := by omega
      simp only [c, if_false, hle, if_true]
      exact Ev.now _
theorem markText_ev (a : Int) (h0 : 0 ≤ a) (h1 : a ≤ 2251799813685248) : ∃ t, Ev (fun k => laws_markText.f k a) t := by
  unfold laws_markText.f
  by_cases c : a ≤ 0
  · simp only [c, if_true]
    exact ⟨_, Ev.now _⟩
  · simp only [c, if_false]
    have := markText_l a.toNat (⟨#[]⟩ : ByteArray) (by simp [ByteArray.size]; omega)
    rwa [Int.toNat_of_nonneg h0] at this
theorem markS_l : ∀ (d i : Nat) (l : List ByteArray) (a : Int), l.length ≤ 1048576 → i + d = l.length → 0 ≤ a → a + d ≤ 2251799813685248 → ∃ y : List ByteArray, y.length = l.length ∧ Ev (fun k => laws_markStringS.l0 k l a ((i : Nat) : Int)) (a + d, y) := by
  intro d
  induction d with
  | zero =>
    intro i l a hl hi _ _
    refine ⟨l, rfl, Ev.step (fun k => by rw [laws_markStringS.l0]) ?_⟩
    simp only [show ¬ ((i : Nat) : Int) < ((l.length : Nat) : Int) by omega, if_false]
    exact Ev.ret (fun _ => by simp)
  | succ d ih =>
    intro i l a hl hi h0 h1
    obtain ⟨t, ht⟩ := markText_ev a h0 (by omega)
    have c1 : ((i : Nat) : Int) < ((l.length : Nat) : Int) := by omega
    have c2 : (0 : Int) ≤ ((i : Nat) : Int) := by omega
    have w1 : wrap64 (a + 1) = a + 1 := wrap_id (by omega) (by omega)
    have w3 : wrap64 (((i : Nat) : Int) + 1) = ((i + 1 : Nat) : Int) := by
      rw [wrap_id (by omega) (by omega)]
      omega
    obtain ⟨y, hyl, hy⟩ := ih (i + 1) (l.set ((i : Nat) : Int).toNat t) (a + 1) (by simpa using hl) (by simp; omega) (by omega) (by omega)
    refine ⟨y, by simpa using hyl, Ev.step (fun k => by rw [laws_markStringS.l0]) ?_⟩
    simp only [c1, if_true]
    refine Ev.bind ht ?_
    simp only [c2, if_true, w1, w3]
    rw [show a + ((d + 1 : Nat) : Int) = a + 1 + (d : Int) by omega]
    exact hy
theorem markS_ev (l : List ByteArray) (a : Int) (hl : l.length ≤ 1048576) (h0 : 0 ≤ a) (h1 : a ≤ 1125899906842624) : ∃ y : List ByteArray, y.length = l.length ∧ Ev (fun k => laws_markStringS.f k l a) (a + l.length, y) :=
  markS_l l.length 0 l a hl (by omega) h0 (by omega)

theorem markSS_l : ∀ (d i : Nat) (l : List (List ByteArray)) (a : Int), l.length ≤ 1048576 → (∀ x ∈ l, x.length ≤ 1048576) → i + d = l.length → 0 ≤ a → a + d * 1048576 ≤ 1125899906842624 → ∃ r, Ev (fun k => laws_markStringSS.l0 k l a ((i : Nat) : Int)) r ∧ 0 ≤ r ∧ r ≤ a + d * 1048576 := by
  intro d
  induction d with
  | zero =>
    intro i l a hl _ hi h0 _
    refine ⟨a, Ev.step (fun k => by rw [laws_markStringSS.l0]) ?_, h0, by omega⟩
    simp only [show ¬ ((i : Nat) : Int) < ((l.length : Nat) : Int) by omega, if_false]
    exact Ev.now _
  | succ d ih =>
    intro i l a hl hx hi h0 h1
    have hlt : i < l.length := by omega
    have hrd : laws_markStringSS.rd l ((i : Nat) : Int) = l[i] := by
      unfold laws_markStringSS.rd
      rw [Int.toNat_natCast, List.getD_eq_getElem?_getD, List.getElem?_eq_getElem hlt]
      rfl
    have hxi := hx l[i] (List.getElem_mem _)
    obtain ⟨y, hyl, hy⟩ := markS_ev l[i] a hxi h0 (by omega)
    have c1 : ((i : Nat) : Int) < ((l.length : Nat) : Int) := by omega
    have c2 : (0 : Int) ≤ ((i : Nat) : Int) := by omega
    have w3 : wrap64 (((i : Nat) : Int) + 1) = ((i + 1 : Nat) : Int) := by
      rw [wrap_id (by omega) (by omega)]
      omega
    obtain ⟨r, hr, hr0, hr1⟩ := ih (i + 1) (l.set ((i : Nat) : Int).toNat y) (a + (l[i]).length) (by simpa using hl)
      (fun z hz => by
        rcases List.mem_or_eq_of_mem_set hz with h | rfl
        · exact hx z h
        · omega) (by simp; omega) (by omega) (by omega)
    refine ⟨r, Ev.step (fun k => by rw [laws_markStringSS.l0]) ?_, hr0, by omega⟩
    simp only [c1, c2, if_true, hrd]
    refine Ev.bind hy ?_
    simp only [w3]
    exact hr
theorem markSS_ev (l : List (List ByteArray)) (a : Int) (hb : Small l) (h0 : 0 ≤ a) (h1 : a ≤ 4398046511104) : ∃ r, Ev (fun k => laws_markStringSS.f k l a) r ∧ 0 ≤ r ∧ r ≤ a + 1099511627776 := by
  have hb1 := hb.1
  obtain ⟨r, hr, h2, h3⟩ := markSS_l l.length 0 l a hb.1 (fun x hx => (hb.2 x hx).1) (by omega) h0 (by omega)
  exact ⟨r, hr, h2, by omega⟩

theorem copies_eq : ∀ (k : Nat) (l m : List (List ByteArray)) (n i : Int), spec_rvCopies.l0 k l m n i = impl_areCopies.l0 k l m n i := by
  intro k
  induction k with
  | zero => intros; rfl
  | succ k ih => intro l m n i; simp only [spec_rvCopies.l0, impl_areCopies.l0, ih, pf_eq]
theorem cp_eq (k : Nat) (l : List (List ByteArray)) : spec_rvCopies.f k l = impl_areCopies.f k l := copies_eq k l l _ _
theorem copies_l (l : List (List ByteArray)) (hb : Small l) : ∀ (rest pre : List (List ByteArray)), l = pre ++ rest →
    ∃ r, Ev (fun k => impl_areCopies.l0 k l l ((l.length : Nat) : Int) ((pre.length : Nat) : Int)) r ∧ (r = true → l.length ≤ 10) := by
  have hb1 := hb.1
  intro rest
  induction rest with
  | nil =>
    intro pre e
    refine ⟨decide (((l.length : Nat) : Int) ≤ 10), Ev.step (fun k => by rw [impl_areCopies.l0]) ?_, fun h => by have := of_decide_eq_true h; omega⟩
    simp only [ix_end e, if_false]
    exact Ev.now _
  | cons x rest ih =>
    intro pre e
    obtain ⟨r, hr, h10⟩ := ih (pre ++ [x]) (by simp [e])
    have hx : rd_L1 l ((pre.length : Nat) : Int) = x := ix_get e
    obtain ⟨hx1, hx2⟩ := hb.2 x (by simp [e])
    obtain ⟨q, hq, _⟩ := proof_ex x hx1 hx2
    cases q with
    | false =>
      refine ⟨false, Ev.step (fun k => by rw [impl_areCopies.l0]) ?_, by simp⟩
      simp only [ix_lt e, ix_nn, if_true, hx]
      exact Ev.bind hq (Ev.ret (fun _ => by simp))
    | true =>
      refine ⟨r, Ev.step (fun k => by rw [impl_areCopies.l0]) ?_, h10⟩
      simp only [ix_lt e, ix_nn, if_true, hx]
      refine Ev.bind hq ?_
      simp only [if_true, ix_wrap e (by omega)]
      exact hr
theorem copies_ex (l : List (List ByteArray)) (hb : Small l) : ∃ r, Ev (fun k => impl_areCopies.f k l) r ∧ Ev (fun k => spec_rvCopies.f k l) r ∧ (r = true → l.length ≤ 10) := by
  obtain ⟨r, h, h10⟩ := copies_l l hb l [] rfl
  exact ⟨r, h, Ev.congr (fun k => cp_eq k l) h, h10⟩

theorem sameB_refl (a : List ByteArray) : sameB a a = true := decide_eq_true rfl
theorem sameB_trans {a b c : List ByteArray} (h : sameB a b = true) (h' : sameB b c = true) : sameB a c = true := decide_eq_true ((of_decide_eq_true h).trans (of_decide_eq_true h'))
theorem sameB_symm {a b : List ByteArray} (h : sameB a b = true) : sameB b a = true := decide_eq_true (of_decide_eq_true h).symm
theorem st_first (x : List ByteArray) : ∀ (t : List (List ByteArray)) (o j : Nat), j < t.length → sameB (t.getD j []) x = true →
    ∃ s, s ≤ j ∧ st x t o = ((o + s : Nat) : Int) ∧ sameB (t.getD s []) x = true ∧ ∀ q, q < s → ¬ sameB (t.getD q []) x = true
  | [], o, j, h, _ => absurd h (by simp)
  | y :: t, o, j, h, hs => by
    rw [st]
    by_cases c : sameB y x = true
    · simp only [c, if_true]
      exact ⟨0, by omega, by simp, by simpa using c, fun q hq => by omega⟩
    · simp only [c, if_false]
      cases j with
      | zero => exact absurd (by simpa using hs) c
      | succ j =>
        obtain ⟨s, h1, h2, h3, h4⟩ := st_first x t (o + 1) j (by simpa using h) (by simpa using hs)
        refine ⟨s + 1, by omega, ?_, by simpa using h3, fun q hq => ?_⟩
        · have : o + 1 + s = o + (s + 1) := by omega
          rw [h2, this]
          simp
        · cases q with
          | zero => simpa using c
          | succ q =>
            have := h4 q (by omega)
            simpa using this
theorem st_at (l : List (List ByteArray)) (i : Nat) (hi : i < l.length) : ∃ s, s ≤ i ∧ st (l.getD i []) l 0 = ((s : Nat) : Int) ∧ sameB (l.getD s []) (l.getD i []) = true ∧ ∀ q, q < s → ¬ sameB (l.getD q []) (l.getD i []) = true := by
  obtain ⟨s, h1, h2, h3, h4⟩ := st_first (l.getD i []) l 0 i hi (sameB_refl _)
  exact ⟨s, h1, by rw [h2]; simp, h3, h4⟩
def isF (l : List (List ByteArray)) (j : Nat) : Bool := decide (st (l.getD j []) l 0 = ((j : Nat) : Int))
theorem st_isF (l : List (List ByteArray)) (i s : Nat) (hi : i < l.length) (h : st (l.getD i []) l 0 = ((s : Nat) : Int)) : isF l s = true := by
  obtain ⟨s', h1, h2, h3, h4⟩ := st_at l i hi
  have e : s' = s := by omega
  subst e
  obtain ⟨u, g1, g2, g3, _⟩ := st_at l s' (by omega)
  have hu : ¬ u < s' := fun hu => h4 u hu (sameB_trans g3 h3)
  have e : u = s' := by omega
  subst e
  exact decide_eq_true g2
theorem match_iff (l : List (List ByteArray)) (i h : Nat) (hi : i < l.length) (hh : h < l.length) (hF : isF l h = true) : sameB (l.getD h []) (l.getD i []) = true ↔ ((h : Nat) : Int) = st (l.getD i []) l 0 := by
  obtain ⟨s, h1, h2, h3, h4⟩ := st_at l i hi
  rw [h2]
  constructor
  · intro e
    have hs : ¬ h < s := fun hu => h4 h hu e
    have hF' := of_decide_eq_true hF
    obtain ⟨u, g1, g2, g3, g4⟩ := st_at l h hh
    have hu : u = h := by omega
    have : ¬ s < h := fun hs' => g4 s (by omega) (sameB_trans h3 (sameB_symm e))
    omega
  · intro e
    have : h = s := by omega
    subst this
    exact h3
def fs (l : List (List ByteArray)) : Nat → List Int
  | 0 => []
  | i + 1 => fs l i ++ (if isF l i = true then [((i : Nat) : Int)] else [])
theorem fs_mem (l : List (List ByteArray)) : ∀ (i : Nat) (z : Int), z ∈ fs l i ↔ ∃ j : Nat, j < i ∧ isF l j = true ∧ z = ((j : Nat) : Int)
  | 0, z => by simp [fs]
  | i + 1, z => by
    rw [fs, List.mem_append, fs_mem l i]
    constructor
    · rintro (⟨j, h1, h2, h3⟩ | h)
      · exact ⟨j, by omega, h2, h3⟩
      · split at h
        · rename_i hF
          exact ⟨i, by omega, hF, by simpa using h⟩
        · simp at h
    · rintro ⟨j, h1, h2, h3⟩
      by_cases e : j = i
      · subst e
        right
        simp [h2, h3]
      · exact .inl ⟨j, by omega, h2, h3⟩
theorem fs_ne (l : List (List ByteArray)) : ∀ i : Nat, (fs l i).Pairwise (· ≠ ·)
  | 0 => List.Pairwise.nil
  | i + 1 => by
    rw [fs, List.pairwise_append]
    refine ⟨fs_ne l i, ?_, fun a ha b hb => ?_⟩
    · split <;> simp
    · split at hb
      · obtain ⟨j, h1, _, h3⟩ := (fs_mem l i a).1 ha
        simp at hb
        omega
      · simp at hb
theorem fs_len (l : List (List ByteArray)) : ∀ i : Nat, (fs l i).length ≤ i
  | 0 => by simp [fs]
  | i + 1 => by
    have := fs_len l i
    rw [fs, List.length_append]
    split <;> simp <;> omega

def hd (c : List Int) : Int := rd c 0
theorem hd_app (c : List Int) (i : Int) (h : 0 < c.length) : hd (c ++ [i]) = hd c := by
  cases c with
  | nil => simp at h
  | cons a t => rfl
def upd (t i : Int) (c : List Int) : List Int := if hd c = t then c ++ [i] else c
theorem getD_mem (l : List (List ByteArray)) (h : Nat) (hh : h < l.length) : l.getD h [] ∈ l := by
  rw [List.getD_eq_getElem?_getD, List.getElem?_eq_getElem hh]
  exact List.getElem_mem _
theorem wrap_up (j : Nat) (h : j ≤ 1048576) : wrap64 (((j : Nat) : Int) + 1) = ((j + 1 : Nat) : Int) := by
  rw [wrap_id (by omega) (by omega)]
  omega
theorem spec_true (l : List (List ByteArray)) (C : List (List Int)) (i : Int) (x : List ByteArray) (n : Int) (r : List (List Int) × Bool) (hC : C.length ≤ 1048576)
    (h : Ev (fun k => spec_CopyClasses.l0 k l C l n (wrap64 (i + 1))) r) : ∀ (d j : Nat), j + d = C.length → Ev (fun k => spec_CopyClasses.l1 k l C i x true l n i ((C.length : Nat) : Int) ((j : Nat) : Int)) r := by
  intro d
  induction d with
  | zero =>
    intro j e
    refine Ev.step (fun k => by rw [spec_CopyClasses.l1]) ?_
    simp only [show ¬ ((j : Nat) : Int) < ((C.length : Nat) : Int) by omega, if_false, if_true]
    exact h
  | succ d ih =>
    intro j e
    have := ih (j + 1) (by omega)
    refine Ev.step (fun k => by rw [spec_CopyClasses.l1]) ?_
    simp only [show ((j : Nat) : Int) < ((C.length : Nat) : Int) by omega, if_true, wrap_up j (by omega)]
    exact this
theorem spec_false (l : List (List ByteArray)) (hb : Small l) (i : Nat) (hi : i < l.length) (n : Int) (r : List (List Int) × Bool) : ∀ (rest pre : List (List Int)), (pre ++ rest).length ≤ 1048576 →
    (∀ c ∈ rest, 0 < c.length ∧ c.length ≤ 1048576 ∧ ∃ h : Nat, h < l.length ∧ isF l h = true ∧ hd c = ((h : Nat) : Int)) → (rest.map hd).Pairwise (· ≠ ·) →
    Ev (fun k => spec_CopyClasses.l0 k l (pre ++ rest.map (upd (st (l.getD i []) l 0) ((i : Nat) : Int)) ++ (if st (l.getD i []) l 0 ∈ rest.map hd then [] else [[((i : Nat) : Int)]])) l n (wrap64 (((i : Nat) : Int) + 1))) r →
    Ev (fun k => spec_CopyClasses.l1 k l (pre ++ rest) ((i : Nat) : Int) (l.getD i []) false l n ((i : Nat) : Int) (((pre ++ rest).length : Nat) : Int) ((pre.length : Nat) : Int)) r := by
  intro rest
  induction rest with
  | nil =>
    intro pre hl _ _ h
    refine Ev.step (fun k => by rw [spec_CopyClasses.l1]) ?_
    simp only [ix_end (rfl : pre ++ [] = pre ++ []), if_false, Bool.false_eq_true, show (pre ++ ([] : List (List Int))).length < 5864062014805 by omega, if_true]
    simpa using h
  | cons c rest ih =>
    intro pre hl hc hp h
    obtain ⟨c0, c1, g, hg, hF, hgd⟩ := hc c (by simp)
    rw [List.map_cons, List.pairwise_cons] at hp
    have e : pre ++ c :: rest = pre ++ c :: rest := rfl
    have hx : rd_L4 (pre ++ c :: rest) ((pre.length : Nat) : Int) = c := ix_get e
    have hgd' : rd c 0 = ((g : Nat) : Int) := hgd
    have hr1 : rd_L1 l ((g : Nat) : Int) = l.getD g [] := rfl
    have b0 : (0 : Int) < ((c.length : Nat) : Int) := by omega
    have b1 : (0 : Int) ≤ ((g : Nat) : Int) := by omega
    have b2 : ((g : Nat) : Int) < ((l.length : Nat) : Int) := by omega
    refine Ev.step (fun k => by rw [spec_CopyClasses.l1]) ?_
    simp only [ix_lt e, ix_nn, if_true, Bool.false_eq_true, if_false, hx, hgd', hr1, b0, b1, b2]
    refine Ev.bind (rvSame_ev (l.getD g []) (l.getD i []) (hb.2 _ (getD_mem l g hg)).1) ?_
    have hiff := match_iff l i g hi hg hF
    have hw := ix_wrap e (by omega)
    by_cases m : sameB (l.getD g []) (l.getD i []) = true
    · have ht : hd c = st (l.getD i []) l 0 := by rw [hgd]; exact hiff.1 m
      have hrest : rest.map (upd (st (l.getD i []) l 0) ((i : Nat) : Int)) = rest := by
        rw [List.map_congr_left (g := id) (fun z hz => ?_), List.map_id]
        have := hp.1 (hd z) (List.mem_map_of_mem hz)
        unfold upd
        rw [if_neg (fun e' => this (by rw [ht, e']))]
        rfl
      have hs : (pre ++ c :: rest).set ((pre.length : Nat) : Int).toNat (c ++ [((i : Nat) : Int)]) = (pre ++ [c ++ [((i : Nat) : Int)]]) ++ rest := by
        rw [Int.toNat_natCast]
        exact set_mid _ _ _ _ _ rfl
      have hln : (((pre ++ c :: rest).length : Nat) : Int) = (((pre ++ [c ++ [((i : Nat) : Int)]] ++ rest).length : Nat) : Int) := by simp
      simp only [m, if_true, show c.length < 17592186044416 by omega, hs, hln, hw]
      have := spec_true l (pre ++ [c ++ [((i : Nat) : Int)]] ++ rest) ((i : Nat) : Int) (l.getD i []) n r (by simp at hl ⊢; omega) (by
        have hm : st (l.getD i []) l 0 ∈ (c :: rest).map hd := by simp [ht]
        have hu : upd (st (l.getD i []) l 0) ((i : Nat) : Int) c = c ++ [((i : Nat) : Int)] := by
          unfold upd
          rw [if_pos ht]
        rw [if_pos hm, List.map_cons, hrest, hu] at h
        simpa using h) rest.length (pre.length + 1) (by simp; omega)
      simpa using this
    · have ht : ¬ hd c = st (l.getD i []) l 0 := fun e' => m (hiff.2 (by rw [← hgd]; exact e'))
      simp only [m, if_false, hw]
      have hln : pre ++ c :: rest = (pre ++ [c]) ++ rest := by simp
      rw [hln]
      refine ih (pre ++ [c]) (by simpa using hl) (fun z hz => hc z (by simp [hz])) hp.2 ?_
      have hu : upd (st (l.getD i []) l 0) ((i : Nat) : Int) c = c := by
        unfold upd
        rw [if_neg ht]
      have hif : (if st (l.getD i []) l 0 ∈ (c :: rest).map hd then ([] : List (List Int)) else [[((i : Nat) : Int)]]) = (if st (l.getD i []) l 0 ∈ rest.map hd then [] else [[((i : Nat) : Int)]]) := by
        by_cases z : st (l.getD i []) l 0 ∈ rest.map hd
        · rw [if_pos z, if_pos (by rw [List.map_cons]; exact List.mem_cons_of_mem _ z)]
        · rw [if_neg z, if_neg (fun h' => by
            rw [List.map_cons, List.mem_cons] at h'
            exact h'.elim (fun e' => ht e'.symm) z)]
      rw [hif, List.map_cons, hu] at h
      simpa using h
theorem impl_l1 (l : List (List ByteArray)) (i : Nat) (t n : Int) (r : List (List Int) × Bool) : ∀ (rest pre : List (List Int)) (len : Int), len = (((pre ++ rest).length : Nat) : Int) → (pre ++ rest).length ≤ 1048576 →
    (∀ c ∈ rest, 0 < c.length ∧ c.length ≤ 1048576) →
    Ev (fun k => impl_CopyClasses.l0 k l (pre ++ rest.map (upd t ((i : Nat) : Int))) l n (wrap64 (((i : Nat) : Int) + 1))) r →
    Ev (fun k => impl_CopyClasses.l1 k l (pre ++ rest) ((i : Nat) : Int) t l n ((i : Nat) : Int) len ((pre.length : Nat) : Int)) r := by
  intro rest
  induction rest with
  | nil =>
    intro pre len hlen hl _ h
    subst hlen
    refine Ev.step (fun k => by rw [impl_CopyClasses.l1]) ?_
    simp only [ix_end (rfl : pre ++ [] = pre ++ []), if_false]
    simpa using h
  | cons c rest ih =>
    intro pre len hlen hl hc h
    obtain ⟨c0, c1⟩ := hc c (by simp)
    have e : pre ++ c :: rest = pre ++ c :: rest := rfl
    have hx : rd_L4 (pre ++ c :: rest) ((pre.length : Nat) : Int) = c := ix_get e
    have b0 : (0 : Int) < ((c.length : Nat) : Int) := by omega
    have hw := ix_wrap e (by omega)
    have b1 : ((pre.length : Nat) : Int) < len := by rw [hlen]; exact ix_lt e
    refine Ev.step (fun k => by rw [impl_CopyClasses.l1]) ?_
    simp only [ix_lt e, ix_nn, if_true, hx, b0, b1]
    by_cases m : rd c 0 = t
    · have hu : upd t ((i : Nat) : Int) c = c ++ [((i : Nat) : Int)] := by
        unfold upd hd
        rw [if_pos m]
      have hs : (pre ++ c :: rest).set ((pre.length : Nat) : Int).toNat (c ++ [((i : Nat) : Int)]) = (pre ++ [c ++ [((i : Nat) : Int)]]) ++ rest := by
        rw [Int.toNat_natCast]
        exact set_mid _ _ _ _ _ rfl
      simp only [m, if_true, show c.length < 17592186044416 by omega, hs, hw]
      have := ih (pre ++ [c ++ [((i : Nat) : Int)]]) len (by rw [hlen]; simp) (by simpa using hl) (fun z hz => hc z (by simp [hz])) (by
        rw [List.map_cons, hu] at h
        simpa using h)
      simpa using this
    · have hu : upd t ((i : Nat) : Int) c = c := by
        unfold upd hd
        rw [if_neg m]
      simp only [m, if_false, hw]
      have := ih (pre ++ [c]) len (by rw [hlen]; simp) (by simpa using hl) (fun z hz => hc z (by simp [hz])) (by
        rw [List.map_cons, hu] at h
        simpa using h)
      simpa using this
theorem hd_upd (t i : Int) (C : List (List Int)) (h : ∀ c ∈ C, 0 < c.length) : (C.map (upd t i)).map hd = C.map hd := by
  rw [List.map_map]
  refine List.map_congr_left (fun c hc => ?_)
  show hd (upd t i c) = hd c
  unfold upd
  split
  · exact hd_app c i (h c hc)
  · rfl
theorem loop (l : List (List ByteArray)) (hb : Small l) (hn : l.length ≤ 10) : ∀ (rest pre : List (List ByteArray)), l = pre ++ rest → ∀ C : List (List Int), C.map hd = fs l pre.length → (∀ c ∈ C, 0 < c.length ∧ c.length ≤ pre.length) →
    ∃ R : List (List Int), R.length ≤ 10 ∧ (∀ c ∈ R, c.length ≤ 10) ∧ Ev (fun k => spec_CopyClasses.l0 k l C l ((l.length : Nat) : Int) ((pre.length : Nat) : Int)) (R, true) ∧ Ev (fun k => impl_CopyClasses.l0 k l C l ((l.length : Nat) : Int) ((pre.length : Nat) : Int)) (R, true) := by
  intro rest
  induction rest with
  | nil =>
    intro pre e C hC hc
    have hpl : pre.length ≤ 10 := by
      have := congrArg List.length e
      simp at this
      omega
    have h1 : C.length ≤ pre.length := by
      have := congrArg List.length hC
      have h2 := fs_len l pre.length
      simp at this
      omega
    refine ⟨C, by omega, fun c h => by have := (hc c h).2; omega, Ev.step (fun k => by rw [spec_CopyClasses.l0]) ?_, Ev.step (fun k => by rw [impl_CopyClasses.l0]) ?_⟩
    · simp only [ix_end e, if_false]
      exact Ev.now _
    · simp only [ix_end e, if_false]
      exact Ev.now _
  | cons x rest ih =>
    intro pre e C hC hc
    have hi : pre.length < l.length := by
      have := ix_lt e
      omega
    have hx : rd_L1 l ((pre.length : Nat) : Int) = x := ix_get e
    have hx' : l.getD pre.length [] = x := ix_get e
    have hCl : C.length ≤ pre.length := by
      have := congrArg List.length hC
      have h2 := fs_len l pre.length
      simp at this
      omega
    have hpos : ∀ c ∈ C, 0 < c.length := fun c h => (hc c h).1
    obtain ⟨s, hs1, hs2, _, _⟩ := st_at l pre.length hi
    have hsF := st_isF l pre.length s hi hs2
    have hmem : st (l.getD pre.length []) l 0 ∈ C.map hd ↔ s < pre.length := by
      rw [hC, fs_mem, hs2]
      constructor
      · rintro ⟨j, h1, _, h3⟩
        omega
      · intro h
        exact ⟨s, h, hsF, rfl⟩
    have hheads : ∀ c ∈ C, 0 < c.length ∧ c.length ≤ 1048576 ∧ ∃ h : Nat, h < l.length ∧ isF l h = true ∧ hd c = ((h : Nat) : Int) := fun c h => by
      have hm : hd c ∈ fs l pre.length := by
        rw [← hC]
        exact List.mem_map_of_mem h
      obtain ⟨j, h1, h2, h3⟩ := (fs_mem l _ _).1 hm
      have := hc c h
      exact ⟨this.1, by omega, j, by omega, h2, h3⟩
    obtain ⟨R, hR1, hR2, hRs, hRi⟩ := ih (pre ++ [x]) (by simp [e]) (C.map (upd (st (l.getD pre.length []) l 0) ((pre.length : Nat) : Int)) ++ (if st (l.getD pre.length []) l 0 ∈ C.map hd then [] else [[((pre.length : Nat) : Int)]]))
      (by
        rw [List.map_append, hd_upd _ _ _ hpos, hC, List.length_append, List.length_singleton, fs]
        congr 1
        by_cases c : s < pre.length
        · have hn' : ¬ isF l pre.length = true := fun h => by
            have := of_decide_eq_true h
            omega
          rw [← hC, if_pos (hmem.2 c), if_neg hn']
          rfl
        · have e' : s = pre.length := by omega
          subst e'
          rw [← hC, if_neg (fun h => c (hmem.1 h)), if_pos hsF]
          rfl)
      (fun c h => by
        rw [List.length_append, List.length_singleton]
        rcases List.mem_append.1 h with h | h
        · obtain ⟨d, hd1, rfl⟩ := List.mem_map.1 h
          have := hc d hd1
          unfold upd
          split
          · simp
            omega
          · omega
        · split at h
          · simp at h
          · simp at h
            subst h
            simp)
    have hw := ix_wrap e (by omega)
    refine ⟨R, hR1, hR2, Ev.step (fun k => by rw [spec_CopyClasses.l0]) ?_, Ev.step (fun k => by rw [impl_CopyClasses.l0]) ?_⟩
    · simp only [ix_lt e, ix_nn, if_true, hx]
      rw [← hx']
      refine spec_false l hb pre.length hi _ (R, true) C [] (by simp; omega) hheads (by rw [hC]; exact fs_ne l _) ?_
      rw [hw]
      simpa using hRs
    · simp only [ix_lt e, ix_nn, if_true, hx]
      refine Ev.bind (stateOf_ev l x hb) ?_
      rw [← hx']
      by_cases c : st (l.getD pre.length []) l 0 = ((pre.length : Nat) : Int)
      · have hns : ¬ s < pre.length := by omega
        have hno : C.map (upd (st (l.getD pre.length []) l 0) ((pre.length : Nat) : Int)) = C := by
          rw [List.map_congr_left (g := id) (fun z hz => ?_), List.map_id]
          unfold upd
          rw [if_neg (fun e' => hns (hmem.1 (by rw [← e']; exact List.mem_map_of_mem hz)))]
          rfl
        rw [hno, if_neg (fun h => hns (hmem.1 h))] at hRi
        simp only [c, if_true, show C.length < 5864062014805 by omega, hw]
        exact hRi
      · have hsp : s < pre.length := by omega
        rw [if_pos (hmem.2 hsp), List.append_nil] at hRi
        simp only [c, if_false]
        refine impl_l1 l pre.length _ _ (R, true) C [] _ rfl (by simp; omega) (fun z hz => ⟨(hheads z hz).1, (hheads z hz).2.1⟩) ?_
        rw [hw]
        simpa using hRi
theorem fns (l : List (List ByteArray)) (hb : Small l) : ∃ r : List (List Int) × Bool, r.1.length ≤ 10 ∧ (∀ c ∈ r.1, c.length ≤ 10) ∧ Ev (fun k => spec_CopyClasses.f k l) r ∧ Ev (fun k => impl_CopyClasses.f k l) r := by
  obtain ⟨q, hq, hq', h10⟩ := copies_ex l hb
  cases q with
  | false =>
    refine ⟨([], false), by simp, by simp, ?_, ?_⟩
    · unfold spec_CopyClasses.f
      exact Ev.bind hq' (Ev.ret (fun _ => by simp))
    · unfold impl_CopyClasses.f
      exact Ev.bind hq (Ev.ret (fun _ => by simp))
  | true =>
    obtain ⟨R, h1, h2, h3, h4⟩ := loop l hb (h10 rfl) l [] rfl [] rfl (by simp)
    refine ⟨(R, true), h1, h2, ?_, ?_⟩
    · unfold spec_CopyClasses.f
      refine Ev.bind hq' ?_
      simp only [if_true]
      exact h3
    · unfold impl_CopyClasses.f
      refine Ev.bind hq ?_
      simp only [if_true]
      exact h4
theorem eqISS_l (l : List (List Int)) (hb : l.length ≤ 10) (hx : ∀ c ∈ l, c.length ≤ 10) : ∀ (rest pre : List (List Int)), l = pre ++ rest → Ev (fun k => laws_eqIntSS.l0 k l l ((pre.length : Nat) : Int)) true := by
  intro rest
  induction rest with
  | nil =>
    intro pre e
    refine Ev.step (fun k => by rw [laws_eqIntSS.l0]) ?_
    simp only [ix_end e, if_false]
    exact Ev.now _
  | cons x rest ih =>
    intro pre e
    have h1 := ih (pre ++ [x]) (by simp [e])
    have hr : rd_L4 l ((pre.length : Nat) : Int) = x := ix_get e
    have := hx x (by simp [e])
    refine Ev.step (fun k => by rw [laws_eqIntSS.l0]) ?_
    simp only [ix_lt e, ix_nn, if_true, hr]
    refine Ev.bind (eqI_ev x (by omega)) ?_
    simp only [if_true, ix_wrap e (by omega)]
    exact h1
theorem eqISS_ev (l : List (List Int)) (hb : l.length ≤ 10) (hx : ∀ c ∈ l, c.length ≤ 10) : Ev (fun k => laws_eqIntSS.f k l l) true := by
  unfold laws_eqIntSS.f
  simp only [if_true]
  exact eqISS_l l hb hx l [] rfl
def upss : List (List Int) → Int → List (List Int)
  | [], _ => []
  | c :: t, a => ups c.length a :: upss t (a + c.length)
def tot : List (List Int) → Nat
  | [] => 0
  | c :: t => c.length + tot t
theorem tot_le : ∀ (l : List (List Int)), (∀ c ∈ l, c.length ≤ 10) → tot l ≤ 10 * l.length
  | [], _ => by simp [tot]
  | c :: t, h => by
    have h1 := tot_le t (fun z hz => h z (by simp [hz]))
    have h2 := h c (by simp)
    simp [tot]
    omega
theorem markISS_l : ∀ (rest pre : List (List Int)) (a : Int), (pre ++ rest).length ≤ 1048576 → (∀ c ∈ rest, c.length ≤ 10) → 0 ≤ a → a + tot rest ≤ 4194304 →
    Ev (fun k => laws_markIntSS.l0 k (pre ++ rest) a ((pre.length : Nat) : Int)) (a + tot rest, pre ++ upss rest a) := by
  intro rest
  induction rest with
  | nil =>
    intro pre a _ _ _ _
    refine Ev.step (fun k => by rw [laws_markIntSS.l0]) ?_
    simp only [ix_end (rfl : pre ++ [] = pre ++ []), if_false]
    exact Ev.ret (fun _ => by simp [upss, tot])
  | cons x rest ih =>
    intro pre a hb hx h0 h1
    have hxl := hx x (by simp)
    simp only [tot] at h1
    have e : pre ++ x :: rest = pre ++ x :: rest := rfl
    have hr : laws_markIntSS.rd (pre ++ x :: rest) ((pre.length : Nat) : Int) = x := ix_get e
    have hm : Ev (fun k => laws_markIntS.f k x a) (a + (x.length : Nat), ups x.length a) := markI_l x [] a (by simp; omega) h0 (by omega)
    have hs : (pre ++ x :: rest).set ((pre.length : Nat) : Int).toNat (ups x.length a) = (pre ++ [ups x.length a]) ++ rest := by
      rw [Int.toNat_natCast]
      exact set_mid _ _ _ _ _ rfl
    have hi := ih (pre ++ [ups x.length a]) (a + x.length) (by simpa using hb) (fun z hz => hx z (by simp [hz])) (by omega) (by omega)
    have hw := ix_wrap e (by omega)
    refine Ev.step (fun k => by rw [laws_markIntSS.l0]) ?_
    simp only [ix_lt e, ix_nn, if_true, hr]
    refine Ev.bind hm ?_
    simp only [hs, hw]
    have e2 : (a + (tot (x :: rest) : Nat), pre ++ upss (x :: rest) a) = (a + (x.length : Nat) + (tot rest : Nat), pre ++ [ups x.length a] ++ upss rest (a + x.length)) := by
      simp [upss, tot]
      omega
    rw [e2]
    simpa using hi
theorem heldISS_l (l : List (List Int)) (hb : l.length ≤ 1048576) : ∀ (rest pre : List (List Int)) (a : Int), l = pre ++ upss rest a → (∀ c ∈ rest, c.length ≤ 10) → 0 ≤ a → a + tot rest ≤ 4194304 →
    Ev (fun k => laws_heldIntSS.l0 k l a ((pre.length : Nat) : Int)) (a + tot rest) := by
  intro rest
  induction rest with
  | nil =>
    intro pre a e _ _ _
    refine Ev.step (fun k => by rw [laws_heldIntSS.l0]) ?_
    simp only [ix_end e, if_false]
    exact Ev.ret (fun _ => by simp [tot])
  | cons x rest ih =>
    intro pre a e hx h0 h1
    have hxl := hx x (by simp)
    simp only [tot] at h1
    rw [upss] at e
    have hr : rd_L4 l ((pre.length : Nat) : Int) = ups x.length a := ix_get e
    have hh : Ev (fun k => laws_heldIntS.f k (ups x.length a) a) (a + (x.length : Nat)) := heldI_l (ups x.length a) (by rw [ups_len]; omega) x.length [] a rfl h0 (by omega)
    have hi := ih (pre ++ [ups x.length a]) (a + x.length) (by simp [e]) (fun z hz => hx z (by simp [hz])) (by omega) (by omega)
    refine Ev.step (fun k => by rw [laws_heldIntSS.l0]) ?_
    simp only [ix_lt e, ix_nn, if_true, hr]
    refine Ev.bind hh ?_
    simp only [show ¬ a + ((x.length : Nat) : Int) < 0 by omega, if_false, ix_wrap e (by omega)]
    rw [show a + ((tot (x :: rest) : Nat) : Int) = a + (x.length : Nat) + (tot rest : Nat) by simp [tot]; omega]
    exact hi
theorem upss_len : ∀ (l : List (List Int)) (a : Int), (upss l a).length = l.length
  | [], _ => rfl
  | c :: t, a => by simp [upss, upss_len t]
theorem proved : Stmt.FnExactCopyClasses := by
  intro l hl hs
  refine Ev.law (g := fun k => laws_FnExactCopyClasses.f k l) ?_
  unfold laws_FnExactCopyClasses.f
  obtain ⟨s, hsz, h⟩ := szSS_ev l 1048576 (by omega) (by omega) hl hs
  refine Ev.bind hsz ?_
  rcases h with h | ⟨h, hs0, hs1, hb⟩
  · simp only [h, if_true]
    exact Ev.now _
  simp only [h, if_false]
  obtain ⟨r, hlen, hlen', hr, hr'⟩ := fns l hb
  obtain ⟨q, hq, hq0, hq1⟩ := markSS_ev l 1 hb (by omega) (by omega)
  have htot := tot_le r.1 hlen'
  have hmark : Ev (fun k => laws_markIntSS.f k r.1 1) (1 + (tot r.1 : Nat), upss r.1 1) := markISS_l r.1 [] 1 (by simp; omega) hlen' (by omega) (by omega)
  have hheld : Ev (fun k => laws_heldIntSS.f k (upss r.1 1) 1) (1 + (tot r.1 : Nat)) := heldISS_l (upss r.1 1) (by rw [upss_len]; omega) r.1 [] 1 rfl hlen' (by omega) (by omega)
  refine Ev.bind (toSS_ev l hb) ?_
  refine Ev.bind hr ?_
  refine Ev.bind (toSS_ev l hb) ?_
  refine Ev.bind hr' ?_
  refine Ev.bind (eqISS_ev _ hlen hlen') ?_
  simp only [bne_self_eq_false, if_true]
  refine Ev.step (fun k => by rw [laws_FnExactCopyClasses.j0]) ?_
  simp only [Bool.false_eq_true, if_false]
  refine Ev.bind (toSS_ev l hb) ?_
  refine Ev.bind (eqSS_ev _ hb) ?_
  simp only [if_true]
  refine Ev.bind hq ?_
  simp only [show ¬ q < 0 by omega, if_false]
  refine Ev.bind (eqISS_ev _ hlen hlen') ?_
  simp only [bne_self_eq_false, if_true]
  refine Ev.step (fun k => by rw [laws_FnExactCopyClasses.j1]) ?_
  simp only [Bool.false_eq_true, if_false]
  refine Ev.bind hmark ?_
  refine Ev.bind hheld ?_
  simp only [show ¬ (1 + ((tot r.1 : Nat) : Int)) < 0 by omega, if_false, if_true]
  refine Ev.bind (toSS_ev l hb) ?_
  refine Ev.bind hr' ?_
  refine Ev.bind (eqISS_ev _ hlen hlen') ?_
  simp only [bne_self_eq_false, if_true]
  refine Ev.step (fun k => by rw [laws_FnExactCopyClasses.j2]) ?_
  simp only [Bool.false_eq_true, if_false]
  refine Ev.bind hheld ?_
  simp only [show ¬ (1 + ((tot r.1 : Nat) : Int)) < 0 by omega, if_false, if_true]
  exact Ev.now _

end Go.Proofs.Ytcnhdcgiapjpoaa.PureFnExactCopyClasses
