/- The law FnExactMarginsByRule holds of the printed functions at every argument. No condition beyond what every readable argument meets. -/
import Derived.Test.YtdacbjfkjohaaaaStmtFnExactMarginsByRule
set_option linter.unusedSimpArgs false
set_option linter.unusedVariables false
namespace Go.Proofs.Ytdacbjfkjohaaaa.PureFnExactMarginsByRule
open Go.Proofs.Ytdacbjfkjohaaaa.PFnExactMarginsByRule Go.RowKit Go.Proofs.YtdacbjfkjohaaaaW.PrintWords Go.Proofs.YtdacbjfkjohaaaaW.PrintLast Go.Proofs.YtdacbjfkjohaaaaW.PrintMore

theorem within_eq (a b c : Int) : impl_within.f a b c = some (decide (b ≤ a ∧ a ≤ c)) := by
  unfold impl_within.f
  split
  · next h => simp [show b ≤ a from h]
  · next h => simp [show ¬ b ≤ a from h]

theorem l1In_eq (a b c : Int) : spec_l1In.f a b c = some (decide (b ≤ a ∧ a ≤ c)) := within_eq a b c

theorem l1All4 (a b c d : Int) : spec_l1All.f 6 [a, b, c, d] 0 300 = some (decide (0 ≤ a ∧ a ≤ 300) && (decide (0 ≤ b ∧ b ≤ 300) && (decide (0 ≤ c ∧ c ≤ 300) && decide (0 ≤ d ∧ d ≤ 300)))) := by
  have w0 : wrap64 (0 + 1) = 1 := by unfold wrap64; omega
  have w1 : wrap64 (1 + 1) = 2 := by unfold wrap64; omega
  have w2 : wrap64 (2 + 1) = 3 := by unfold wrap64; omega
  have w3 : wrap64 (3 + 1) = 4 := by unfold wrap64; omega
  have r0 : rd [a, b, c, d] 0 = a := rfl
  have r1 : rd [a, b, c, d] 1 = b := rfl
  have r2 : rd [a, b, c, d] 2 = c := rfl
  have r3 : rd [a, b, c, d] 3 = d := rfl
  have hl : ((([a, b, c, d] : List Int).length : Nat) : Int) = 4 := rfl
  simp only [spec_l1All.f, spec_l1All.l0, hl, l1In_eq, Option.bind_some, w0, w1, w2, w3, r0, r1, r2, r3]
  by_cases ha : 0 ≤ a ∧ a ≤ 300 <;> by_cases hb : 0 ≤ b ∧ b ≤ 300 <;> by_cases hc : 0 ≤ c ∧ c ≤ 300 <;> by_cases hd : 0 ≤ d ∧ d ≤ 300 <;> simp [ha, hb, hc, hd]

theorem layout_eq (w h a b c d : Int) : spec_mgLayout.f 6 w h a b c d = impl_IsLayout.f w h a b c d := by
  unfold spec_mgLayout.f impl_IsLayout.f spec_mgPage.f impl_isPageSize.f spec_mgGood.f spec_mgParts.f impl_areMargins.f
  simp only [Option.bind_some, l1All4, l1In_eq, within_eq]
  by_cases hw : 60 ≤ w ∧ w ≤ 2000 <;> by_cases hh : 60 ≤ h ∧ h ≤ 2000 <;> by_cases ha : 0 ≤ a ∧ a ≤ 300 <;> by_cases hb : 0 ≤ b ∧ b ≤ 300 <;> by_cases hc : 0 ≤ c ∧ c ≤ 300 <;> by_cases hd : 0 ≤ d ∧ d ≤ 300 <;> simp [hw, hh, ha, hb, hc, hd]

theorem layout_some (w h a b c d : Int) : ∃ r, impl_IsLayout.f w h a b c d = some r := by
  unfold impl_IsLayout.f impl_isPageSize.f impl_areMargins.f
  simp only [Option.bind_some, within_eq]
  repeat' split
  all_goals first | exact ⟨_, rfl⟩ | (simp only [Option.bind_some]; repeat' split; all_goals exact ⟨_, rfl⟩)

theorem proved : Stmt.FnExactMarginsByRule := by
  intro w h t _ _ _
  refine ⟨7, ?_⟩
  have lay : ∀ a b c d, ∃ q, impl_IsLayout.f w h a b c d = some q ∧ spec_mgLayout.f 6 w h a b c d = some q := fun a b c d => by
    obtain ⟨q, hq⟩ := layout_some w h a b c d
    exact ⟨q, hq, (layout_eq w h a b c d).trans hq⟩
  unfold laws_FnExactMarginsByRule.f spec_MarginsByRule.f impl_MarginsByRule.f spec_mgPage.f impl_isPageSize.f
  simp only [Option.bind_some, spec_MarginsByRule.j0, impl_checkedMargins.f, l1In_eq, within_eq]
  by_cases h1 : 60 ≤ w ∧ w ≤ 2000
  · by_cases h2 : 60 ≤ h ∧ h ≤ 2000
    · by_cases h3 : 1 ≤ t ∧ t ≤ w
      · have hw : ¬ w = 0 := by omega
        obtain ⟨q, hq, hq'⟩ := lay (wrap64 (Int.tdiv (wrap64 (h - (wrap64 (Int.tdiv (wrap64 (t * h)) w)))) 3)) (wrap64 (Int.tdiv (wrap64 (w - t)) 3)) (wrap64 ((wrap64 (w - t)) - (wrap64 (Int.tdiv (wrap64 (w - t)) 3)))) (wrap64 ((wrap64 (h - (wrap64 (Int.tdiv (wrap64 (t * h)) w)))) - (wrap64 (Int.tdiv (wrap64 (h - (wrap64 (Int.tdiv (wrap64 (t * h)) w)))) 3))))
        simp only [hq, hq']
        cases q <;> simp [h1, h2, h3, hw, laws_eqMargins.f]
      · simp [h1, h2, h3, laws_eqMargins.f]
    · simp [h1, h2, laws_eqMargins.f]
  · simp [h1, laws_eqMargins.f]

end Go.Proofs.Ytdacbjfkjohaaaa.PureFnExactMarginsByRule
