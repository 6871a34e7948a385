/- The law FnExactPlaceOfType holds of the printed functions at every argument. No condition beyond what every readable argument meets. -/
import Derived.Test.YtdacbjfkjohaaaaStmtFnExactPlaceOfType
set_option linter.unusedSimpArgs false
set_option linter.unusedVariables false
namespace Go.Proofs.Ytdacbjfkjohaaaa.PureFnExactPlaceOfType
open Go.Proofs.Ytdacbjfkjohaaaa.PFnExactPlaceOfType Go.RowKit Go.Proofs.YtdacbjfkjohaaaaW.PrintWords Go.Proofs.YtdacbjfkjohaaaaW.PrintLast Go.Proofs.YtdacbjfkjohaaaaW.PrintMore

theorem within_eq (a b c : Int) : impl_within.f a b c = some (decide (b ≤ a ∧ a ≤ c)) := by
  unfold impl_within.f
  split
  · next h => simp [show b ≤ a from h]
  · next h => simp [show ¬ b ≤ a from h]

theorem l1In_eq (a b c : Int) : spec_l1In.f a b c = some (decide (b ≤ a ∧ a ≤ c)) := within_eq a b c

theorem l1All4 (a b c d : Int) : spec_l1All.f 6 [a, b, c, d] 0 300 = some (decide (0 ≤ a ∧ a ≤ 300) && (decide (0 ≤ b ∧ b ≤ 300) && (decide (0 ≤ c ∧ c ≤ 300) && decide (0 ≤ d ∧ d ≤ 300)))) := by
  have w0 : wrap64 (0 + 1) = 1 := by unfold wrap64; omega
  have w1 : wrap64 (1 + 1) = 2 := by unfold wrap64; omega
  have w2 : wrap64 (2 + 1) = 3 := by unfold wrap64; omega
  have w3 : wrap64 (3 + 1) = 4 := by unfold wrap64; omega
  have r0 : rd [a, b, c, d] 0 = a := rfl
  have r1 : rd [a, b, c, d] 1 = b := rfl
  have r2 : rd [a, b, c, d] 2 = c := rfl
  have r3 : rd [a, b, c, d] 3 = d := rfl
  have hl : ((([a, b, c, d] : List Int).length : Nat) : Int) = 4 := rfl
  simp only [spec_l1All.f, spec_l1All.l0, hl, l1In_eq, Option.bind_some, w0, w1, w2, w3, r0, r1, r2, r3]
  by_cases ha : 0 ≤ a ∧ a ≤ 300 <;> by_cases hb : 0 ≤ b ∧ b ≤ 300 <;> by_cases hc : 0 ≤ c ∧ c ≤ 300 <;> by_cases hd : 0 ≤ d ∧ d ≤ 300 <;> simp [ha, hb, hc, hd]

theorem layout_eq (w h a b c d : Int) : spec_mgLayout.f 6 w h a b c d = impl_IsLayout.f w h a b c d := by
  unfold spec_mgLayout.f impl_IsLayout.f spec_mgPage.f impl_isPageSize.f spec_mgGood.f spec_mgParts.f impl_areMargins.f
  simp only [Option.bind_some, l1All4, l1In_eq, within_eq]
  by_cases hw : 60 ≤ w ∧ w ≤ 2000 <;> by_cases hh : 60 ≤ h ∧ h ≤ 2000 <;> by_cases ha : 0 ≤ a ∧ a ≤ 300 <;> by_cases hb : 0 ≤ b ∧ b ≤ 300 <;> by_cases hc : 0 ≤ c ∧ c ≤ 300 <;> by_cases hd : 0 ≤ d ∧ d ≤ 300 <;> simp [hw, hh, ha, hb, hc, hd]

theorem layout_some (w h a b c d : Int) : ∃ r, impl_IsLayout.f w h a b c d = some r := by
  unfold impl_IsLayout.f impl_isPageSize.f impl_areMargins.f
  simp only [Option.bind_some, within_eq]
  repeat' split
  all_goals first | exact ⟨_, rfl⟩ | (simp only [Option.bind_some]; repeat' split; all_goals exact ⟨_, rfl⟩)

theorem proved : Stmt.FnExactPlaceOfType := by
  intro w h a b c d p _ _ _ _ _ _ _
  refine ⟨6, ?_⟩
  obtain ⟨r, hr⟩ := layout_some w h a b c d
  have hj : ∀ x y, spec_PlaceOfType.j0 6 x y a b c d = impl_PlaceOfType.j0 6 x y a b c d := fun _ _ => rfl
  have hs : ∀ x y, ∃ q, impl_PlaceOfType.j0 6 x y a b c d = some q := by
    intro x y
    simp only [impl_PlaceOfType.j0]
    repeat' split
    all_goals exact ⟨_, rfl⟩
  unfold laws_FnExactPlaceOfType.f laws_toMargins.f spec_PlaceOfType.f impl_PlaceOfType.f
  simp only [Option.bind_some, layout_eq, hr, hj, l1In_eq, within_eq]
  cases r with
  | true =>
    obtain ⟨q, hq⟩ := hs p (!decide (1 ≤ p ∧ p ≤ 9999))
    simp only [if_true, hq, Option.bind_some]
    simp
  | false =>
    obtain ⟨q, hq⟩ := hs p true
    simp only [Bool.false_eq_true, if_false, hq, Option.bind_some]
    simp

end Go.Proofs.Ytdacbjfkjohaaaa.PureFnExactPlaceOfType
