/- The law FnExactDoesFitSheet holds of the printed functions at every argument. No condition beyond what every readable argument meets. -/
import Derived.Test.YtdacbjfkjohaaaaStmtFnExactDoesFitSheet
import Derived.Test.YtdacbjfkjohaaaaBase
set_option linter.unusedSimpArgs false
set_option linter.unusedVariables false
namespace Go.Proofs.Ytdacbjfkjohaaaa.PureFnExactDoesFitSheet
open Go.Proofs.Ytdacbjfkjohaaaa.PFnExactDoesFitSheet Go.RowKit Go.Proofs.YtdacbjfkjohaaaaW.PrintWords Go.Proofs.YtdacbjfkjohaaaaW.PrintLast Go.Proofs.YtdacbjfkjohaaaaW.PrintMore

open Go.Proofs.Ytdacbjfkjohaaaa.Base
def conv (x : S65) : S63 := ⟨x.f0, x.f1⟩
theorem sz_ev (l : List S65) (h : l.length ≤ 9223372036854775807) : ∃ s, laws_szFoldS.f l 1048576 = some s ∧ (s < 0 ∨ l.length ≤ 1048576 ∧ ¬ s < 0) := by
  unfold laws_szFoldS.f
  rw [wrap_id (by omega) (by omega)]
  split
  · exact ⟨_, rfl, .inl (by omega)⟩
  · exact ⟨_, rfl, .inr (by omega)⟩
theorem to_l (l : List S65) (hb : l.length ≤ 1048576) : ∀ (rest pre : List S65), l = pre ++ rest →
    Ev (fun k => laws_toFoldS.l0 k l (pre.map conv ++ List.replicate rest.length z63) ((pre.length : Nat) : Int)) (l.map conv) := by
  intro rest
  induction rest with
  | nil =>
    intro pre e
    refine Ev.step (fun k => by rw [laws_toFoldS.l0]) ?_
    simp only [ix_end e, if_false]
    exact Ev.ret (fun _ => by simp [e])
  | cons x rest ih =>
    intro pre e
    have h1 := ih (pre ++ [x]) (by simp [e])
    refine Ev.step (fun k => by rw [laws_toFoldS.l0]) ?_
    have hs : (pre.map conv ++ List.replicate (x :: rest).length z63).set ((pre.length : Nat) : Int).toNat (conv x) = (pre ++ [x]).map conv ++ List.replicate rest.length z63 := by
      simp only [List.length_cons, List.replicate_succ, Int.toNat_natCast, List.map_append, List.map_cons, List.map_nil]
      exact set_mid _ _ _ _ _ (by simp)
    have hl : ((pre.length : Nat) : Int) < (((pre.map conv ++ List.replicate (x :: rest).length z63).length : Nat) : Int) := by
      simp
      omega
    have hx : (⟨(rd_T65 l ((pre.length : Nat) : Int)).f0, (rd_T65 l ((pre.length : Nat) : Int)).f1⟩ : S63) = conv x := by
      unfold rd_T65
      rw [ix_get e]
      rfl
    simp only [ix_lt e, ix_nn, if_true, laws_toFold.f, Option.bind_some, hl, hx, hs, ix_wrap e (by omega)]
    exact h1
theorem to_ev (l : List S65) (hb : l.length ≤ 1048576) : Ev (fun k => laws_toFoldS.f k l) (l.map conv) := by
  unfold laws_toFoldS.f
  have h0 : (0 : Int) ≤ ((l.length : Nat) : Int) := Int.natCast_nonneg _
  have h1 : l.length ≤ 17592186044416 := by omega
  simp only [h0, if_true, Int.toNat_natCast, h1]
  exact to_l l hb l [] rfl
theorem eq_l (l : List S63) (hb : l.length ≤ 1048576) : ∀ (rest pre : List S63), l = pre ++ rest → Ev (fun k => laws_eqFoldS.l0 k l l ((pre.length : Nat) : Int)) true := by
  intro rest
  induction rest with
  | nil =>
    intro pre e
    refine Ev.step (fun k => by rw [laws_eqFoldS.l0]) ?_
    simp only [ix_end e, if_false]
    exact Ev.now _
  | cons x rest ih =>
    intro pre e
    have h1 := ih (pre ++ [x]) (by simp [e])
    refine Ev.step (fun k => by rw [laws_eqFoldS.l0]) ?_
    simp only [ix_lt e, ix_nn, if_true, laws_eqFold.f, Option.bind_some, bne_self_eq_false, Bool.false_eq_true, if_false, ix_wrap e (by omega)]
    exact h1
theorem eq_ev (l : List S63) (hb : l.length ≤ 1048576) : Ev (fun k => laws_eqFoldS.f k l l) true := by
  unfold laws_eqFoldS.f
  simp only [if_true]
  exact eq_l l hb l [] rfl
theorem l1In_eq (a b c : Int) : spec_l1In.f a b c = some (decide (b ≤ a ∧ a ≤ c)) := by
  unfold spec_l1In.f
  split
  · next h => simp [show b ≤ a from h]
  · next h => simp [show ¬ b ≤ a from h]
def gd (x : S63) : Bool := decide (1 ≤ x.f0 ∧ x.f0 ≤ 2)
def good (l : List S63) : Bool := l.all gd && decide ((l.length : Int) ≤ 4)
theorem good_s (l : List S63) (hb : l.length ≤ 1048576) : ∀ (rest pre : List S63), l = pre ++ rest → Ev (fun k => spec_imGood.l0 k l l ((l.length : Nat) : Int) ((pre.length : Nat) : Int)) (rest.all gd && decide ((l.length : Int) ≤ 4)) := by
  intro rest
  induction rest with
  | nil =>
    intro pre e
    refine Ev.step (fun k => by rw [spec_imGood.l0]) ?_
    simp only [ix_end e, if_false]
    exact Ev.ret (fun _ => by simp)
  | cons x rest ih =>
    intro pre e
    have h1 := ih (pre ++ [x]) (by simp [e])
    refine Ev.step (fun k => by rw [spec_imGood.l0]) ?_
    have hx : rd_T63 l ((pre.length : Nat) : Int) = x := ix_get e
    simp only [ix_lt e, ix_nn, if_true, hx, l1In_eq, Option.bind_some, ix_wrap e (by omega)]
    by_cases c : 1 ≤ x.f0 ∧ x.f0 ≤ 2
    · simp only [c, and_self, decide_true, if_true]
      have hg : gd x = true := by simp [gd, c]
      simpa [hg] using h1
    · simp only [c, decide_false, Bool.false_eq_true, if_false]
      have hg : gd x = false := by simp [gd, c]
      exact Ev.ret (fun _ => by simp [hg])
theorem good_i (l : List S63) (hb : l.length ≤ 1048576) : ∀ (rest pre : List S63), l = pre ++ rest → Ev (fun k => impl_AreFolds.l0 k l l ((l.length : Nat) : Int) ((pre.length : Nat) : Int)) (rest.all gd && decide ((l.length : Int) ≤ 4)) := by
  intro rest
  induction rest with
  | nil =>
    intro pre e
    refine Ev.step (fun k => by rw [impl_AreFolds.l0]) ?_
    simp only [ix_end e, if_false]
    exact Ev.ret (fun _ => by simp)
  | cons x rest ih =>
    intro pre e
    have h1 := ih (pre ++ [x]) (by simp [e])
    refine Ev.step (fun k => by rw [impl_AreFolds.l0]) ?_
    have hx : rd_T63 l ((pre.length : Nat) : Int) = x := ix_get e
    simp only [ix_lt e, ix_nn, if_true, hx, ix_wrap e (by omega)]
    by_cases c1 : x.f0 = 1
    · have hg : gd x = true := by simp [gd, c1]
      simpa [hg, c1] using h1
    · by_cases c2 : x.f0 = 2
      · have hg : gd x = true := by simp [gd, c2]
        simpa [hg, c2] using h1
      · have hg : gd x = false := by
          simp only [gd, decide_eq_false_iff_not]
          omega
        simp only [c1, c2, if_false]
        exact Ev.ret (fun _ => by simp [hg])
theorem spec_good (l : List S63) (hb : l.length ≤ 1048576) : Ev (fun k => spec_imGood.f k l) (good l) := good_s l hb l [] rfl
theorem impl_good (l : List S63) (hb : l.length ≤ 1048576) : Ev (fun k => impl_AreFolds.f k l) (good l) := good_i l hb l [] rfl

theorem within_eq (a b c : Int) : impl_within.f a b c = some (decide (b ≤ a ∧ a ≤ c)) := by
  unfold impl_within.f
  split
  · next h => simp [show b ≤ a from h]
  · next h => simp [show ¬ b ≤ a from h]

def szf : List S63 → Int → Int → Int × Int
  | [], c, r => (c, r)
  | x :: t, c, r => if x.f0 = 1 then szf t (wrap64 (c * 2)) r else szf t c (wrap64 (r * 2))
theorem size_s (l : List S63) (hb : l.length ≤ 1048576) : ∀ (rest pre : List S63) (c r : Int), l = pre ++ rest → Ev (fun k => spec_imSize.l0 k c r l ((l.length : Nat) : Int) ((pre.length : Nat) : Int)) (szf rest c r) := by
  intro rest
  induction rest with
  | nil =>
    intro pre c r e
    refine Ev.step (fun k => by rw [spec_imSize.l0]) ?_
    simp only [ix_end e, if_false]
    exact Ev.now _
  | cons x rest ih =>
    intro pre c r e
    refine Ev.step (fun k => by rw [spec_imSize.l0]) ?_
    have hx : rd_T63 l ((pre.length : Nat) : Int) = x := ix_get e
    simp only [ix_lt e, ix_nn, if_true, hx, ix_wrap e (by omega), szf]
    by_cases c1 : x.f0 = 1
    · simp only [c1, if_true]
      exact ih (pre ++ [x]) _ _ (by simp [e])
    · simp only [c1, if_false]
      exact ih (pre ++ [x]) _ _ (by simp [e])
theorem size_i (l : List S63) (hb : l.length ≤ 1048576) : ∀ (rest pre : List S63) (c r : Int), l = pre ++ rest → Ev (fun k => impl_sheetSize.l0 k c r l ((l.length : Nat) : Int) ((pre.length : Nat) : Int)) (szf rest c r) := by
  intro rest
  induction rest with
  | nil =>
    intro pre c r e
    refine Ev.step (fun k => by rw [impl_sheetSize.l0]) ?_
    simp only [ix_end e, if_false]
    exact Ev.now _
  | cons x rest ih =>
    intro pre c r e
    refine Ev.step (fun k => by rw [impl_sheetSize.l0]) ?_
    have hx : rd_T63 l ((pre.length : Nat) : Int) = x := ix_get e
    simp only [ix_lt e, ix_nn, if_true, hx, ix_wrap e (by omega), szf]
    by_cases c1 : x.f0 = 1
    · simp only [c1, if_true]
      exact ih (pre ++ [x]) _ _ (by simp [e])
    · simp only [c1, if_false]
      exact ih (pre ++ [x]) _ _ (by simp [e])
theorem spec_size (l : List S63) (hb : l.length ≤ 1048576) : Ev (fun k => spec_imSize.f k l) (szf l 1 1) := size_s l hb l [] 1 1 rfl
theorem impl_size (l : List S63) (hb : l.length ≤ 1048576) : Ev (fun k => impl_sheetSize.f k l) (szf l 1 1) := size_i l hb l [] 1 1 rfl

theorem spec_sheet (l : List S63) (hm : l.length ≤ 1048576) (w h t : Int) : Ev (fun k => spec_mgSheet.f k l w h t) (decide (good l = true ∧ (60 ≤ w ∧ w ≤ 2000) ∧ (60 ≤ h ∧ h ≤ 2000) ∧ (0 ≤ t ∧ t ≤ 100))) := by
  unfold spec_mgSheet.f spec_mgPage.f
  simp only [l1In_eq, Option.bind_some]
  refine Ev.bind (spec_good _ hm) ?_
  refine Ev.ret (fun _ => ?_)
  by_cases g : good l = true <;> by_cases h1 : 60 ≤ w ∧ w ≤ 2000 <;> by_cases h2 : 60 ≤ h ∧ h ≤ 2000 <;> by_cases h3 : 0 ≤ t ∧ t ≤ 100 <;> simp [g, h1, h2, h3]

def outs (l : List S63) (w h t : Int) : Int × Int × Bool := if good l = true ∧ (60 ≤ w ∧ w ≤ 2000) ∧ (60 ≤ h ∧ h ≤ 2000) ∧ (0 ≤ t ∧ t ≤ 100) then (wrap64 ((szf l 1 1).1 * wrap64 (w + t)), wrap64 ((szf l 1 1).2 * wrap64 (h + t)), true) else (0, 0, false)
theorem outs_yes (l : List S63) (w h t : Int) (c : good l = true ∧ (60 ≤ w ∧ w ≤ 2000) ∧ (60 ≤ h ∧ h ≤ 2000) ∧ (0 ≤ t ∧ t ≤ 100)) : outs l w h t = (wrap64 ((szf l 1 1).1 * wrap64 (w + t)), wrap64 ((szf l 1 1).2 * wrap64 (h + t)), true) := if_pos c
theorem outs_no (l : List S63) (w h t : Int) (c : ¬ (good l = true ∧ (60 ≤ w ∧ w ≤ 2000) ∧ (60 ≤ h ∧ h ≤ 2000) ∧ (0 ≤ t ∧ t ≤ 100))) : outs l w h t = (0, 0, false) := if_neg c
theorem impl_fn (l : List S63) (hm : l.length ≤ 1048576) (w h t : Int) : Ev (fun k => impl_SheetFor.f k l w h t) (outs l w h t) := by
  unfold impl_SheetFor.f impl_isPageSize.f
  simp only [within_eq, Option.bind_some]
  refine Ev.bind (impl_good _ hm) ?_
  by_cases g : good l = true
  · simp only [g, if_true]
    by_cases h1 : 60 ≤ w ∧ w ≤ 2000
    · by_cases h2 : 60 ≤ h ∧ h ≤ 2000
      · by_cases h3 : 0 ≤ t ∧ t ≤ 100
        · rw [outs_yes l w h t ⟨g, h1, h2, h3⟩]
          simp only [decide_eq_true h1, decide_eq_true h2, decide_eq_true h3, if_true]
          exact Ev.bind (impl_size _ hm) (Ev.now _)
        · rw [outs_no l w h t (fun c => h3 c.2.2.2)]
          exact Ev.ret (fun _ => by simp [h1, h2, h3])
      · rw [outs_no l w h t (fun c => h2 c.2.2.1)]
        exact Ev.ret (fun _ => by simp [h1, h2])
    · rw [outs_no l w h t (fun c => h1 c.2.1)]
      exact Ev.ret (fun _ => by simp [h1])
  · rw [outs_no l w h t (fun c => g c.1)]
    exact Ev.ret (fun _ => by simp [g])

def fit (l : List S63) (w h t sw sh : Int) : Bool × Bool :=
  if (good l = true ∧ (60 ≤ w ∧ w ≤ 2000) ∧ (60 ≤ h ∧ h ≤ 2000) ∧ (0 ≤ t ∧ t ≤ 100)) ∧ (1 ≤ sw ∧ sw ≤ 20000) ∧ (1 ≤ sh ∧ sh ≤ 20000) then
    (decide (wrap64 ((szf l 1 1).1 * wrap64 (w + t)) ≤ sw ∧ wrap64 ((szf l 1 1).2 * wrap64 (h + t)) ≤ sh ∨ wrap64 ((szf l 1 1).1 * wrap64 (w + t)) ≤ sh ∧ wrap64 ((szf l 1 1).2 * wrap64 (h + t)) ≤ sw), true)
  else (false, false)
theorem fit_yes (l : List S63) (w h t sw sh : Int) (c : (good l = true ∧ (60 ≤ w ∧ w ≤ 2000) ∧ (60 ≤ h ∧ h ≤ 2000) ∧ (0 ≤ t ∧ t ≤ 100)) ∧ (1 ≤ sw ∧ sw ≤ 20000) ∧ (1 ≤ sh ∧ sh ≤ 20000)) :
    fit l w h t sw sh = (decide (wrap64 ((szf l 1 1).1 * wrap64 (w + t)) ≤ sw ∧ wrap64 ((szf l 1 1).2 * wrap64 (h + t)) ≤ sh ∨ wrap64 ((szf l 1 1).1 * wrap64 (w + t)) ≤ sh ∧ wrap64 ((szf l 1 1).2 * wrap64 (h + t)) ≤ sw), true) := if_pos c
theorem fit_no (l : List S63) (w h t sw sh : Int) (c : ¬ ((good l = true ∧ (60 ≤ w ∧ w ≤ 2000) ∧ (60 ≤ h ∧ h ≤ 2000) ∧ (0 ≤ t ∧ t ≤ 100)) ∧ (1 ≤ sw ∧ sw ≤ 20000) ∧ (1 ≤ sh ∧ sh ≤ 20000))) :
    fit l w h t sw sh = (false, false) := if_neg c
theorem spec_does (l : List S63) (hm : l.length ≤ 1048576) (w h t sw sh : Int) : Ev (fun k => spec_DoesFitSheet.f k l w h t sw sh) (fit l w h t sw sh) := by
  unfold spec_DoesFitSheet.f
  simp only [l1In_eq, Option.bind_some]
  refine Ev.bind (spec_sheet l hm w h t) ?_
  by_cases g : good l = true ∧ (60 ≤ w ∧ w ≤ 2000) ∧ (60 ≤ h ∧ h ≤ 2000) ∧ (0 ≤ t ∧ t ≤ 100)
  · by_cases h1 : 1 ≤ sw ∧ sw ≤ 20000
    · by_cases h2 : 1 ≤ sh ∧ sh ≤ 20000
      · rw [fit_yes _ _ _ _ _ _ ⟨g, h1, h2⟩]
        simp only [decide_eq_true g, decide_eq_true h1, decide_eq_true h2, if_true]
        refine Ev.bind (spec_size _ hm) (Ev.ret (fun _ => ?_))
        generalize wrap64 ((szf l 1 1).1 * wrap64 (w + t)) = a
        generalize wrap64 ((szf l 1 1).2 * wrap64 (h + t)) = b
        by_cases c1 : a ≤ sw <;> by_cases c2 : b ≤ sh <;> by_cases c3 : a ≤ sh <;> by_cases c4 : b ≤ sw <;> simp [c1, c2, c3, c4]
      · rw [fit_no _ _ _ _ _ _ (fun c => h2 c.2.2)]
        exact Ev.ret (fun _ => by simp only [decide_eq_true g, decide_eq_true h1, decide_eq_false h2, if_true, Bool.false_eq_true, if_false])
    · rw [fit_no _ _ _ _ _ _ (fun c => h1 c.2.1)]
      exact Ev.ret (fun _ => by simp only [decide_eq_true g, decide_eq_false h1, if_true, Bool.false_eq_true, if_false])
  · rw [fit_no _ _ _ _ _ _ (fun c => g c.1)]
    exact Ev.ret (fun _ => by simp only [decide_eq_false g, Bool.false_eq_true, if_false])
theorem impl_does (l : List S63) (hm : l.length ≤ 1048576) (w h t sw sh : Int) : Ev (fun k => impl_DoesFitSheet.f k l w h t sw sh) (fit l w h t sw sh) := by
  unfold impl_DoesFitSheet.f
  simp only [within_eq, Option.bind_some]
  refine Ev.bind (impl_fn l hm w h t) ?_
  refine Ev.ret (fun _ => ?_)
  by_cases g : good l = true ∧ (60 ≤ w ∧ w ≤ 2000) ∧ (60 ≤ h ∧ h ≤ 2000) ∧ (0 ≤ t ∧ t ≤ 100)
  · simp only [outs_yes l w h t g]
    by_cases h1 : 1 ≤ sw ∧ sw ≤ 20000
    · by_cases h2 : 1 ≤ sh ∧ sh ≤ 20000
      · rw [fit_yes _ _ _ _ _ _ ⟨g, h1, h2⟩]
        simp only [decide_eq_true h1, decide_eq_true h2, if_true]
        generalize wrap64 ((szf l 1 1).1 * wrap64 (w + t)) = a
        generalize wrap64 ((szf l 1 1).2 * wrap64 (h + t)) = b
        by_cases c1 : a ≤ sw <;> by_cases c2 : b ≤ sh <;> by_cases c3 : a ≤ sh <;> by_cases c4 : b ≤ sw <;> simp [c1, c2, c3, c4]
      · rw [fit_no _ _ _ _ _ _ (fun c => h2 c.2.2)]
        simp only [decide_eq_true h1, decide_eq_false h2, if_true, Bool.false_eq_true, if_false]
    · rw [fit_no _ _ _ _ _ _ (fun c => h1 c.2.1)]
      simp only [decide_eq_false h1, if_true, Bool.false_eq_true, if_false]
  · rw [fit_no _ _ _ _ _ _ (fun c => g c.1), outs_no l w h t g]
    simp only [Bool.false_eq_true, if_false]
theorem proved : Stmt.FnExactDoesFitSheet := by
  intro l w h t sw sh hl _ _ _ _ _ _
  refine Ev.law (g := fun k => laws_FnExactDoesFitSheet.f k l w h t sw sh) ?_
  unfold laws_FnExactDoesFitSheet.f
  obtain ⟨s, hs, h'⟩ := sz_ev l hl
  simp only [hs, Option.bind_some]
  rcases h' with h' | ⟨hb, h'⟩
  · simp only [h', if_true]
    exact Ev.now _
  simp only [h', if_false]
  have hm : (l.map conv).length ≤ 1048576 := by simpa using hb
  refine Ev.bind (to_ev l hb) ?_
  refine Ev.bind (spec_does _ hm _ _ _ _ _) ?_
  refine Ev.bind (to_ev l hb) ?_
  refine Ev.bind (impl_does _ hm _ _ _ _ _) ?_
  simp only [bne_self_eq_false, Bool.false_eq_true, if_false]
  refine Ev.step (fun k => by rw [laws_FnExactDoesFitSheet.j0]) ?_
  simp only [Bool.false_eq_true, if_false]
  refine Ev.bind (to_ev l hb) ?_
  refine Ev.bind (eq_ev _ hm) ?_
  exact Ev.ret (fun _ => by simp)

end Go.Proofs.Ytdacbjfkjohaaaa.PureFnExactDoesFitSheet
