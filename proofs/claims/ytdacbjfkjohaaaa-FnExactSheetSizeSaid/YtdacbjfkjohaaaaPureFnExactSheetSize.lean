/- The law FnExactSheetSize holds of the printed functions at every argument. No condition beyond what every readable argument meets. -/
import Derived.Test.YtdacbjfkjohaaaaStmtFnExactSheetSize
import Derived.Test.YtdacbjfkjohaaaaBase
set_option linter.unusedSimpArgs false
set_option linter.unusedVariables false
namespace Go.Proofs.Ytdacbjfkjohaaaa.PureFnExactSheetSize
open Go.Proofs.Ytdacbjfkjohaaaa.PFnExactSheetSize Go.RowKit Go.Proofs.YtdacbjfkjohaaaaW.PrintWords Go.Proofs.YtdacbjfkjohaaaaW.PrintLast Go.Proofs.YtdacbjfkjohaaaaW.PrintMore

open Go.Proofs.Ytdacbjfkjohaaaa.Base
def conv (x : S65) : S63 := ⟨x.f0, x.f1⟩
theorem sz_ev (l : List S65) (h : l.length ≤ 9223372036854775807) : ∃ s, laws_szFoldS.f l 1048576 = some s ∧ (s < 0 ∨ l.length ≤ 1048576 ∧ ¬ s < 0) := by
  unfold laws_szFoldS.f
  rw [wrap_id (by omega) (by omega)]
  split
  · exact ⟨_, rfl, .inl (by omega)⟩
  · exact ⟨_, rfl, .inr (by omega)⟩
theorem to_l (l : List S65) (hb : l.length ≤ 1048576) : ∀ (rest pre : List S65), l = pre ++ rest →
    Ev (fun k => laws_toFoldS.l0 k l (pre.map conv ++ List.replicate rest.length z63) ((pre.length : Nat) : Int)) (l.map conv) := by
  intro rest
  induction rest with
  | nil =>
    intro pre e
    refine Ev.step (fun k => by rw [laws_toFoldS.l0]) ?_
    simp only [ix_end e, if_false]
    exact Ev.ret (fun _ => by simp [e])
  | cons x rest ih =>
    intro pre e
    have h1 := ih (pre ++ [x]) (by simp [e])
    refine Ev.step (fun k => by rw [laws_toFoldS.l0]) ?_
    have hs : (pre.map conv ++ List.replicate (x :: rest).length z63).set ((pre.length : Nat) : Int).toNat (conv x) = (pre ++ [x]).map conv ++ List.replicate rest.length z63 := by
      simp only [List.length_cons, List.replicate_succ, Int.toNat_natCast, List.map_append, List.map_cons, List.map_nil]
      exact set_mid _ _ _ _ _ (by simp)
    have hl : ((pre.length : Nat) : Int) < (((pre.map conv ++ List.replicate (x :: rest).length z63).length : Nat) : Int) := by
      simp
      omega
    have hx : (⟨(rd_T65 l ((pre.length : Nat) : Int)).f0, (rd_T65 l ((pre.length : Nat) : Int)).f1⟩ : S63) = conv x := by
      unfold rd_T65
      rw [ix_get e]
      rfl
    simp only [ix_lt e, ix_nn, if_true, laws_toFold.f, Option.bind_some, hl, hx, hs, ix_wrap e (by omega)]
    exact h1
theorem to_ev (l : List S65) (hb : l.length ≤ 1048576) : Ev (fun k => laws_toFoldS.f k l) (l.map conv) := by
  unfold laws_toFoldS.f
  have h0 : (0 : Int) ≤ ((l.length : Nat) : Int) := Int.natCast_nonneg _
  have h1 : l.length ≤ 17592186044416 := by omega
  simp only [h0, if_true, Int.toNat_natCast, h1]
  exact to_l l hb l [] rfl
theorem eq_l (l : List S63) (hb : l.length ≤ 1048576) : ∀ (rest pre : List S63), l = pre ++ rest → Ev (fun k => laws_eqFoldS.l0 k l l ((pre.length : Nat) : Int)) true := by
  intro rest
  induction rest with
  | nil =>
    intro pre e
    refine Ev.step (fun k => by rw [laws_eqFoldS.l0]) ?_
    simp only [ix_end e, if_false]
    exact Ev.now _
  | cons x rest ih =>
    intro pre e
    have h1 := ih (pre ++ [x]) (by simp [e])
    refine Ev.step (fun k => by rw [laws_eqFoldS.l0]) ?_
    simp only [ix_lt e, ix_nn, if_true, laws_eqFold.f, Option.bind_some, bne_self_eq_false, Bool.false_eq_true, if_false, ix_wrap e (by omega)]
    exact h1
theorem eq_ev (l : List S63) (hb : l.length ≤ 1048576) : Ev (fun k => laws_eqFoldS.f k l l) true := by
  unfold laws_eqFoldS.f
  simp only [if_true]
  exact eq_l l hb l [] rfl
theorem l1In_eq (a b c : Int) : spec_l1In.f a b c = some (decide (b ≤ a ∧ a ≤ c)) := by
  unfold spec_l1In.f
  split
  · next h => simp [show b ≤ a from h]
  · next h => simp [show ¬ b ≤ a from h]
def gd (x : S63) : Bool := decide (1 ≤ x.f0 ∧ x.f0 ≤ 2)
def good (l : List S63) : Bool := l.all gd && decide ((l.length : Int) ≤ 4)
theorem good_s (l : List S63) (hb : l.length ≤ 1048576) : ∀ (rest pre : List S63), l = pre ++ rest → Ev (fun k => spec_imGood.l0 k l l ((l.length : Nat) : Int) ((pre.length : Nat) : Int)) (rest.all gd && decide ((l.length : Int) ≤ 4)) := by
  intro rest
  induction rest with
  | nil =>
    intro pre e
    refine Ev.step (fun k => by rw [spec_imGood.l0]) ?_
    simp only [ix_end e, if_false]
    exact Ev.ret (fun _ => by simp)
  | cons x rest ih =>
    intro pre e
    have h1 := ih (pre ++ [x]) (by simp [e])
    refine Ev.step (fun k => by rw [spec_imGood.l0]) ?_
    have hx : rd_T63 l ((pre.length : Nat) : Int) = x := ix_get e
    simp only [ix_lt e, ix_nn, if_true, hx, l1In_eq, Option.bind_some, ix_wrap e (by omega)]
    by_cases c : 1 ≤ x.f0 ∧ x.f0 ≤ 2
    · simp only [c, and_self, decide_true, if_true]
      have hg : gd x = true := by simp [gd, c]
      simpa [hg] using h1
    · simp only [c, decide_false, Bool.false_eq_true, if_false]
      have hg : gd x = false := by simp [gd, c]
      exact Ev.ret (fun _ => by simp [hg])
theorem good_i (l : List S63) (hb : l.length ≤ 1048576) : ∀ (rest pre : List S63), l = pre ++ rest → Ev (fun k => impl_AreFolds.l0 k l l ((l.length : Nat) : Int) ((pre.length : Nat) : Int)) (rest.all gd && decide ((l.length : Int) ≤ 4)) := by
  intro rest
  induction rest with
  | nil =>
    intro pre e
    refine Ev.step (fun k => by rw [impl_AreFolds.l0]) ?_
    simp only [ix_end e, if_false]
    exact Ev.ret (fun _ => by simp)
  | cons x rest ih =>
    intro pre e
    have h1 := ih (pre ++ [x]) (by simp [e])
    refine Ev.step (fun k => by rw [impl_AreFolds.l0]) ?_
    have hx : rd_T63 l ((pre.length : Nat) : Int) = x := ix_get e
    simp only [ix_lt e, ix_nn, if_true, hx, ix_wrap e (by omega)]
    by_cases c1 : x.f0 = 1
    · have hg : gd x = true := by simp [gd, c1]
      simpa [hg, c1] using h1
    · by_cases c2 : x.f0 = 2
      · have hg : gd x = true := by simp [gd, c2]
        simpa [hg, c2] using h1
      · have hg : gd x = false := by
          simp only [gd, decide_eq_false_iff_not]
          omega
        simp only [c1, c2, if_false]
        exact Ev.ret (fun _ => by simp [hg])
theorem spec_good (l : List S63) (hb : l.length ≤ 1048576) : Ev (fun k => spec_imGood.f k l) (good l) := good_s l hb l [] rfl
theorem impl_good (l : List S63) (hb : l.length ≤ 1048576) : Ev (fun k => impl_AreFolds.f k l) (good l) := good_i l hb l [] rfl

def szf : List S63 → Int → Int → Int × Int
  | [], c, r => (c, r)
  | x :: t, c, r => if x.f0 = 1 then szf t (wrap64 (c * 2)) r else szf t c (wrap64 (r * 2))
theorem size_s (l : List S63) (hb : l.length ≤ 1048576) : ∀ (rest pre : List S63) (c r : Int), l = pre ++ rest → Ev (fun k => spec_imSize.l0 k c r l ((l.length : Nat) : Int) ((pre.length : Nat) : Int)) (szf rest c r) := by
  intro rest
  induction rest with
  | nil =>
    intro pre c r e
    refine Ev.step (fun k => by rw [spec_imSize.l0]) ?_
    simp only [ix_end e, if_false]
    exact Ev.now _
  | cons x rest ih =>
    intro pre c r e
    refine Ev.step (fun k => by rw [spec_imSize.l0]) ?_
    have hx : rd_T63 l ((pre.length : Nat) : Int) = x := ix_get e
    simp only [ix_lt e, ix_nn, if_true, hx, ix_wrap e (by omega), szf]
    by_cases c1 : x.f0 = 1
    · simp only [c1, if_true]
      exact ih (pre ++ [x]) _ _ (by simp [e])
    · simp only [c1, if_false]
      exact ih (pre ++ [x]) _ _ (by simp [e])
theorem size_i (l : List S63) (hb : l.length ≤ 1048576) : ∀ (rest pre : List S63) (c r : Int), l = pre ++ rest → Ev (fun k => impl_sheetSize.l0 k c r l ((l.length : Nat) : Int) ((pre.length : Nat) : Int)) (szf rest c r) := by
  intro rest
  induction rest with
  | nil =>
    intro pre c r e
    refine Ev.step (fun k => by rw [impl_sheetSize.l0]) ?_
    simp only [ix_end e, if_false]
    exact Ev.now _
  | cons x rest ih =>
    intro pre c r e
    refine Ev.step (fun k => by rw [impl_sheetSize.l0]) ?_
    have hx : rd_T63 l ((pre.length : Nat) : Int) = x := ix_get e
    simp only [ix_lt e, ix_nn, if_true, hx, ix_wrap e (by omega), szf]
    by_cases c1 : x.f0 = 1
    · simp only [c1, if_true]
      exact ih (pre ++ [x]) _ _ (by simp [e])
    · simp only [c1, if_false]
      exact ih (pre ++ [x]) _ _ (by simp [e])
theorem spec_size (l : List S63) (hb : l.length ≤ 1048576) : Ev (fun k => spec_imSize.f k l) (szf l 1 1) := size_s l hb l [] 1 1 rfl
theorem impl_size (l : List S63) (hb : l.length ≤ 1048576) : Ev (fun k => impl_sheetSize.f k l) (szf l 1 1) := size_i l hb l [] 1 1 rfl

theorem spec_fn (l : List S63) (hm : l.length ≤ 1048576) : Ev (fun k => spec_SheetSize.f k l) (if good l = true then ((szf l 1 1).1, (szf l 1 1).2, true) else (0, 0, false)) := by
  unfold spec_SheetSize.f
  refine Ev.bind (spec_good _ hm) ?_
  cases good l
  · exact Ev.now _
  · exact Ev.bind (spec_size _ hm) (Ev.now _)
theorem impl_fn (l : List S63) (hm : l.length ≤ 1048576) : Ev (fun k => impl_SheetSize.f k l) (if good l = true then ((szf l 1 1).1, (szf l 1 1).2, true) else (0, 0, false)) := by
  unfold impl_SheetSize.f
  refine Ev.bind (impl_good _ hm) ?_
  cases good l
  · exact Ev.now _
  · exact Ev.bind (impl_size _ hm) (Ev.now _)
theorem proved : Stmt.FnExactSheetSize := by
  intro l hl _
  refine Ev.law (g := fun k => laws_FnExactSheetSize.f k l) ?_
  unfold laws_FnExactSheetSize.f
  obtain ⟨s, hs, h⟩ := sz_ev l hl
  simp only [hs, Option.bind_some]
  rcases h with h | ⟨hb, h⟩
  · simp only [h, if_true]
    exact Ev.now _
  simp only [h, if_false]
  have hm : (l.map conv).length ≤ 1048576 := by simpa using hb
  refine Ev.bind (to_ev l hb) ?_
  refine Ev.bind (spec_fn _ hm) ?_
  refine Ev.bind (to_ev l hb) ?_
  refine Ev.bind (impl_fn _ hm) ?_
  simp only [bne_self_eq_false, if_true]
  refine Ev.step (fun k => by rw [laws_FnExactSheetSize.j0]) ?_
  simp only [Bool.false_eq_true, if_false]
  refine Ev.bind (to_ev l hb) ?_
  refine Ev.bind (eq_ev _ hm) ?_
  exact Ev.ret (fun _ => by simp)

end Go.Proofs.Ytdacbjfkjohaaaa.PureFnExactSheetSize
