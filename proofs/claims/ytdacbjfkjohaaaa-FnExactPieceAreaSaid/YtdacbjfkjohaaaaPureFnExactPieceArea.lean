/- The law FnExactPieceArea holds of the printed functions at every argument. No condition beyond what every readable argument meets. -/
import Derived.Test.YtdacbjfkjohaaaaStmtFnExactPieceArea
import Derived.Test.YtdacbjfkjohaaaaBase
set_option linter.unusedSimpArgs false
set_option linter.unusedVariables false
namespace Go.Proofs.Ytdacbjfkjohaaaa.PureFnExactPieceArea
open Go.Proofs.Ytdacbjfkjohaaaa.PFnExactPieceArea Go.RowKit Go.Proofs.YtdacbjfkjohaaaaW.PrintWords Go.Proofs.YtdacbjfkjohaaaaW.PrintLast Go.Proofs.YtdacbjfkjohaaaaW.PrintMore

open Go.Proofs.Ytdacbjfkjohaaaa.Base
def conv (x : S70) : S68 := ⟨x.f0, x.f1⟩
theorem sz_ev (l : List S70) (h : l.length ≤ 9223372036854775807) : ∃ s, laws_szPieceS.f l 1048576 = some s ∧ (s < 0 ∨ l.length ≤ 1048576 ∧ ¬ s < 0) := by
  unfold laws_szPieceS.f
  rw [wrap_id (by omega) (by omega)]
  split
  · exact ⟨_, rfl, .inl (by omega)⟩
  · exact ⟨_, rfl, .inr (by omega)⟩
theorem to_l (l : List S70) (hb : l.length ≤ 1048576) : ∀ (rest pre : List S70), l = pre ++ rest →
    Ev (fun k => laws_toPieceS.l0 k l (pre.map conv ++ List.replicate rest.length z68) ((pre.length : Nat) : Int)) (l.map conv) := by
  intro rest
  induction rest with
  | nil =>
    intro pre e
    refine Ev.step (fun k => by rw [laws_toPieceS.l0]) ?_
    simp only [ix_end e, if_false]
    exact Ev.ret (fun _ => by simp [e])
  | cons x rest ih =>
    intro pre e
    have h1 := ih (pre ++ [x]) (by simp [e])
    refine Ev.step (fun k => by rw [laws_toPieceS.l0]) ?_
    have hs : (pre.map conv ++ List.replicate (x :: rest).length z68).set ((pre.length : Nat) : Int).toNat (conv x) = (pre ++ [x]).map conv ++ List.replicate rest.length z68 := by
      simp only [List.length_cons, List.replicate_succ, Int.toNat_natCast, List.map_append, List.map_cons, List.map_nil]
      exact set_mid _ _ _ _ _ (by simp)
    have hl : ((pre.length : Nat) : Int) < (((pre.map conv ++ List.replicate (x :: rest).length z68).length : Nat) : Int) := by
      simp
      omega
    have hx : (⟨(rd_T70 l ((pre.length : Nat) : Int)).f0, (rd_T70 l ((pre.length : Nat) : Int)).f1⟩ : S68) = conv x := by
      unfold rd_T70
      rw [ix_get e]
      rfl
    simp only [ix_lt e, ix_nn, if_true, laws_toPiece.f, Option.bind_some, hl, hx, hs, ix_wrap e (by omega)]
    exact h1
theorem to_ev (l : List S70) (hb : l.length ≤ 1048576) : Ev (fun k => laws_toPieceS.f k l) (l.map conv) := by
  unfold laws_toPieceS.f
  have h0 : (0 : Int) ≤ ((l.length : Nat) : Int) := Int.natCast_nonneg _
  have h1 : l.length ≤ 17592186044416 := by omega
  simp only [h0, if_true, Int.toNat_natCast, h1]
  exact to_l l hb l [] rfl
theorem eq_l (l : List S68) (hb : l.length ≤ 1048576) : ∀ (rest pre : List S68), l = pre ++ rest → Ev (fun k => laws_eqPieceS.l0 k l l ((pre.length : Nat) : Int)) true := by
  intro rest
  induction rest with
  | nil =>
    intro pre e
    refine Ev.step (fun k => by rw [laws_eqPieceS.l0]) ?_
    simp only [ix_end e, if_false]
    exact Ev.now _
  | cons x rest ih =>
    intro pre e
    have h1 := ih (pre ++ [x]) (by simp [e])
    refine Ev.step (fun k => by rw [laws_eqPieceS.l0]) ?_
    simp only [ix_lt e, ix_nn, if_true, laws_eqPiece.f, Option.bind_some, bne_self_eq_false, Bool.false_eq_true, if_false, ix_wrap e (by omega)]
    exact h1
theorem eq_ev (l : List S68) (hb : l.length ≤ 1048576) : Ev (fun k => laws_eqPieceS.f k l l) true := by
  unfold laws_eqPieceS.f
  simp only [if_true]
  exact eq_l l hb l [] rfl

theorem l1In_eq (a b c : Int) : spec_l1In.f a b c = some (decide (b ≤ a ∧ a ≤ c)) := by
  unfold spec_l1In.f
  split
  · next h => simp [show b ≤ a from h]
  · next h => simp [show ¬ b ≤ a from h]

theorem within_eq (a b c : Int) : impl_within.f a b c = some (decide (b ≤ a ∧ a ≤ c)) := by
  unfold impl_within.f
  split
  · next h => simp [show b ≤ a from h]
  · next h => simp [show ¬ b ≤ a from h]

def gp (x : S68) : Bool := decide (1 ≤ x.f0 ∧ x.f0 ≤ 8) && decide (1 ≤ x.f1 ∧ x.f1 ≤ 8)
def goodp (l : List S68) : Bool := l.all gp && decide ((l.length : Int) ≤ 8)
theorem goodp_s (l : List S68) (hb : l.length ≤ 1048576) : ∀ (rest pre : List S68), l = pre ++ rest → Ev (fun k => spec_fuPieces.l0 k l l ((l.length : Nat) : Int) ((pre.length : Nat) : Int)) (rest.all gp && decide ((l.length : Int) ≤ 8)) := by
  intro rest
  induction rest with
  | nil =>
    intro pre e
    refine Ev.step (fun k => by rw [spec_fuPieces.l0]) ?_
    simp only [ix_end e, if_false]
    exact Ev.ret (fun _ => by simp)
  | cons x rest ih =>
    intro pre e
    have h1 := ih (pre ++ [x]) (by simp [e])
    refine Ev.step (fun k => by rw [spec_fuPieces.l0]) ?_
    have hx : rd_T68 l ((pre.length : Nat) : Int) = x := ix_get e
    simp only [ix_lt e, ix_nn, if_true, hx, spec_fuSize.f, l1In_eq, Option.bind_some, ix_wrap e (by omega)]
    by_cases c : 1 ≤ x.f0 ∧ x.f0 ≤ 8
    · by_cases c' : 1 ≤ x.f1 ∧ x.f1 ≤ 8
      · simp only [c, c', and_self, decide_true, if_true]
        have hg : gp x = true := by simp [gp, c, c']
        simpa [hg] using h1
      · simp only [c, c', and_self, decide_true, if_true, decide_false, Bool.false_eq_true, if_false]
        have hg : gp x = false := by simp [gp, c, c']
        exact Ev.ret (fun _ => by simp [hg])
    · simp only [c, decide_false, Bool.false_eq_true, if_false]
      have hg : gp x = false := by simp [gp, c]
      exact Ev.ret (fun _ => by simp [hg])
theorem goodp_i (l : List S68) (hb : l.length ≤ 1048576) : ∀ (rest pre : List S68), l = pre ++ rest → Ev (fun k => impl_ArePieces.l0 k l l ((l.length : Nat) : Int) ((pre.length : Nat) : Int)) (rest.all gp && decide ((l.length : Int) ≤ 8)) := by
  intro rest
  induction rest with
  | nil =>
    intro pre e
    refine Ev.step (fun k => by rw [impl_ArePieces.l0]) ?_
    simp only [ix_end e, if_false]
    exact Ev.ret (fun _ => by simp)
  | cons x rest ih =>
    intro pre e
    have h1 := ih (pre ++ [x]) (by simp [e])
    refine Ev.step (fun k => by rw [impl_ArePieces.l0]) ?_
    have hx : rd_T68 l ((pre.length : Nat) : Int) = x := ix_get e
    simp only [ix_lt e, ix_nn, if_true, hx, impl_isChaseSide.f, within_eq, Option.bind_some, ix_wrap e (by omega)]
    by_cases c : 1 ≤ x.f0 ∧ x.f0 ≤ 8
    · by_cases c' : 1 ≤ x.f1 ∧ x.f1 ≤ 8
      · simp only [c, c', and_self, decide_true, if_true]
        have hg : gp x = true := by simp [gp, c, c']
        simpa [hg] using h1
      · simp only [c, c', and_self, decide_true, if_true, decide_false, Bool.false_eq_true, if_false]
        have hg : gp x = false := by simp [gp, c, c']
        exact Ev.ret (fun _ => by simp [hg])
    · simp only [c, decide_false, Bool.false_eq_true, if_false]
      have hg : gp x = false := by simp [gp, c]
      exact Ev.ret (fun _ => by simp [hg])
theorem spec_goodp (l : List S68) (hb : l.length ≤ 1048576) : Ev (fun k => spec_fuPieces.f k l) (goodp l) := goodp_s l hb l [] rfl
theorem impl_goodp (l : List S68) (hb : l.length ≤ 1048576) : Ev (fun k => impl_ArePieces.f k l) (goodp l) := goodp_i l hb l [] rfl

def areaf : List S68 → Int → Int
  | [], c => c
  | x :: t, c => areaf t (wrap64 (c + wrap64 (x.f0 * x.f1)))
theorem area_s (l : List S68) (hb : l.length ≤ 1048576) : ∀ (rest pre : List S68) (c : Int), l = pre ++ rest → Ev (fun k => spec_fuArea.l0 k c l ((l.length : Nat) : Int) ((pre.length : Nat) : Int)) (areaf rest c) := by
  intro rest
  induction rest with
  | nil =>
    intro pre c e
    refine Ev.step (fun k => by rw [spec_fuArea.l0]) ?_
    simp only [ix_end e, if_false]
    exact Ev.now _
  | cons x rest ih =>
    intro pre c e
    refine Ev.step (fun k => by rw [spec_fuArea.l0]) ?_
    have hx : rd_T68 l ((pre.length : Nat) : Int) = x := ix_get e
    simp only [ix_lt e, ix_nn, if_true, hx, ix_wrap e (by omega), areaf]
    exact ih (pre ++ [x]) _ (by simp [e])
theorem area_i (l : List S68) (hb : l.length ≤ 1048576) : ∀ (rest pre : List S68) (c : Int), l = pre ++ rest → Ev (fun k => impl_area.l0 k c l ((l.length : Nat) : Int) ((pre.length : Nat) : Int)) (areaf rest c) := by
  intro rest
  induction rest with
  | nil =>
    intro pre c e
    refine Ev.step (fun k => by rw [impl_area.l0]) ?_
    simp only [ix_end e, if_false]
    exact Ev.now _
  | cons x rest ih =>
    intro pre c e
    refine Ev.step (fun k => by rw [impl_area.l0]) ?_
    have hx : rd_T68 l ((pre.length : Nat) : Int) = x := ix_get e
    simp only [ix_lt e, ix_nn, if_true, hx, ix_wrap e (by omega), areaf]
    exact ih (pre ++ [x]) _ (by simp [e])
theorem spec_area (l : List S68) (hb : l.length ≤ 1048576) : Ev (fun k => spec_fuArea.f k l) (areaf l 0) := area_s l hb l [] 0 rfl
theorem impl_area' (l : List S68) (hb : l.length ≤ 1048576) : Ev (fun k => impl_area.f k l) (areaf l 0) := area_i l hb l [] 0 rfl

theorem spec_fn (l : List S68) (hm : l.length ≤ 1048576) : Ev (fun k => spec_PieceArea.f k l) (if goodp l = true then (areaf l 0, true) else (0, false)) := by
  unfold spec_PieceArea.f
  refine Ev.bind (spec_goodp _ hm) ?_
  cases goodp l
  · exact Ev.now _
  · exact Ev.bind (spec_area _ hm) (Ev.now _)
theorem impl_fn (l : List S68) (hm : l.length ≤ 1048576) : Ev (fun k => impl_PieceArea.f k l) (if goodp l = true then (areaf l 0, true) else (0, false)) := by
  unfold impl_PieceArea.f
  refine Ev.bind (impl_goodp _ hm) ?_
  cases goodp l
  · exact Ev.now _
  · exact Ev.bind (impl_area' _ hm) (Ev.now _)
theorem proved : Stmt.FnExactPieceArea := by
  intro l hl _
  refine Ev.law (g := fun k => laws_FnExactPieceArea.f k l) ?_
  unfold laws_FnExactPieceArea.f
  obtain ⟨s, hs, h⟩ := sz_ev l hl
  simp only [hs, Option.bind_some]
  rcases h with h | ⟨hb, h⟩
  · simp only [h, if_true]
    exact Ev.now _
  simp only [h, if_false]
  have hm : (l.map conv).length ≤ 1048576 := by simpa using hb
  refine Ev.bind (to_ev l hb) ?_
  refine Ev.bind (spec_fn _ hm) ?_
  refine Ev.bind (to_ev l hb) ?_
  refine Ev.bind (impl_fn _ hm) ?_
  simp only [bne_self_eq_false, if_true]
  refine Ev.step (fun k => by rw [laws_FnExactPieceArea.j0]) ?_
  simp only [Bool.false_eq_true, if_false]
  refine Ev.bind (to_ev l hb) ?_
  refine Ev.bind (eq_ev _ hm) ?_
  exact Ev.ret (fun _ => by simp)

end Go.Proofs.Ytdacbjfkjohaaaa.PureFnExactPieceArea
