/- The law FnExactFillChase holds of the printed functions at every argument. No condition beyond what every readable argument meets. -/
import Derived.Test.YthpgmjlhakdemaaStmtFnExactFillChase
import Derived.Test.YthpgmjlhakdemaaBase
set_option linter.unusedSimpArgs false
set_option linter.unusedVariables false
namespace Go.Proofs.Ythpgmjlhakdemaa.PureFnExactFillChase
open Go.Proofs.Ythpgmjlhakdemaa.PFnExactFillChase Go.RowKit Go.Proofs.YthpgmjlhakdemaaW.PrintWords Go.Proofs.YthpgmjlhakdemaaW.PrintLast Go.Proofs.YthpgmjlhakdemaaW.PrintMore

open Go.Proofs.Ythpgmjlhakdemaa.Base
def conv (x : S54) : S50 := ⟨x.f0, x.f1⟩
theorem sz_ev (l : List S54) (h : l.length ≤ 9223372036854775807) : ∃ s, laws_szPieceS.f l 1048576 = some s ∧ (s < 0 ∨ l.length ≤ 1048576 ∧ ¬ s < 0) := by
  unfold laws_szPieceS.f
  rw [wrap_id (by omega) (by omega)]
  split
  · exact ⟨_, rfl, .inl (by omega)⟩
  · exact ⟨_, rfl, .inr (by omega)⟩
theorem to_l (l : List S54) (hb : l.length ≤ 1048576) : ∀ (rest pre : List S54), l = pre ++ rest →
    Ev (fun k => laws_toPieceS.l0 k l (pre.map conv ++ List.replicate rest.length z50) ((pre.length : Nat) : Int)) (l.map conv) := by
  intro rest
  induction rest with
  | nil =>
    intro pre e
    refine Ev.step (fun k => by rw [laws_toPieceS.l0]) ?_
    simp only [ix_end e, if_false]
    exact Ev.ret (fun _ => by simp [e])
  | cons x rest ih =>
    intro pre e
    have h1 := ih (pre ++ [x]) (by simp [e])
    refine Ev.step (fun k => by rw [laws_toPieceS.l0]) ?_
    have hs : (pre.map conv ++ List.replicate (x :: rest).length z50).set ((pre.length : Nat) : Int).toNat (conv x) = (pre ++ [x]).map conv ++ List.replicate rest.length z50 := by
      simp only [List.length_cons, List.replicate_succ, Int.toNat_natCast, List.map_append, List.map_cons, List.map_nil]
      exact set_mid _ _ _ _ _ (by simp)
    have hl : ((pre.length : Nat) : Int) < (((pre.map conv ++ List.replicate (x :: rest).length z50).length : Nat) : Int) := by
      simp
      omega
    have hx : (⟨(rd_T54 l ((pre.length : Nat) : Int)).f0, (rd_T54 l ((pre.length : Nat) : Int)).f1⟩ : S50) = conv x := by
      unfold rd_T54
      rw [ix_get e]
      rfl
    simp only [ix_lt e, ix_nn, if_true, laws_toPiece.f, Option.bind_some, hl, hx, hs, ix_wrap e (by omega)]
    exact h1
theorem to_ev (l : List S54) (hb : l.length ≤ 1048576) : Ev (fun k => laws_toPieceS.f k l) (l.map conv) := by
  unfold laws_toPieceS.f
  have h0 : (0 : Int) ≤ ((l.length : Nat) : Int) := Int.natCast_nonneg _
  have h1 : l.length ≤ 17592186044416 := by omega
  simp only [h0, if_true, Int.toNat_natCast, h1]
  exact to_l l hb l [] rfl
theorem eq_l (l : List S50) (hb : l.length ≤ 1048576) : ∀ (rest pre : List S50), l = pre ++ rest → Ev (fun k => laws_eqPieceS.l0 k l l ((pre.length : Nat) : Int)) true := by
  intro rest
  induction rest with
  | nil =>
    intro pre e
    refine Ev.step (fun k => by rw [laws_eqPieceS.l0]) ?_
    simp only [ix_end e, if_false]
    exact Ev.now _
  | cons x rest ih =>
    intro pre e
    have h1 := ih (pre ++ [x]) (by simp [e])
    refine Ev.step (fun k => by rw [laws_eqPieceS.l0]) ?_
    simp only [ix_lt e, ix_nn, if_true, laws_eqPiece.f, Option.bind_some, bne_self_eq_false, Bool.false_eq_true, if_false, ix_wrap e (by omega)]
    exact h1
theorem eq_ev (l : List S50) (hb : l.length ≤ 1048576) : Ev (fun k => laws_eqPieceS.f k l l) true := by
  unfold laws_eqPieceS.f
  simp only [if_true]
  exact eq_l l hb l [] rfl

theorem l1In_eq (a b c : Int) : spec_l1In.f a b c = some (decide (b ≤ a ∧ a ≤ c)) := by
  unfold spec_l1In.f
  split
  · next h => simp [show b ≤ a from h]
  · next h => simp [show ¬ b ≤ a from h]

theorem within_eq (a b c : Int) : impl_within.f a b c = some (decide (b ≤ a ∧ a ≤ c)) := by
  unfold impl_within.f
  split
  · next h => simp [show b ≤ a from h]
  · next h => simp [show ¬ b ≤ a from h]

def gp (x : S50) : Bool := decide (1 ≤ x.f0 ∧ x.f0 ≤ 8) && decide (1 ≤ x.f1 ∧ x.f1 ≤ 8)
def goodp (l : List S50) : Bool := l.all gp && decide ((l.length : Int) ≤ 8)
theorem goodp_s (l : List S50) (hb : l.length ≤ 1048576) : ∀ (rest pre : List S50), l = pre ++ rest → Ev (fun k => spec_fuPieces.l0 k l l ((l.length : Nat) : Int) ((pre.length : Nat) : Int)) (rest.all gp && decide ((l.length : Int) ≤ 8)) := by
  intro rest
  induction rest with
  | nil =>
    intro pre e
    refine Ev.step (fun k => by rw [spec_fuPieces.l0]) ?_
    simp only [ix_end e, if_false]
    exact Ev.ret (fun _ => by simp)
  | cons x rest ih =>
    intro pre e
    have h1 := ih (pre ++ [x]) (by simp [e])
    refine Ev.step (fun k => by rw [spec_fuPieces.l0]) ?_
    have hx : rd_T50 l ((pre.length : Nat) : Int) = x := ix_get e
    simp only [ix_lt e, ix_nn, if_true, hx, spec_fuSize.f, l1In_eq, Option.bind_some, ix_wrap e (by omega)]
    by_cases c : 1 ≤ x.f0 ∧ x.f0 ≤ 8
    · by_cases c' : 1 ≤ x.f1 ∧ x.f1 ≤ 8
      · simp only [c, c', and_self, decide_true, if_true]
        have hg : gp x = true := by simp [gp, c, c']
        simpa [hg] using h1
      · simp only [c, c', and_self, decide_true, if_true, decide_false, Bool.false_eq_true, if_false]
        have hg : gp x = false := by simp [gp, c, c']
        exact Ev.ret (fun _ => by simp [hg])
    · simp only [c, decide_false, Bool.false_eq_true, if_false]
      have hg : gp x = false := by simp [gp, c]
      exact Ev.ret (fun _ => by simp [hg])
theorem goodp_i (l : List S50) (hb : l.length ≤ 1048576) : ∀ (rest pre : List S50), l = pre ++ rest → Ev (fun k => impl_ArePieces.l0 k l l ((l.length : Nat) : Int) ((pre.length : Nat) : Int)) (rest.all gp && decide ((l.length : Int) ≤ 8)) := by
  intro rest
  induction rest with
  | nil =>
    intro pre e
    refine Ev.step (fun k => by rw [impl_ArePieces.l0]) ?_
    simp only [ix_end e, if_false]
    exact Ev.ret (fun _ => by simp)
  | cons x rest ih =>
    intro pre e
    have h1 := ih (pre ++ [x]) (by simp [e])
    refine Ev.step (fun k => by rw [impl_ArePieces.l0]) ?_
    have hx : rd_T50 l ((pre.length : Nat) : Int) = x := ix_get e
    simp only [ix_lt e, ix_nn, if_true, hx, impl_isChaseSide.f, within_eq, Option.bind_some, ix_wrap e (by omega)]
    by_cases c : 1 ≤ x.f0 ∧ x.f0 ≤ 8
    · by_cases c' : 1 ≤ x.f1 ∧ x.f1 ≤ 8
      · simp only [c, c', and_self, decide_true, if_true]
        have hg : gp x = true := by simp [gp, c, c']
        simpa [hg] using h1
      · simp only [c, c', and_self, decide_true, if_true, decide_false, Bool.false_eq_true, if_false]
        have hg : gp x = false := by simp [gp, c, c']
        exact Ev.ret (fun _ => by simp [hg])
    · simp only [c, decide_false, Bool.false_eq_true, if_false]
      have hg : gp x = false := by simp [gp, c]
      exact Ev.ret (fun _ => by simp [hg])
theorem spec_goodp (l : List S50) (hb : l.length ≤ 1048576) : Ev (fun k => spec_fuPieces.f k l) (goodp l) := goodp_s l hb l [] rfl
theorem impl_goodp (l : List S50) (hb : l.length ≤ 1048576) : Ev (fun k => impl_ArePieces.f k l) (goodp l) := goodp_i l hb l [] rfl

def areaf : List S50 → Int → Int
  | [], c => c
  | x :: t, c => areaf t (wrap64 (c + wrap64 (x.f0 * x.f1)))
theorem area_s (l : List S50) (hb : l.length ≤ 1048576) : ∀ (rest pre : List S50) (c : Int), l = pre ++ rest → Ev (fun k => spec_fuArea.l0 k c l ((l.length : Nat) : Int) ((pre.length : Nat) : Int)) (areaf rest c) := by
  intro rest
  induction rest with
  | nil =>
    intro pre c e
    refine Ev.step (fun k => by rw [spec_fuArea.l0]) ?_
    simp only [ix_end e, if_false]
    exact Ev.now _
  | cons x rest ih =>
    intro pre c e
    refine Ev.step (fun k => by rw [spec_fuArea.l0]) ?_
    have hx : rd_T50 l ((pre.length : Nat) : Int) = x := ix_get e
    simp only [ix_lt e, ix_nn, if_true, hx, ix_wrap e (by omega), areaf]
    exact ih (pre ++ [x]) _ (by simp [e])
theorem area_i (l : List S50) (hb : l.length ≤ 1048576) : ∀ (rest pre : List S50) (c : Int), l = pre ++ rest → Ev (fun k => impl_area.l0 k c l ((l.length : Nat) : Int) ((pre.length : Nat) : Int)) (areaf rest c) := by
  intro rest
  induction rest with
  | nil =>
    intro pre c e
    refine Ev.step (fun k => by rw [impl_area.l0]) ?_
    simp only [ix_end e, if_false]
    exact Ev.now _
  | cons x rest ih =>
    intro pre c e
    refine Ev.step (fun k => by rw [impl_area.l0]) ?_
    have hx : rd_T50 l ((pre.length : Nat) : Int) = x := ix_get e
    simp only [ix_lt e, ix_nn, if_true, hx, ix_wrap e (by omega), areaf]
    exact ih (pre ++ [x]) _ (by simp [e])
theorem spec_area (l : List S50) (hb : l.length ≤ 1048576) : Ev (fun k => spec_fuArea.f k l) (areaf l 0) := area_s l hb l [] 0 rfl
theorem impl_area' (l : List S50) (hb : l.length ≤ 1048576) : Ev (fun k => impl_area.f k l) (areaf l 0) := area_i l hb l [] 0 rfl

theorem markP_l : ∀ (n : Nat) (l : List S50) (i : Nat) (a : Int), i + n = l.length → l.length ≤ 1048576 → 0 ≤ a → a + 2 * n ≤ 4194304 → ∃ l', Ev (fun k => laws_markPieceS.l0 k l a (i : Int)) (a + 2 * n, l') := by
  intro n
  induction n with
  | zero =>
    intro l i a hi hb h0 h1
    refine ⟨l, Ev.step (fun k => by rw [laws_markPieceS.l0]) ?_⟩
    simp only [show ¬ (i : Int) < ((l.length : Nat) : Int) by omega, if_false]
    exact Ev.ret (fun _ => by simp)
  | succ n ih =>
    intro l i a hi hb h0 h1
    have w1 : wrap64 (a + 1) = a + 1 := wrap_id (by omega) (by omega)
    have w2 : wrap64 (a + 1 + 1) = a + 2 := by rw [wrap_id (by omega) (by omega)]; omega
    have w3 : wrap64 ((i : Int) + 1) = ((i + 1 : Nat) : Int) := by rw [wrap_id (by omega) (by omega)]; omega
    obtain ⟨l', h⟩ := ih ((l.set (i : Int).toNat ⟨a, (rd_T50 l (i : Int)).f1⟩).set (i : Int).toNat ⟨(rd_T50 (l.set (i : Int).toNat ⟨a, (rd_T50 l (i : Int)).f1⟩) (i : Int)).f0, a + 1⟩) (i + 1) (a + 2) (by simp; omega) (by simpa using hb) (by omega) (by omega)
    refine ⟨l', Ev.step (fun k => by rw [laws_markPieceS.l0]) ?_⟩
    simp only [show (i : Int) < ((l.length : Nat) : Int) by omega, show (0 : Int) ≤ (i : Int) by omega, if_true, Option.bind_some, w1, w2, w3]
    rw [show a + 2 * ((n + 1 : Nat) : Int) = a + 2 + 2 * (n : Int) by omega]
    exact h
theorem markP_ev (l : List S50) (hb : l.length ≤ 1048576) : ∃ l', Ev (fun k => laws_markPieceS.f k l 1) (1 + 2 * (l.length : Int), l') := markP_l l.length l 0 1 (by simp) hb (by omega) (by omega)

theorem has_l (P : Nat → Int → List Int → Int → Int → Option Bool) (hP : ∀ k n l len i, P (k + 1) n l len i = if i < len then (if 0 ≤ i then (if i < ((l.length : Nat) : Int) then (if rd l i = n then some true else P k n l len (wrap64 (i + 1))) else none) else none) else some false)
    (n : Int) (l : List Int) (hb : l.length ≤ 1048576) : ∀ (rest pre : List Int), l = pre ++ rest → Ev (fun k => P k n l ((l.length : Nat) : Int) ((pre.length : Nat) : Int)) (rest.contains n) := by
  intro rest
  induction rest with
  | nil =>
    intro pre e
    refine Ev.step (fun k => hP k _ _ _ _) ?_
    simp only [ix_end e, if_false]
    exact Ev.ret (fun _ => by simp)
  | cons x rest ih =>
    intro pre e
    have h1 := ih (pre ++ [x]) (by simp [e])
    have hx : rd l ((pre.length : Nat) : Int) = x := ix_get e
    refine Ev.step (fun k => hP k _ _ _ _) ?_
    simp only [ix_lt e, ix_nn, if_true, hx, ix_wrap e (by omega)]
    by_cases c : x = n
    · simp only [c, if_true]
      exact Ev.ret (fun _ => by simp)
    · simp only [c, if_false]
      have c' : (n == x) = false := by
        simp only [beq_eq_false_iff_ne]
        exact fun h => c h.symm
      have hc : (x :: rest).contains n = rest.contains n := by rw [List.contains_cons, c', Bool.false_or]
      rw [hc]
      exact h1

/-! the chase as a function of row and column -/
abbrev Cell := Nat → Nat → Int
/-- All from i on, m of them. -/
def allN (P : Nat → Bool) : Nat → Nat → Bool
  | 0, _ => true
  | m + 1, i => P i && allN P m (i + 1)
theorem allN_iff (P : Nat → Bool) : ∀ m i, allN P m i = true ↔ ∀ j, i ≤ j → j < i + m → P j = true
  | 0, i => by simp [allN]; omega
  | m + 1, i => by
    rw [allN, Bool.and_eq_true, allN_iff P m (i + 1)]
    constructor
    · rintro ⟨h1, h2⟩ j hj hl
      rcases Nat.eq_or_lt_of_le hj with rfl | hj
      · exact h1
      · exact h2 j hj (by omega)
    · intro h
      exact ⟨h i (Nat.le_refl _) (by omega), fun j hj hl => h j (by omega) (by omega)⟩
def put (c : Cell) (x y pw ph : Nat) (n : Int) : Cell := fun Y X => if (y ≤ Y ∧ Y < y + ph) ∧ x ≤ X ∧ X < x + pw then n else c Y X
/-- The first j rows and i cells of the next have been written. -/
def putP (c : Cell) (x y pw j i : Nat) (n : Int) : Cell := fun Y X => if ((y ≤ Y ∧ Y < y + j) ∧ x ≤ X ∧ X < x + pw) ∨ (Y = y + j ∧ x ≤ X ∧ X < x + i) then n else c Y X
def upd (c : Cell) (y x : Nat) (n : Int) : Cell := fun Y X => if Y = y ∧ X = x then n else c Y X
theorem putP_upd (c : Cell) (x y pw j i : Nat) (n : Int) (hi : i < pw) : ∀ Y X, upd (putP c x y pw j i n) (y + j) (x + i) n Y X = putP c x y pw j (i + 1) n Y X := by
  intro Y X
  unfold upd putP
  by_cases h : Y = y + j ∧ X = x + i
  · rw [if_pos h, if_pos (by omega)]
  · rw [if_neg h]
    by_cases h2 : ((y ≤ Y ∧ Y < y + j) ∧ x ≤ X ∧ X < x + pw) ∨ (Y = y + j ∧ x ≤ X ∧ X < x + i)
    · rw [if_pos h2, if_pos (by omega)]
    · rw [if_neg h2, if_neg (by omega)]
theorem putP_next (c : Cell) (x y pw j : Nat) (n : Int) : ∀ Y X, putP c x y pw j pw n Y X = putP c x y pw (j + 1) 0 n Y X := by
  intro Y X
  unfold putP
  by_cases h2 : ((y ≤ Y ∧ Y < y + j) ∧ x ≤ X ∧ X < x + pw) ∨ (Y = y + j ∧ x ≤ X ∧ X < x + pw)
  · rw [if_pos h2, if_pos (by omega)]
  · rw [if_neg h2, if_neg (by omega)]
theorem putP_zero (c : Cell) (x y pw : Nat) (n : Int) : ∀ Y X, putP c x y pw 0 0 n Y X = c Y X := by
  intro Y X
  unfold putP
  rw [if_neg (by omega)]
theorem putP_all (c : Cell) (x y pw ph : Nat) (n : Int) : ∀ Y X, putP c x y pw ph 0 n Y X = put c x y pw ph n Y X := by
  intro Y X
  unfold putP put
  by_cases h2 : (y ≤ Y ∧ Y < y + ph) ∧ x ≤ X ∧ X < x + pw
  · rw [if_pos h2, if_pos (by omega)]
  · rw [if_neg h2, if_neg (by omega)]
/-- A flat list of cells, and a list of rows. -/
def RepS (w h : Nat) (g : List Int) (c : Cell) : Prop := g.length = w * h ∧ ∀ Y X, Y < h → X < w → g.getD (Y * w + X) 0 = c Y X
def RepI (w h : Nat) (g : List (List Int)) (c : Cell) : Prop := g.length = h ∧ ∀ Y, Y < h → (g.getD Y []).length = w ∧ ∀ X, X < w → (g.getD Y []).getD X 0 = c Y X
theorem RepS.congr {w h : Nat} {g : List Int} {c d : Cell} (r : RepS w h g c) (e : ∀ Y X, c Y X = d Y X) : RepS w h g d := ⟨r.1, fun Y X hY hX => (r.2 Y X hY hX).trans (e Y X)⟩
theorem RepI.congr {w h : Nat} {g : List (List Int)} {c d : Cell} (r : RepI w h g c) (e : ∀ Y X, Y < h → X < w → c Y X = d Y X) : RepI w h g d := ⟨r.1, fun Y hY => ⟨(r.2 Y hY).1, fun X hX => ((r.2 Y hY).2 X hX).trans (e Y X hY hX)⟩⟩
theorem cell_inj {w Y X y x : Nat} (hX : X < w) (hx : x < w) (e : Y * w + X = y * w + x) : Y = y ∧ X = x := by
  have h1 : (Y * w + X) / w = Y := by rw [Nat.mul_comm, Nat.mul_add_div (by omega), Nat.div_eq_of_lt hX, Nat.add_zero]
  have h2 : (y * w + x) / w = y := by rw [Nat.mul_comm, Nat.mul_add_div (by omega), Nat.div_eq_of_lt hx, Nat.add_zero]
  have : Y = y := by rw [← h1, ← h2, e]
  subst this
  exact ⟨rfl, by omega⟩
theorem cell_lt {w h Y X : Nat} (hY : Y < h) (hX : X < w) : Y * w + X < w * h := by
  have : (Y + 1) * w ≤ h * w := Nat.mul_le_mul_right _ hY
  rw [Nat.mul_comm w h]
  rw [Nat.succ_mul] at this
  omega
theorem RepS.set {w h : Nat} {g : List Int} {c : Cell} (r : RepS w h g c) {y x : Nat} (hy : y < h) (hx : x < w) (n : Int) : RepS w h (g.set (y * w + x) n) (upd c y x n) := by
  refine ⟨by rw [List.length_set]; exact r.1, fun Y X hY hX => ?_⟩
  unfold upd
  have hl := cell_lt hy hx
  rw [List.getD_eq_getElem?_getD]
  by_cases e : Y = y ∧ X = x
  · obtain ⟨rfl, rfl⟩ := e
    rw [if_pos ⟨rfl, rfl⟩, List.getElem?_set_self (by rw [r.1]; exact hl)]
    rfl
  · rw [if_neg e, List.getElem?_set_ne (fun e2 => e (cell_inj hX hx e2.symm)), ← List.getD_eq_getElem?_getD]
    exact r.2 Y X hY hX
theorem RepI.set {w h : Nat} {g : List (List Int)} {c : Cell} (r : RepI w h g c) {y x : Nat} (hy : y < h) (hx : x < w) (n : Int) : RepI w h (g.set y ((g.getD y []).set x n)) (upd c y x n) := by
  refine ⟨by rw [List.length_set]; exact r.1, fun Y hY => ?_⟩
  rw [List.getD_eq_getElem?_getD]
  by_cases e : Y = y
  · subst e
    rw [List.getElem?_set_self (by rw [r.1]; exact hy)]
    simp only [Option.getD_some]
    refine ⟨by rw [List.length_set]; exact (r.2 Y hY).1, fun X hX => ?_⟩
    unfold upd
    rw [List.getD_eq_getElem?_getD]
    by_cases e : X = x
    · subst e
      rw [if_pos ⟨rfl, rfl⟩, List.getElem?_set_self (by rw [(r.2 Y hY).1]; exact hx)]
      rfl
    · rw [if_neg (fun h => e h.2), List.getElem?_set_ne (Ne.symm e), ← List.getD_eq_getElem?_getD]
      exact (r.2 Y hY).2 X hX
  · rw [List.getElem?_set_ne (Ne.symm e), ← List.getD_eq_getElem?_getD]
    refine ⟨(r.2 Y hY).1, fun X hX => ?_⟩
    unfold upd
    rw [if_neg (fun h => e h.1)]
    exact (r.2 Y hY).2 X hX
/-- The first free place, by rows. -/
def freeAt (w : Nat) (c : Cell) : Nat → Nat → Option Nat
  | 0, _ => none
  | m + 1, a => if c (a / w) (a % w) = -1 then some a else freeAt w c m (a + 1)
theorem at_div {w Y X : Nat} (hX : X < w) : (Y * w + X) / w = Y := by rw [Nat.mul_comm, Nat.mul_add_div (by omega), Nat.div_eq_of_lt hX, Nat.add_zero]
theorem at_mod {w Y X : Nat} (hX : X < w) : (Y * w + X) % w = X := by rw [Nat.mul_comm, Nat.mul_add_mod, Nat.mod_eq_of_lt hX]
def freeOf (w h : Nat) (c : Cell) : Option Nat := freeAt w c (w * h) 0
theorem freeAt_lt (w : Nat) (c : Cell) : ∀ m a b, freeAt w c m a = some b → b < a + m
  | 0, a, b, e => by simp [freeAt] at e
  | m + 1, a, b, e => by
    unfold freeAt at e
    split at e
    · cases e; omega
    · have := freeAt_lt w c m (a + 1) b e; omega
theorem freeAt_congr (w h : Nat) (c d : Cell) (hw : 0 < w) (e : ∀ Y X, Y < h → X < w → c Y X = d Y X) : ∀ m a, a + m ≤ w * h → freeAt w c m a = freeAt w d m a
  | 0, a, _ => rfl
  | m + 1, a, hm => by
    unfold freeAt
    rw [e (a / w) (a % w) (Nat.div_lt_of_lt_mul (by omega)) (Nat.mod_lt _ hw), freeAt_congr w h c d hw e m (a + 1) (by omega)]
/-- A piece's sides, turned or not. -/
def dimw (p : S50) (t : Bool) : Nat := if t = true then p.f1.toNat else p.f0.toNat
def dimh (p : S50) (t : Bool) : Nat := if t = true then p.f0.toNat else p.f1.toNat
def areaB (c : Cell) (x y pw ph : Nat) : Bool := allN (fun dy => allN (fun dx => decide (c (y + dy) (x + dx) = -1)) pw 0) ph 0
def roomB (w h : Nat) (c : Cell) (x y pw ph : Nat) : Bool := decide (x + pw ≤ w) && decide (y + ph ≤ h) && areaB c x y pw ph
theorem areaB_put (c : Cell) (x y pw ph : Nat) (n : Int) (hr : areaB c x y pw ph = true) : ∀ Y X, put (put c x y pw ph n) x y pw ph (-1) Y X = c Y X := by
  intro Y X
  unfold put
  by_cases h : (y ≤ Y ∧ Y < y + ph) ∧ x ≤ X ∧ X < x + pw
  · rw [if_pos h]
    have h1 := (allN_iff _ _ _).1 hr (Y - y) (by omega) (by omega)
    have h2 := of_decide_eq_true ((allN_iff _ _ _).1 h1 (X - x) (by omega) (by omega))
    rw [← h2, show y + (Y - y) = Y by omega, show x + (X - x) = X by omega]
  · rw [if_neg h, if_neg h]
def Okc (w h : Nat) (c : Cell) : Prop := ∀ Y X, Y < h → X < w → c Y X = -1 ∨ 0 ≤ c Y X
theorem Okc.put {w h : Nat} {c : Cell} (o : Okc w h c) (x y pw ph : Nat) (n : Nat) : Okc w h (put c x y pw ph (n : Int)) := fun Y X hY hX => by
  show (if _ then ((n : Nat) : Int) else c Y X) = -1 ∨ 0 ≤ (if _ then ((n : Nat) : Int) else c Y X)
  split
  · exact .inr (Int.natCast_nonneg _)
  · exact o Y X hY hX

/-! the search -/
def tryT (rec : Cell → List Bool → Option (List S66)) (w h : Nat) (l : List S50) (c : Cell) (used : List Bool) (x y i : Nat) : List Bool → Option (List S66)
  | [] => none
  | t :: ts => if roomB w h c x y (dimw (l.getD i z50) t) (dimh (l.getD i z50) t) = true then
      (match rec (put c x y (dimw (l.getD i z50) t) (dimh (l.getD i z50) t) (i : Int)) (used.set i true) with
        | some L => some (⟨(i : Int), (x : Int), (y : Int), t⟩ :: L)
        | none => tryT rec w h l c used x y i ts)
      else tryT rec w h l c used x y i ts
def tryI (rec : Cell → List Bool → Option (List S66)) (w h : Nat) (l : List S50) (c : Cell) (used : List Bool) (x y : Nat) : Nat → Nat → Option (List S66)
  | 0, _ => none
  | m + 1, i => if used.getD i false = true then tryI rec w h l c used x y m (i + 1) else
      (match tryT rec w h l c used x y i [false, true] with
        | some L => some L
        | none => tryI rec w h l c used x y m (i + 1))
def fillR (w h : Nat) (l : List S50) : Nat → Cell → List Bool → Option (List S66)
  | 0, _, _ => none
  | f + 1, c, used => match freeOf w h c with
    | none => if used.all id = true then some [] else none
    | some a => tryI (fillR w h l f) w h l c used (a % w) (a / w) l.length 0
def cnt (used : List Bool) : Nat := (used.filter id).length
theorem cnt_set : ∀ (used : List Bool) (i : Nat), i < used.length → used.getD i false = false → cnt (used.set i true) = cnt used + 1
  | [], i, h, _ => by simp at h
  | b :: u, 0, _, hb => by
    simp at hb
    subst hb
    simp [cnt]
  | b :: u, i + 1, h, hb => by
    have := cnt_set u i (by simpa using h) (by simpa using hb)
    simp only [cnt, List.set_cons_succ] at this ⊢
    cases b <;> simp [this]
theorem cnt_le (used : List Bool) : cnt used ≤ used.length := List.length_filter_le _ _
theorem cnt_all : ∀ (used : List Bool), used.all id = true ↔ cnt used = used.length
  | [] => by simp [cnt]
  | b :: u => by
    have := cnt_all u
    have h2 := cnt_le u
    simp only [cnt] at this h2 ⊢
    cases b
    · simp
      omega
    · simp
/-- What is found: each piece that was not used, once. -/
def Each (used : List Bool) (L : List S66) : Prop := ∀ i : Nat, i < used.length → (used.getD i false = true → L.filter (fun q => decide (q.f0 = (i : Int))) = []) ∧ (used.getD i false = false → ∃ q, L.filter (fun q => decide (q.f0 = (i : Int))) = [q])
theorem getD_set_self (u : List Bool) (i : Nat) (h : i < u.length) : (u.set i true).getD i false = true := by
  rw [List.getD_eq_getElem?_getD, List.getElem?_set_self h]
  rfl
theorem getD_set_ne (u : List Bool) (i j : Nat) (b : Bool) (h : i ≠ j) : (u.set i b).getD j false = u.getD j false := by
  rw [List.getD_eq_getElem?_getD, List.getElem?_set_ne h, ← List.getD_eq_getElem?_getD]
theorem each_cons {used : List Bool} {L : List S66} {i : Nat} (hi : i < used.length) (hu : used.getD i false = false) (h : Each (used.set i true) L) (x y : Int) (t : Bool) : Each used (⟨(i : Int), x, y, t⟩ :: L) := by
  intro j hj
  by_cases e : j = i
  · subst e
    refine ⟨fun h2 => (by rw [hu] at h2; cases h2), fun _ => ⟨⟨(j : Int), x, y, t⟩, ?_⟩⟩
    have h1 := (h j (by simpa using hj)).1 (getD_set_self used j hj)
    simp [h1]
  · have h1 := h j (by simpa using hj)
    rw [getD_set_ne used i j true (Ne.symm e)] at h1
    have hn : ¬ (i : Int) = (j : Int) := by omega
    simpa [hn] using h1
theorem tryT_each {rec : Cell → List Bool → Option (List S66)} {w h : Nat} {l : List S50} {c : Cell} {used : List Bool} {x y i : Nat} (hrec : ∀ c u L, u.length = used.length → rec c u = some L → Each u L) (hi : i < used.length) (hu : used.getD i false = false) :
    ∀ ts L, tryT rec w h l c used x y i ts = some L → Each used L
  | [], L, e => by simp [tryT] at e
  | t :: ts, L, e => by
    unfold tryT at e
    split at e
    · split at e
      · next L' hL' =>
        cases e
        exact each_cons hi hu (hrec _ _ _ (by simp) hL') _ _ _
      · exact tryT_each hrec hi hu ts L e
    · exact tryT_each hrec hi hu ts L e
theorem tryI_each {rec : Cell → List Bool → Option (List S66)} {w h : Nat} {l : List S50} {c : Cell} {used : List Bool} {x y : Nat} (hrec : ∀ c u L, u.length = used.length → rec c u = some L → Each u L) :
    ∀ m i L, i + m = used.length → tryI rec w h l c used x y m i = some L → Each used L
  | 0, i, L, _, e => by simp [tryI] at e
  | m + 1, i, L, hi, e => by
    unfold tryI at e
    split at e
    · exact tryI_each hrec m (i + 1) L (by omega) e
    · next hu =>
      split at e
      · next L' hL' =>
        cases e
        exact tryT_each hrec (by omega) (by simpa using hu) _ _ hL'
      · exact tryI_each hrec m (i + 1) L (by omega) e
theorem fillR_each (w h : Nat) (l : List S50) : ∀ f c used L, used.length = l.length → fillR w h l f c used = some L → Each used L
  | 0, c, used, L, _, e => by simp [fillR] at e
  | f + 1, c, used, L, hl, e => by
    unfold fillR at e
    split at e
    · split at e
      · next ha =>
        cases e
        intro i hi
        refine ⟨fun _ => rfl, fun hu => ?_⟩
        have h1 := List.all_eq_true.1 ha used[i] (List.getElem_mem _)
        rw [List.getD_eq_getElem?_getD, List.getElem?_eq_getElem hi] at hu
        simp at hu h1
        rw [hu] at h1
        cases h1
      · cases e
    · exact tryI_each (fun c u L hu he => fillR_each w h l f c u L (hu.trans hl) he) l.length 0 L (by omega) e

theorem wrap_nat (x : Nat) (h : x ≤ 1000) : wrap64 ((x : Int) + 1) = ((x + 1 : Nat) : Int) := by
  rw [wrap_id (by omega) (by omega)]
  omega
theorem wrap_nn (x y : Nat) (h : x + y ≤ 1000) : wrap64 ((x : Int) + (y : Int)) = ((x + y : Nat) : Int) := by
  rw [wrap_id (by omega) (by omega)]
  omega
theorem nn (x : Nat) : (0 : Int) ≤ (x : Int) := Int.natCast_nonneg x
def ffres (w : Nat) : Option Nat → Int × Int × Bool
  | none => (0, 0, false)
  | some a => (((a % w : Nat) : Int), ((a / w : Nat) : Int), true)
theorem free_l (w h : Nat) (hw8 : w ≤ 8) (h8 : h ≤ 8) (g : List (List Int)) (c : Cell) (r : RepI w h g c) : ∀ m y x : Nat, x < w → y < h → y * w + x + m = w * h →
    Ev (fun k => impl_firstFree.l1 k (y : Int) g (h : Int) (y : Int) (g.getD y []) (w : Int) (x : Int)) (ffres w (freeAt w c m (y * w + x))) := by
  intro m
  induction m with
  | zero =>
    intro y x hx hy he
    have := cell_lt hy hx
    omega
  | succ m ih =>
    intro y x hx hy he
    obtain ⟨hrl, hrc⟩ := r.2 y hy
    have hv : rd (g.getD y []) (x : Int) = c y x := hrc x hx
    refine Ev.step (fun k => by rw [impl_firstFree.l1]) ?_
    simp only [show (x : Int) < (w : Int) by omega, nn, if_true, hrl, hv]
    unfold freeAt
    rw [at_div hx, at_mod hx]
    by_cases e : c y x = -1
    · simp only [e, if_true]
      exact Ev.ret (fun _ => by simp [ffres, at_div hx, at_mod hx])
    · simp only [e, if_false, wrap_nat x (by omega)]
      by_cases hn : x + 1 < w
      · exact ih y (x + 1) hn hy (by omega)
      · have hxw : x + 1 = w := by omega
        refine Ev.step (fun k => by rw [impl_firstFree.l1]) ?_
        simp only [show ¬ ((x + 1 : Nat) : Int) < (w : Int) by omega, if_false, wrap_nat y (by omega)]
        refine Ev.step (fun k => by rw [impl_firstFree.l0]) ?_
        by_cases hy2 : y + 1 < h
        · have hgl : rd_L5 g ((y + 1 : Nat) : Int) = g.getD (y + 1) [] := rfl
          simp only [show ((y + 1 : Nat) : Int) < (h : Int) by omega, nn, if_true, r.1, hgl, (r.2 (y + 1) hy2).1]
          have h1 := ih (y + 1) 0 (by omega) hy2 (by rw [Nat.succ_mul]; omega)
          have e2 : (y + 1) * w + 0 = y * w + x + 1 := by rw [Nat.succ_mul]; omega
          rw [e2] at h1
          exact h1
        · have hyh : (y + 1) * w = w * h := by rw [show y + 1 = h by omega, Nat.mul_comm]
          rw [Nat.succ_mul] at hyh
          have hm : m = 0 := by omega
          subst hm
          simp only [show ¬ ((y + 1 : Nat) : Int) < (h : Int) by omega, if_false]
          exact Ev.ret (fun _ => rfl)
theorem free_i (w h : Nat) (hw : 0 < w) (hh : 0 < h) (hw8 : w ≤ 8) (h8 : h ≤ 8) (g : List (List Int)) (c : Cell) (r : RepI w h g c) : Ev (fun k => impl_firstFree.f k g) (ffres w (freeOf w h c)) := by
  unfold impl_firstFree.f
  refine Ev.step (fun k => by rw [impl_firstFree.l0]) ?_
  have hgl : rd_L5 g 0 = g.getD 0 [] := rfl
  have h1 := free_l w h hw8 h8 g c r (w * h) 0 0 hw hh (by omega)
  simp only [r.1, show (0 : Int) < (h : Int) by omega, Int.le_refl, if_true, hgl, (r.2 0 hh).1]
  simpa [freeOf] using h1
theorem gp_dim {p : S50} (h : gp p = true) (t : Bool) : 1 ≤ dimw p t ∧ dimw p t ≤ 8 ∧ 1 ≤ dimh p t ∧ dimh p t ≤ 8 := by
  simp only [gp, Bool.and_eq_true, decide_eq_true_eq] at h
  unfold dimw dimh
  cases t <;> simp <;> omega
theorem size_eq (l : List S50) (i : Nat) (hi : i < l.length) (hg : gp (l.getD i z50) = true) (x y : Int) (t : Bool) : impl_sizeOf.f l (i : Int) x y t = some (((dimw (l.getD i z50) t : Nat) : Int), ((dimh (l.getD i z50) t : Nat) : Int)) := by
  have hr : rd_T50 l (i : Int) = l.getD i z50 := rfl
  unfold impl_sizeOf.f dimw dimh
  rw [if_pos (nn i), if_pos (by omega), hr]
  clear hr
  generalize l.getD i z50 = p at hg ⊢
  simp only [gp, Bool.and_eq_true, decide_eq_true_eq] at hg
  cases t
  · simp
    omega
  · simp
    omega
theorem room_l1 (w h : Nat) (hw8 : w ≤ 8) (h8 : h ≤ 8) (g : List (List Int)) (c : Cell) (r : RepI w h g c) (x y pw ph j : Nat) (n : Int) (t : Bool) (hx : x + pw ≤ w) (hy : y + j < h) (b : Bool)
    (hr : Ev (fun k => impl_isRoom.l0 k g (pw : Int) (ph : Int) ((y + j + 1 : Nat) : Int) n (x : Int) (y : Int) t) b) : ∀ m i, i + m = pw →
    Ev (fun k => impl_isRoom.l1 k g (pw : Int) (ph : Int) ((y + j : Nat) : Int) ((x + i : Nat) : Int) n (x : Int) (y : Int) t) (allN (fun dx => decide (c (y + j) (x + dx) = -1)) m i && b) := by
  intro m
  induction m with
  | zero =>
    intro i hi
    refine Ev.step (fun k => by rw [impl_isRoom.l1]) ?_
    simp only [wrap_nn x pw (by omega), show ¬ ((x + i : Nat) : Int) < ((x + pw : Nat) : Int) by omega, if_false, wrap_nat (y + j) (by omega), allN, Bool.true_and]
    exact hr
  | succ m ih =>
    intro i hi
    have h1 := ih (i + 1) (by omega)
    obtain ⟨hrl, hrc⟩ := r.2 (y + j) hy
    have hgl : rd_L5 g ((y + j : Nat) : Int) = g.getD (y + j) [] := rfl
    have hv : rd (g.getD (y + j) []) ((x + i : Nat) : Int) = c (y + j) (x + i) := hrc (x + i) (by omega)
    refine Ev.step (fun k => by rw [impl_isRoom.l1]) ?_
    simp only [wrap_nn x pw (by omega), show ((x + i : Nat) : Int) < ((x + pw : Nat) : Int) by omega, nn, if_true, r.1, show ((y + j : Nat) : Int) < (h : Int) by omega, hgl, hrl, show ((x + i : Nat) : Int) < (w : Int) by omega, hv, allN, wrap_nat (x + i) (by omega)]
    by_cases e : c (y + j) (x + i) = -1
    · simp only [e, if_true, decide_true, Bool.true_and]
      exact h1
    · simp only [e, if_false, decide_false, Bool.false_and]
      exact Ev.now _
theorem room_l0 (w h : Nat) (hw8 : w ≤ 8) (h8 : h ≤ 8) (g : List (List Int)) (c : Cell) (r : RepI w h g c) (x y pw ph : Nat) (n : Int) (t : Bool) (hx : x + pw ≤ w) (hy : y + ph ≤ h) : ∀ m j, j + m = ph →
    Ev (fun k => impl_isRoom.l0 k g (pw : Int) (ph : Int) ((y + j : Nat) : Int) n (x : Int) (y : Int) t) (allN (fun dy => allN (fun dx => decide (c (y + dy) (x + dx) = -1)) pw 0) m j) := by
  intro m
  induction m with
  | zero =>
    intro j hj
    refine Ev.step (fun k => by rw [impl_isRoom.l0]) ?_
    simp only [wrap_nn y ph (by omega), show ¬ ((y + j : Nat) : Int) < ((y + ph : Nat) : Int) by omega, if_false, allN]
    exact Ev.now _
  | succ m ih =>
    intro j hj
    refine Ev.step (fun k => by rw [impl_isRoom.l0]) ?_
    simp only [wrap_nn y ph (by omega), show ((y + j : Nat) : Int) < ((y + ph : Nat) : Int) by omega, if_true]
    have h1 := room_l1 w h hw8 h8 g c r x y pw ph j n t hx (by omega) _ (ih (j + 1) (by omega)) pw 0 (by omega)
    exact h1
theorem room_i (w h : Nat) (hh : 0 < h) (hw8 : w ≤ 8) (h8 : h ≤ 8) (l : List S50) (g : List (List Int)) (c : Cell) (r : RepI w h g c) (x y i : Nat) (hx : x < w) (hy : y < h) (hi : i < l.length) (hg : gp (l.getD i z50) = true) (t : Bool) :
    Ev (fun k => impl_isRoom.f k g l (i : Int) (x : Int) (y : Int) t) (roomB w h c x y (dimw (l.getD i z50) t) (dimh (l.getD i z50) t)) := by
  have hd := gp_dim hg t
  unfold impl_isRoom.f
  simp only [size_eq l i hi hg, Option.bind_some]
  generalize dimw (l.getD i z50) t = pw at hd ⊢
  generalize dimh (l.getD i z50) t = ph at hd ⊢
  have hgl : rd_L5 g 0 = g.getD 0 [] := rfl
  simp only [show ¬ (x : Int) < 0 by omega, show ¬ (y : Int) < 0 by omega, if_false, r.1, show (0 : Int) < (h : Int) by omega, if_true, hgl, (r.2 0 hh).1, wrap_nn x pw (by omega), wrap_nn y ph (by omega)]
  unfold roomB
  by_cases c1 : x + pw ≤ w
  · simp only [show ¬ ((x + pw : Nat) : Int) > (w : Int) by omega, if_false, c1, decide_true, Bool.true_and]
    refine Ev.step (fun k => by rw [impl_isRoom.j0]) ?_
    by_cases c2 : y + ph ≤ h
    · simp only [show ¬ ((y + ph : Nat) : Int) > (h : Int) by omega, decide_false, Bool.false_eq_true, if_false, c2, decide_true, Bool.true_and]
      exact room_l0 w h hw8 h8 g c r x y pw ph _ t c1 c2 ph 0 (by omega)
    · simp only [show ((y + ph : Nat) : Int) > (h : Int) by omega, decide_true, if_true, c2, decide_false, Bool.false_and]
      exact Ev.now _
  · simp only [show ((x + pw : Nat) : Int) > (w : Int) by omega, if_true, c1, decide_false, Bool.false_and]
    refine Ev.step (fun k => by rw [impl_isRoom.j0]) ?_
    exact Ev.ret (fun _ => by simp)
theorem mark_l1 (w h : Nat) (hw8 : w ≤ 8) (h8 : h ≤ 8) (c d : Cell) (x y pw ph j : Nat) (n q : Int) (t : Bool) (hx : x + pw ≤ w) (hy : y + j < h)
    (hr : ∀ g, RepI w h g (putP c x y pw j pw n) → ∃ r, Ev (fun k => impl_mark.l0 k g n (pw : Int) (ph : Int) ((y + j + 1 : Nat) : Int) q (x : Int) (y : Int) t) r ∧ RepI w h r d) : ∀ m i g, i + m = pw → RepI w h g (putP c x y pw j i n) →
    ∃ r, Ev (fun k => impl_mark.l1 k g n (pw : Int) (ph : Int) ((y + j : Nat) : Int) ((x + i : Nat) : Int) q (x : Int) (y : Int) t) r ∧ RepI w h r d := by
  intro m
  induction m with
  | zero =>
    intro i g hi rg
    obtain ⟨r, h1, h2⟩ := hr g (by rw [show i = pw by omega] at rg; exact rg)
    refine ⟨r, Ev.step (fun k => by rw [impl_mark.l1]) ?_, h2⟩
    simp only [wrap_nn x pw (by omega), show ¬ ((x + i : Nat) : Int) < ((x + pw : Nat) : Int) by omega, if_false, wrap_nat (y + j) (by omega)]
    exact h1
  | succ m ih =>
    intro i g hi rg
    obtain ⟨hrl, _⟩ := rg.2 (y + j) hy
    have hgl : rd_L5 g ((y + j : Nat) : Int) = g.getD (y + j) [] := rfl
    obtain ⟨r, h1, h2⟩ := ih (i + 1) (g.set (y + j) ((g.getD (y + j) []).set (x + i) n)) (by omega) ((rg.set hy (by omega) n).congr (fun Y X _ _ => putP_upd c x y pw j i n (by omega) Y X))
    refine ⟨r, Ev.step (fun k => by rw [impl_mark.l1]) ?_, h2⟩
    simp only [wrap_nn x pw (by omega), show ((x + i : Nat) : Int) < ((x + pw : Nat) : Int) by omega, nn, if_true, rg.1, show ((y + j : Nat) : Int) < (h : Int) by omega, hgl, hrl, show ((x + i : Nat) : Int) < (w : Int) by omega, wrap_nat (x + i) (by omega), Int.toNat_natCast]
    exact h1
theorem mark_l0 (w h : Nat) (hw8 : w ≤ 8) (h8 : h ≤ 8) (c : Cell) (x y pw ph : Nat) (n q : Int) (t : Bool) (hx : x + pw ≤ w) (hy : y + ph ≤ h) : ∀ m j g, j + m = ph → RepI w h g (putP c x y pw j 0 n) →
    ∃ r, Ev (fun k => impl_mark.l0 k g n (pw : Int) (ph : Int) ((y + j : Nat) : Int) q (x : Int) (y : Int) t) r ∧ RepI w h r (put c x y pw ph n) := by
  intro m
  induction m with
  | zero =>
    intro j g hj rg
    refine ⟨g, Ev.step (fun k => by rw [impl_mark.l0]) ?_, ?_⟩
    · simp only [wrap_nn y ph (by omega), show ¬ ((y + j : Nat) : Int) < ((y + ph : Nat) : Int) by omega, if_false]
      exact Ev.now _
    · rw [show j = ph by omega] at rg
      exact rg.congr (fun Y X _ _ => putP_all c x y pw ph n Y X)
  | succ m ih =>
    intro j g hj rg
    obtain ⟨r, h1, h2⟩ := mark_l1 w h hw8 h8 c (put c x y pw ph n) x y pw ph j n q t hx (by omega) (fun g rg => ih (j + 1) g (by omega) (rg.congr (fun Y X _ _ => putP_next c x y pw j n Y X))) pw 0 g (by omega) rg
    refine ⟨r, Ev.step (fun k => by rw [impl_mark.l0]) ?_, h2⟩
    simp only [wrap_nn y ph (by omega), show ((y + j : Nat) : Int) < ((y + ph : Nat) : Int) by omega, if_true]
    exact h1
theorem mark_i (w h : Nat) (hw8 : w ≤ 8) (h8 : h ≤ 8) (l : List S50) (g : List (List Int)) (c : Cell) (r : RepI w h g c) (x y i : Nat) (hi : i < l.length) (hg : gp (l.getD i z50) = true) (t : Bool) (n : Int) (hx : x + dimw (l.getD i z50) t ≤ w) (hy : y + dimh (l.getD i z50) t ≤ h) :
    ∃ r, Ev (fun k => impl_mark.f k g l (i : Int) (x : Int) (y : Int) t n) r ∧ RepI w h r (put c x y (dimw (l.getD i z50) t) (dimh (l.getD i z50) t) n) := by
  unfold impl_mark.f
  simp only [size_eq l i hi hg, Option.bind_some]
  exact mark_l0 w h hw8 h8 c x y _ _ n _ t hx hy (dimh (l.getD i z50) t) 0 g (Nat.zero_add _) (r.congr (fun Y X _ _ => (putP_zero c x y _ n Y X).symm))

/-! the program's search -/
def Out (w h : Nat) (used : List Bool) (placed : List S66) (c : Cell) (o : Option (List S66)) (r : Bool × List (List Int) × List Bool × List S66) : Prop :=
  r.2.2.2.length = used.length ∧ (∀ i, i < used.length → used.getD i false = true → r.2.2.2.getD i z66 = placed.getD i z66) ∧
    match o with
    | none => r.1 = false ∧ RepI w h r.2.1 c ∧ r.2.2.1 = used
    | some L => r.1 = true ∧ ∀ i : Nat, i < used.length → used.getD i false = false → L.filter (fun q => decide (q.f0 = (i : Int))) = [r.2.2.2.getD i z66]
theorem Out.keep {w h : Nat} {used : List Bool} {p1 p2 : List S66} {c : Cell} {o : Option (List S66)} {r : Bool × List (List Int) × List Bool × List S66} (hk : ∀ i, i < used.length → used.getD i false = true → p2.getD i z66 = p1.getD i z66) (ho : Out w h used p2 c o r) : Out w h used p1 c o r :=
  ⟨ho.1, fun i hi hu => (ho.2.1 i hi hu).trans (hk i hi hu), ho.2.2⟩
theorem set_back (u : List Bool) (i : Nat) (hi : i < u.length) (hu : u.getD i false = false) : (u.set i true).set i false = u := by
  rw [List.set_set]
  apply List.ext_getElem?
  intro j
  by_cases e : i = j
  · subst e
    rw [List.getElem?_set_self hi, List.getElem?_eq_getElem hi]
    rw [List.getD_eq_getElem?_getD, List.getElem?_eq_getElem hi] at hu
    simpa using hu.symm
  · rw [List.getElem?_set_ne e]
theorem getDp_set_ne (u : List S66) (i j : Nat) (b : S66) (h : i ≠ j) : (u.set i b).getD j z66 = u.getD j z66 := by
  rw [List.getD_eq_getElem?_getD, List.getElem?_set_ne h, ← List.getD_eq_getElem?_getD]
theorem getDp_set_self (u : List S66) (i : Nat) (b : S66) (h : i < u.length) : (u.set i b).getD i z66 = b := by
  rw [List.getD_eq_getElem?_getD, List.getElem?_set_self h]
  rfl
section
variable (w h : Nat) (hw : 0 < w) (hh : 0 < h) (hw8 : w ≤ 8) (h8 : h ≤ 8) (l : List S50) (hl8 : l.length ≤ 8) (hgl : ∀ i, i < l.length → gp (l.getD i z50) = true)
include hw hh hw8 h8 hl8 hgl
omit hw in
theorem try_i (f : Nat) (ihf : ∀ c used g placed, used.length = l.length → placed.length = l.length → l.length - cnt used < f → RepI w h g c → ∃ r, Ev (fun k => impl_fill.f k g l used placed) r ∧ Out w h used placed c (fillR w h l f c used) r)
    (c : Cell) (used : List Bool) (hul : used.length = l.length) (x y i : Nat) (hx : x < w) (hy : y < h) (hi : i < l.length) (hu : used.getD i false = false) (hf : l.length - cnt used < f + 1) (o : Option (List S66))
    (hc : ∀ g placed, RepI w h g c → placed.length = l.length → ∃ r, Ev (fun k => impl_fill.l1 k g l used placed (x : Int) (y : Int) ((l.length : Nat) : Int) ((i + 1 : Nat) : Int)) r ∧ Out w h used placed c o r) :
    ∀ (rest pre : List Bool), [false, true] = pre ++ rest → ∀ g placed, RepI w h g c → placed.length = l.length →
      ∃ r, Ev (fun k => impl_fill.l2 k g l used placed (x : Int) (y : Int) (i : Int) ((l.length : Nat) : Int) (i : Int) [false, true] ((2 : Nat) : Int) ((pre.length : Nat) : Int)) r ∧
        Out w h used placed c (match tryT (fillR w h l f) w h l c used x y i rest with | some L => some L | none => o) r := by
  intro rest
  induction rest with
  | nil =>
    intro pre e g placed rg hp
    obtain ⟨r, h1, h2⟩ := hc g placed rg hp
    have hpl : pre.length = 2 := by have := congrArg List.length e; simpa using this.symm
    refine ⟨r, Ev.step (fun k => by rw [impl_fill.l2]) ?_, h2⟩
    simp only [hpl, Int.lt_irrefl, if_false, wrap_nat i (by omega)]
    exact h1
  | cons t rest ih =>
    intro pre e g placed rg hp
    have hpl : pre.length + (rest.length + 1) = 2 := by have := congrArg List.length e; simpa using this.symm
    have ht : rdOf false [false, true] ((pre.length : Nat) : Int) = t := ix_get e
    have e2 : [false, true] = (pre ++ [t]) ++ rest := by rw [e]; simp
    have hlen : ([false, true] : List Bool).length = 2 := rfl
    have hr := room_i w h hh hw8 h8 l g c rg x y i hx hy hi (hgl i hi) t
    have hnext := fun g placed rg hp => ih (pre ++ [t]) e2 g placed rg hp
    have hpw : wrap64 (((pre.length : Nat) : Int) + 1) = (((pre ++ [t]).length : Nat) : Int) := by
      rw [wrap_nat _ (by omega)]
      simp
    unfold tryT
    by_cases hrm : roomB w h c x y (dimw (l.getD i z50) t) (dimh (l.getD i z50) t) = true
    · rw [hrm] at hr
      have hrm2 := hrm
      simp only [roomB, Bool.and_eq_true, decide_eq_true_eq] at hrm2
      obtain ⟨g1, hm1, rg1⟩ := mark_i w h hw8 h8 l g c rg x y i hi (hgl i hi) t (i : Int) hrm2.1.1 hrm2.1.2
      have hcs := cnt_set used i (by omega) hu
      have hcl := cnt_le (used.set i true)
      rw [List.length_set] at hcl
      obtain ⟨r1, hf1, ho1⟩ := ihf _ (used.set i true) g1 (placed.set i ⟨(i : Int), (x : Int), (y : Int), t⟩) (by simpa using hul) (by simpa using hp) (by omega) rg1
      obtain ⟨b1, g2, u2, p2⟩ := r1
      have hbase : ∀ r, Ev (fun k => if b1 = true then (some (true, g2, u2, p2)) else ((impl_mark.f k g2 l (i : Int) (x : Int) (y : Int) t (-1)).bind fun t238 => (impl_fill.l2 k t238 l (u2.set (i : Int).toNat false) p2 (x : Int) (y : Int) (i : Int) ((l.length : Nat) : Int) (i : Int) [false, true] ((2 : Nat) : Int) (((pre ++ [t]).length : Nat) : Int)))) r →
          Ev (fun k => impl_fill.l2 k g l used placed (x : Int) (y : Int) (i : Int) ((l.length : Nat) : Int) (i : Int) [false, true] ((2 : Nat) : Int) ((pre.length : Nat) : Int)) r := by
        intro r hr2
        refine Ev.step (fun k => by rw [impl_fill.l2]) ?_
        simp only [show ((pre.length : Nat) : Int) < ((2 : Nat) : Int) by omega, nn, if_true, hlen, ht, hpw]
        refine Ev.bind hr ?_
        simp only [if_true]
        refine Ev.bind hm1 ?_
        simp only [show (i : Int) < ((used.length : Nat) : Int) by omega, show (i : Int) < ((placed.length : Nat) : Int) by omega, if_true, Int.toNat_natCast]
        refine Ev.bind hf1 ?_
        exact hr2
      simp only [hrm, if_true]
      cases hfr : fillR w h l f (put c x y (dimw (l.getD i z50) t) (dimh (l.getD i z50) t) (i : Int)) (used.set i true) with
      | some L =>
        rw [hfr] at ho1
        obtain ⟨o1, o2, o3, o4⟩ := ho1
        simp only [List.length_set] at o1 o2 o3 o4
        subst o3
        refine ⟨(true, g2, u2, p2), hbase _ (by simp only [if_true]; exact Ev.now _), o1, fun j hj huj => ?_, rfl, fun j hj huj => ?_⟩
        · have hne : i ≠ j := fun e => absurd (hu.symm.trans (e ▸ huj)) (by decide)
          rw [o2 j hj (by rw [getD_set_ne used i j true hne]; exact huj), getDp_set_ne _ _ _ _ hne]
        · by_cases e : i = j
          · subst e
            have hL := (fillR_each w h l f _ _ L (by simpa using hul) hfr i (by simpa using hj)).1 (getD_set_self used i hj)
            rw [o2 i hj (getD_set_self used i hj), getDp_set_self _ _ _ (by omega)]
            simp [hL]
          · have hL := o4 j hj (by rw [getD_set_ne used i j true e]; exact huj)
            have hn : ¬ (i : Int) = (j : Int) := by omega
            simpa [hn] using hL
      | none =>
        rw [hfr] at ho1
        obtain ⟨o1, o2, o3, o4, o5⟩ := ho1
        simp only [List.length_set] at o1 o2 o3 o4 o5
        subst o3
        obtain ⟨g3, hm3, rg3⟩ := mark_i w h hw8 h8 l g2 _ o4 x y i hi (hgl i hi) t (-1) hrm2.1.1 hrm2.1.2
        have rg3' : RepI w h g3 c := rg3.congr (fun Y X _ _ => areaB_put c x y _ _ _ hrm2.2 Y X)
        have hback : u2.set i false = used := by rw [o5]; exact set_back used i (by omega) hu
        obtain ⟨r, hn1, hn2⟩ := hnext g3 p2 rg3' (by rw [o1, hul])
        refine ⟨r, hbase _ ?_, Out.keep (fun j hj huj => ?_) hn2⟩
        · simp only [Bool.false_eq_true, if_false, Int.toNat_natCast]
          refine Ev.bind hm3 ?_
          rw [hback]
          exact hn1
        · have hne : i ≠ j := fun e => absurd (hu.symm.trans (e ▸ huj)) (by decide)
          rw [o2 j hj (by rw [getD_set_ne used i j true hne]; exact huj), getDp_set_ne _ _ _ _ hne]
    · obtain ⟨r, hn1, hn2⟩ := hnext g placed rg hp
      simp only [hrm, Bool.false_eq_true, if_false]
      refine ⟨r, Ev.step (fun k => by rw [impl_fill.l2]) ?_, hn2⟩
      simp only [show ((pre.length : Nat) : Int) < ((2 : Nat) : Int) by omega, nn, if_true, hlen, ht, hpw]
      have hrf : roomB w h c x y (dimw (l.getD i z50) t) (dimh (l.getD i z50) t) = false := Bool.eq_false_iff.2 hrm
      rw [hrf] at hr
      refine Ev.bind hr ?_
      simp only [Bool.false_eq_true, if_false]
      exact hn1
omit hw hh hw8 h8 hl8 hgl in
theorem all_i (used : List Bool) (hul : used.length ≤ 8) (g : List (List Int)) (placed : List S66) : ∀ (rest pre : List Bool), used = pre ++ rest →
    Ev (fun k => impl_fill.l0 k g used placed used ((used.length : Nat) : Int) ((pre.length : Nat) : Int)) (rest.all id, g, used, placed) := by
  intro rest
  induction rest with
  | nil =>
    intro pre e
    refine Ev.step (fun k => by rw [impl_fill.l0]) ?_
    simp only [ix_end e, if_false]
    exact Ev.ret (fun _ => by simp)
  | cons b rest ih =>
    intro pre e
    have hb : rdOf false used ((pre.length : Nat) : Int) = b := ix_get e
    refine Ev.step (fun k => by rw [impl_fill.l0]) ?_
    simp only [ix_lt e, ix_nn, if_true, hb, ix_wrap e (by omega)]
    cases b
    · simp only [Bool.false_eq_true, if_false]
      exact Ev.ret (fun _ => by simp)
    · simp only [if_true]
      have := ih (pre ++ [true]) (by simp [e])
      simpa using this
theorem fill_i : ∀ (f : Nat) (c : Cell) (used : List Bool) (g : List (List Int)) (placed : List S66), used.length = l.length → placed.length = l.length → l.length - cnt used < f → RepI w h g c →
    ∃ r, Ev (fun k => impl_fill.f k g l used placed) r ∧ Out w h used placed c (fillR w h l f c used) r := by
  intro f
  induction f with
  | zero =>
    intro c used g placed _ _ hf _
    omega
  | succ f ihf =>
    intro c used g placed hul hpl hf rg
    have hfree := free_i w h hw hh hw8 h8 g c rg
    unfold fillR
    cases hfo : freeOf w h c with
    | none =>
      rw [hfo] at hfree
      refine ⟨(used.all id, g, used, placed), Ev.step (fun k => by rw [impl_fill.f]) ?_, ?_⟩
      · refine Ev.bind hfree ?_
        simp only [ffres, Bool.false_eq_true, if_false]
        exact all_i used (by omega) g placed used [] rfl
      · refine ⟨by simp only; omega, fun _ _ _ => rfl, ?_⟩
        by_cases ha : used.all id = true
        · simp only [ha, if_true, true_and]
          intro i hi hu
          have h1 := List.all_eq_true.1 ha used[i] (List.getElem_mem _)
          rw [List.getD_eq_getElem?_getD, List.getElem?_eq_getElem hi] at hu
          simp at hu h1
          rw [hu] at h1
          cases h1
        · simp only [ha, if_false]
          exact ⟨by first | trivial | exact Bool.eq_false_iff.2 ha, rg, trivial⟩
    | some a =>
      rw [hfo] at hfree
      have hal := freeAt_lt w c _ _ _ hfo
      rw [Nat.zero_add] at hal
      have hx : a % w < w := Nat.mod_lt _ hw
      have hy : a / w < h := Nat.div_lt_of_lt_mul hal
      have loop : ∀ m i g placed, i + m = l.length → RepI w h g c → placed.length = l.length → ∃ r, Ev (fun k => impl_fill.l1 k g l used placed ((a % w : Nat) : Int) ((a / w : Nat) : Int) ((l.length : Nat) : Int) (i : Int)) r ∧ Out w h used placed c (tryI (fillR w h l f) w h l c used (a % w) (a / w) m i) r := by
        intro m
        induction m with
        | zero =>
          intro i g placed hi rg hp
          refine ⟨(false, g, used, placed), Ev.step (fun k => by rw [impl_fill.l1]) ?_, ?_⟩
          · simp only [show ¬ (i : Int) < ((l.length : Nat) : Int) by omega, if_false]
            exact Ev.now _
          · exact ⟨by simp only; omega, fun _ _ _ => rfl, rfl, rg, rfl⟩
        | succ m ihm =>
          intro i g placed hi rg hp
          have hbase : ∀ r, Ev (fun k => if used.getD i false = true then (impl_fill.l1 k g l used placed ((a % w : Nat) : Int) ((a / w : Nat) : Int) ((l.length : Nat) : Int) ((i + 1 : Nat) : Int)) else (impl_fill.l2 k g l used placed ((a % w : Nat) : Int) ((a / w : Nat) : Int) (i : Int) ((l.length : Nat) : Int) (i : Int) [false, true] ((2 : Nat) : Int) 0)) r →
              Ev (fun k => impl_fill.l1 k g l used placed ((a % w : Nat) : Int) ((a / w : Nat) : Int) ((l.length : Nat) : Int) (i : Int)) r := by
            intro r hr
            have hv : rdOf false used (i : Int) = used.getD i false := rfl
            refine Ev.step (fun k => by rw [impl_fill.l1]) ?_
            simp only [show (i : Int) < ((l.length : Nat) : Int) by omega, nn, if_true, show (i : Int) < ((used.length : Nat) : Int) by omega, hv, wrap_nat i (by omega), Option.bind_some]
            exact hr
          unfold tryI
          by_cases hu : used.getD i false = true
          · obtain ⟨r, h1, h2⟩ := ihm (i + 1) g placed (by omega) rg hp
            simp only [hu, if_true]
            exact ⟨r, hbase r (by simp only [hu, if_true]; exact h1), h2⟩
          · have hu' : used.getD i false = false := Bool.eq_false_iff.2 hu
            obtain ⟨r, h1, h2⟩ := try_i w h hh hw8 h8 l hl8 hgl f ihf c used hul (a % w) (a / w) i hx hy (by omega) hu' hf _ (fun g placed rg hp => ihm (i + 1) g placed (by omega) rg hp) [false, true] [] rfl g placed rg hp
            simp only [hu', Bool.false_eq_true, if_false]
            refine ⟨r, hbase r (by simp only [hu', Bool.false_eq_true, if_false]; exact h1), ?_⟩
            exact h2
      obtain ⟨r, h1, h2⟩ := loop l.length 0 g placed (by omega) rg hpl
      refine ⟨r, Ev.step (fun k => by rw [impl_fill.f]) ?_, h2⟩
      refine Ev.bind hfree ?_
      simp only [ffres, if_true]
      exact h1
end

/-! the reference's search -/
theorem idx_eq (w x y j i : Nat) (hw : w ≤ 8) (hx : x ≤ 8) (hy : y ≤ 8) (hj : j ≤ 8) (hi : i ≤ 8) : wrap64 (wrap64 (((y * w + x : Nat) : Int) + wrap64 ((j : Int) * (w : Int))) + (i : Int)) = (((y + j) * w + (x + i) : Nat) : Int) := by
  have h1 : j * w ≤ 8 * 8 := Nat.mul_le_mul hj hw
  have h2 : y * w ≤ 8 * 8 := Nat.mul_le_mul hy hw
  rw [← Int.natCast_mul, wrap_id (i := ((j * w : Nat) : Int)) (by omega) (by omega), wrap_nn _ _ (by omega), wrap_nn _ _ (by omega), Nat.add_mul]
  congr 1
  omega
def GoodS (w h : Nat) (F : Nat → Option (List Int × Bool)) (b : Bool) (d : Cell) : Prop := ∃ g', Ev F (g', b) ∧ (b = true → RepS w h g' d)
theorem put_l1 (w h : Nat) (hw8 : w ≤ 8) (h8 : h ≤ 8) (c d : Cell) (ok : Okc w h c) (x y pw ph j : Nat) (n : Int) (hx : x + pw ≤ w) (hy : y + j < h) (b : Bool)
    (hr : ∀ g, RepS w h g (putP c x y pw j pw n) → GoodS w h (fun k => spec_fuPut.l0 k (w : Int) ((y * w + x : Nat) : Int) n (pw : Int) (ph : Int) g ((j + 1 : Nat) : Int)) b d) : ∀ m i g, i + m = pw → RepS w h g (putP c x y pw j i n) →
    GoodS w h (fun k => spec_fuPut.l1 k (w : Int) ((y * w + x : Nat) : Int) n (pw : Int) (ph : Int) g (j : Int) (i : Int)) (allN (fun dx => decide (c (y + j) (x + dx) = -1)) m i && b) d := by
  intro m
  induction m with
  | zero =>
    intro i g hi rg
    obtain ⟨g', h1, h2⟩ := hr g (by rw [show i = pw by omega] at rg; exact rg)
    refine ⟨g', Ev.step (fun k => by rw [spec_fuPut.l1]) ?_, by simpa [allN] using h2⟩
    simp only [show ¬ (i : Int) < (pw : Int) by omega, if_false, wrap_nat j (by omega), allN, Bool.true_and]
    exact h1
  | succ m ih =>
    intro i g hi rg
    have hix := idx_eq w x y j i hw8 (by omega) (by omega) (by omega) (by omega)
    have hlt := cell_lt (w := w) (h := h) hy (show x + i < w by omega)
    have hv : rd g (((y + j) * w + (x + i) : Nat) : Int) = c (y + j) (x + i) := by
      have h1 : rd g (((y + j) * w + (x + i) : Nat) : Int) = putP c x y pw j i n (y + j) (x + i) := rg.2 (y + j) (x + i) hy (by omega)
      rw [h1]
      unfold putP
      rw [if_neg (by omega)]
    obtain ⟨g', h1, h2⟩ := ih (i + 1) (g.set ((y + j) * w + (x + i)) n) (by omega) ((rg.set hy (by omega) n).congr (fun Y X => putP_upd c x y pw j i n (by omega) Y X))
    have hgl : ((((y + j) * w + (x + i) : Nat) : Int)) < ((g.length : Nat) : Int) := by rw [rg.1]; omega
    rcases ok (y + j) (x + i) hy (by omega) with e | e
    · refine ⟨g', Ev.step (fun k => by rw [spec_fuPut.l1]) ?_, by simpa [allN, e] using h2⟩
      simp only [show (i : Int) < (pw : Int) by omega, if_true, hix, nn, hgl, hv, show ¬ c (y + j) (x + i) ≥ 0 by omega, if_false, wrap_nat i (by omega), Int.toNat_natCast, allN, e, decide_true, Bool.true_and]
      simpa [e] using h1
    · refine ⟨[], Ev.step (fun k => by rw [spec_fuPut.l1]) ?_, by simp [allN, show ¬ c (y + j) (x + i) = -1 by omega]⟩
      simp only [show (i : Int) < (pw : Int) by omega, if_true, hix, nn, hgl, hv, show c (y + j) (x + i) ≥ 0 from e, allN, show ¬ c (y + j) (x + i) = -1 by omega, decide_false, Bool.false_and]
      exact Ev.now _
theorem put_l0 (w h : Nat) (hw8 : w ≤ 8) (h8 : h ≤ 8) (c : Cell) (ok : Okc w h c) (x y pw ph : Nat) (n : Int) (hx : x + pw ≤ w) (hy : y + ph ≤ h) : ∀ m j g, j + m = ph → RepS w h g (putP c x y pw j 0 n) →
    GoodS w h (fun k => spec_fuPut.l0 k (w : Int) ((y * w + x : Nat) : Int) n (pw : Int) (ph : Int) g (j : Int)) (allN (fun dy => allN (fun dx => decide (c (y + dy) (x + dx) = -1)) pw 0) m j) (put c x y pw ph n) := by
  intro m
  induction m with
  | zero =>
    intro j g hj rg
    refine ⟨g, Ev.step (fun k => by rw [spec_fuPut.l0]) ?_, fun _ => ?_⟩
    · simp only [show ¬ (j : Int) < (ph : Int) by omega, if_false, allN]
      exact Ev.now _
    · rw [show j = ph by omega] at rg
      exact rg.congr (fun Y X => putP_all c x y pw ph n Y X)
  | succ m ih =>
    intro j g hj rg
    obtain ⟨g', h1, h2⟩ := put_l1 w h hw8 h8 c (put c x y pw ph n) ok x y pw ph j n hx (by omega) _ (fun g rg => ih (j + 1) g (by omega) (rg.congr (fun Y X => putP_next c x y pw j n Y X))) pw 0 g (by omega) rg
    refine ⟨g', Ev.step (fun k => by rw [spec_fuPut.l0]) ?_, h2⟩
    simp only [show (j : Int) < (ph : Int) by omega, if_true]
    exact h1
theorem sides_s (p : S50) (hp : gp p = true) (t : Bool) : spec_fuSides.f p.f0 p.f1 t = some (((dimw p t : Nat) : Int), ((dimh p t : Nat) : Int)) := by
  simp only [gp, Bool.and_eq_true, decide_eq_true_eq] at hp
  unfold spec_fuSides.f dimw dimh
  cases t <;> simp <;> omega
theorem at_tmod (w x y : Nat) (hx : x < w) : Int.tmod ((y * w + x : Nat) : Int) (w : Int) = (x : Int) := by
  rw [← Int.ofNat_tmod, at_mod hx]
theorem at_tdiv (w x y : Nat) (hx : x < w) : Int.tdiv ((y * w + x : Nat) : Int) (w : Int) = (y : Int) := by
  rw [← Int.ofNat_tdiv, at_div hx]
theorem own_s (g : List Int) (hl : g.length ≤ 1000) : spec_l1Own.f g = some g := by
  unfold spec_l1Own.f
  simp only [Option.bind_some, List.nil_append, List.length_nil, Nat.zero_add]
  rw [if_pos (by omega)]
theorem put_f (w h : Nat) (hw : 0 < w) (g : List Int) (x y pw ph : Nat) (hx : x < w) (hxp : x + pw ≤ 1000) (hyp : y + ph ≤ 1000) (p : S50) (t : Bool) (n : Int) (hs : spec_fuSides.f p.f0 p.f1 t = some ((pw : Int), (ph : Int))) (k : Nat) :
    spec_fuPut.f k g (w : Int) (h : Int) p.f0 p.f1 t ((y * w + x : Nat) : Int) n = if (w : Int) < ((x + pw : Nat) : Int) then (spec_fuPut.j0 k g (w : Int) ((y * w + x : Nat) : Int) n (pw : Int) (ph : Int) true) else (spec_fuPut.j0 k g (w : Int) ((y * w + x : Nat) : Int) n (pw : Int) (ph : Int) (decide ((h : Int) < ((y + ph : Nat) : Int)))) := by
  have h1 := at_tmod w x y hx
  have h2 := at_tdiv w x y hx
  have h3 : wrap64 (y : Int) = (y : Int) := wrap_id (by omega) (by omega)
  have h4 := wrap_nn x pw hxp
  have h5 := wrap_nn y ph hyp
  unfold spec_fuPut.f
  generalize ((y * w + x : Nat) : Int) = a at h1 h2 ⊢
  rw [hs]
  simp only [Option.bind_some]
  rw [if_neg (by omega), h1, h2, h3, h4, h5]
theorem put_s (w h : Nat) (hw : 0 < w) (hw8 : w ≤ 8) (h8 : h ≤ 8) (g : List Int) (c : Cell) (ok : Okc w h c) (r : RepS w h g c) (x y : Nat) (hx : x < w) (hy : y < h) (p : S50) (hp : gp p = true) (t : Bool) (n : Int) :
    GoodS w h (fun k => spec_fuPut.f k g (w : Int) (h : Int) p.f0 p.f1 t ((y * w + x : Nat) : Int) n) (roomB w h c x y (dimw p t) (dimh p t)) (put c x y (dimw p t) (dimh p t) n) := by
  have hd := gp_dim hp t
  have hs := sides_s p hp t
  have hown : spec_l1Own.f g = some g := own_s g (by
    have h64 : w * h ≤ 8 * 8 := Nat.mul_le_mul hw8 h8
    rw [r.1]
    omega)
  unfold roomB
  generalize dimw p t = pw at hd hs ⊢
  generalize dimh p t = ph at hd hs ⊢
  have hf := fun k => put_f w h hw g x y pw ph hx (by omega) (by omega) p t n hs k
  by_cases c1 : x + pw ≤ w
  · by_cases c2 : y + ph ≤ h
    · obtain ⟨g', h1, h2⟩ := put_l0 w h hw8 h8 c ok x y pw ph n c1 c2 ph 0 g (by omega) (r.congr (fun Y X => (putP_zero c x y pw n Y X).symm))
      have e1 : ¬ (w : Int) < ((x + pw : Nat) : Int) := by omega
      have e2 : ¬ (h : Int) < ((y + ph : Nat) : Int) := by omega
      refine ⟨g', Ev.congr hf ?_, by simpa [c1, c2, areaB] using h2⟩
      simp only [e1, if_false, e2, decide_false, c1, c2, decide_true, Bool.true_and]
      refine Ev.step (fun k => by rw [spec_fuPut.j0]) ?_
      simp only [Bool.false_eq_true, if_false, hown, Option.bind_some]
      exact h1
    · have e1 : ¬ (w : Int) < ((x + pw : Nat) : Int) := by omega
      have e2 : (h : Int) < ((y + ph : Nat) : Int) := by omega
      refine ⟨[], Ev.congr hf ?_, by simp [c1, c2]⟩
      simp only [e1, if_false, e2, decide_true, c1, c2, decide_false, Bool.true_and, Bool.false_and]
      refine Ev.step (fun k => by rw [spec_fuPut.j0]) ?_
      exact Ev.ret (fun _ => by simp)
  · have e1 : (w : Int) < ((x + pw : Nat) : Int) := by omega
    refine ⟨[], Ev.congr hf ?_, by simp [c1]⟩
    simp only [e1, if_true, c1, decide_false, Bool.false_and]
    refine Ev.step (fun k => by rw [spec_fuPut.j0]) ?_
    exact Ev.ret (fun _ => by simp)
theorem has_ev (l : List Int) (n : Int) (hb : l.length ≤ 1048576) : Ev (fun k => spec_l1Has.f k l n) (l.contains n) :=
  has_l (fun k n l len i => spec_l1Has.l0 k n l len i) (fun k n l len i => by rw [spec_l1Has.l0]) n l hb l [] rfl
/-- The list of the used pieces and the flags. -/
def US (us : List Int) (used : List Bool) : Prop := us.length = cnt used ∧ ∀ i : Nat, i < used.length → us.contains (i : Int) = used.getD i false
theorem US.snoc {us : List Int} {used : List Bool} (u : US us used) {i : Nat} (hi : i < used.length) (hu : used.getD i false = false) : US (us ++ [(i : Int)]) (used.set i true) := by
  refine ⟨by rw [List.length_append, u.1, cnt_set used i hi hu]; rfl, fun j hj => ?_⟩
  rw [List.length_set] at hj
  by_cases e : i = j
  · subst e
    rw [getD_set_self used i hj]
    simp
  · rw [getD_set_ne used i j true e, ← u.2 j hj]
    have : ¬ (j : Int) = (i : Int) := by omega
    simp [this]
theorem tryT_len {rec : Cell → List Bool → Option (List S66)} {w h : Nat} {l : List S50} {c : Cell} {used : List Bool} {x y i f : Nat} (hrec : ∀ c u L, rec c u = some L → L.length ≤ f) : ∀ ts L, tryT rec w h l c used x y i ts = some L → L.length ≤ f + 1
  | [], L, e => by simp [tryT] at e
  | t :: ts, L, e => by
    unfold tryT at e
    split at e
    · split at e
      · next L' hL' =>
        cases e
        have := hrec _ _ _ hL'
        simp
        omega
      · exact tryT_len hrec ts L e
    · exact tryT_len hrec ts L e
theorem tryI_len {rec : Cell → List Bool → Option (List S66)} {w h : Nat} {l : List S50} {c : Cell} {used : List Bool} {x y f : Nat} (hrec : ∀ c u L, rec c u = some L → L.length ≤ f) : ∀ m i L, tryI rec w h l c used x y m i = some L → L.length ≤ f + 1
  | 0, i, L, e => by simp [tryI] at e
  | m + 1, i, L, e => by
    unfold tryI at e
    split at e
    · exact tryI_len hrec m (i + 1) L e
    · split at e
      · next L' hL' =>
        cases e
        exact tryT_len hrec _ _ hL'
      · exact tryI_len hrec m (i + 1) L e
theorem fillR_len (w h : Nat) (l : List S50) : ∀ f c used L, fillR w h l f c used = some L → L.length ≤ f
  | 0, c, used, L, e => by simp [fillR] at e
  | f + 1, c, used, L, e => by
    unfold fillR at e
    split at e
    · split at e
      · cases e
        simp
      · cases e
    · exact tryI_len (fun c u L he => fillR_len w h l f c u L he) _ _ L e
def resS : Option (List S66) → List S66 × Bool
  | some L => (L, true)
  | none => ([], false)
/-- One try. -/
def tryOne (rec : Cell → List Bool → Option (List S66)) (w h : Nat) (l : List S50) (c : Cell) (used : List Bool) (x y i : Nat) (t : Bool) : Option (List S66) :=
  if roomB w h c x y (dimw (l.getD i z50) t) (dimh (l.getD i z50) t) = true then (rec (put c x y (dimw (l.getD i z50) t) (dimh (l.getD i z50) t) (i : Int)) (used.set i true)).map (fun L => ⟨(i : Int), (x : Int), (y : Int), t⟩ :: L) else none
theorem tryT_two (rec : Cell → List Bool → Option (List S66)) (w h : Nat) (l : List S50) (c : Cell) (used : List Bool) (x y i : Nat) : tryT rec w h l c used x y i [false, true] = match tryOne rec w h l c used x y i false with | some L => some L | none => tryOne rec w h l c used x y i true := by
  unfold tryT tryT tryT tryOne
  repeat' split
  all_goals simp_all
theorem tryOne_square (rec : Cell → List Bool → Option (List S66)) (w h : Nat) (l : List S50) (c : Cell) (used : List Bool) (x y i : Nat) (hs : (l.getD i z50).f0 = (l.getD i z50).f1) (e : tryOne rec w h l c used x y i false = none) : tryOne rec w h l c used x y i true = none := by
  have h1 : dimw (l.getD i z50) true = dimw (l.getD i z50) false := congrArg Int.toNat hs.symm
  have h2 : dimh (l.getD i z50) true = dimh (l.getD i z50) false := congrArg Int.toNat hs
  unfold tryOne at e ⊢
  rw [h1, h2]
  split at e
  · next hr =>
    rw [if_pos hr]
    simpa using e
  · next hr => rw [if_neg hr]

section
variable (w h : Nat) (hw : 0 < w) (hh : 0 < h) (hw8 : w ≤ 8) (h8 : h ≤ 8) (l : List S50) (hl8 : l.length ≤ 8) (hgl : ∀ i, i < l.length → gp (l.getD i z50) = true)
include hw hw8 h8
theorem scan_s (g : List Int) (c : Cell) (ok : Okc w h c) (r : RepS w h g c) (us : List Int) (q : List S66 × Bool) : ∀ m a : Nat, a + m = w * h →
    Ev (fun k => spec_fuFill.j1 k g (w : Int) (h : Int) l us (((match freeAt w c m a with | some b => b | none => w * h : Nat) : Nat) : Int)) q → Ev (fun k => spec_fuFill.l0 k g (w : Int) (h : Int) l us (a : Int)) q := by
  have h64 : w * h ≤ 8 * 8 := Nat.mul_le_mul hw8 h8
  intro m
  induction m with
  | zero =>
    intro a ha hq
    refine Ev.step (fun k => by rw [spec_fuFill.l0]) ?_
    have e1 : ¬ (a : Int) < ((g.length : Nat) : Int) := by rw [r.1]; omega
    simp only [e1, if_false]
    rw [show a = w * h by omega]
    exact hq
  | succ m ih =>
    intro a ha hq
    refine Ev.step (fun k => by rw [spec_fuFill.l0]) ?_
    have e1 : (a : Int) < ((g.length : Nat) : Int) := by rw [r.1]; omega
    have hY : a / w < h := Nat.div_lt_of_lt_mul (by omega)
    have hX : a % w < w := Nat.mod_lt _ hw
    have hv : rd g (a : Int) = c (a / w) (a % w) := by
      have := r.2 (a / w) (a % w) hY hX
      rw [Nat.div_add_mod'] at this
      exact this
    simp only [e1, nn, if_true, hv]
    rcases ok (a / w) (a % w) hY hX with e | e
    · have e2 : ¬ c (a / w) (a % w) ≥ 0 := by omega
      simp only [e2, if_false]
      simpa [freeAt, e] using hq
    · have e2 : ¬ c (a / w) (a % w) = -1 := by omega
      simp only [e, ge_iff_le, if_true, wrap_nat a (by omega)]
      refine ih (a + 1) (by omega) ?_
      simpa [freeAt, e2] using hq
include hl8 hgl
theorem try_s (f : Nat) (ihf : ∀ c used us g, used.length = l.length → l.length - cnt used < f → RepS w h g c → Okc w h c → US us used → Ev (fun k => spec_fuFill.f k g (w : Int) (h : Int) l us) (resS (fillR w h l f c used)))
    (hf8 : f ≤ 100) (c : Cell) (used : List Bool) (us : List Int) (g : List Int) (hul : used.length = l.length) (hf : l.length - cnt used < f + 1) (r : RepS w h g c) (ok : Okc w h c) (hus : US us used) (x y i : Nat) (hx : x < w) (hy : y < h) (hi : i < l.length) (hu : used.getD i false = false)
    (t : Bool) (idx : Nat) (q : List S66 × Bool) (hidx : idx ≤ 2)
    (hq : match tryOne (fillR w h l f) w h l c used x y i t with
      | some L => q = (L, true)
      | none => Ev (fun k => spec_fuFill.l2 k g (w : Int) (h : Int) l us ((y * w + x : Nat) : Int) (i : Int) l ((l.length : Nat) : Int) (i : Int) [false, true] ((2 : Nat) : Int) ((idx + 1 : Nat) : Int) (l.getD i z50).f0 (l.getD i z50).f1) q) :
    Ev (fun k => spec_fuFill.j4 k g (w : Int) (h : Int) l us ((y * w + x : Nat) : Int) (i : Int) t l ((l.length : Nat) : Int) (i : Int) [false, true] ((2 : Nat) : Int) (idx : Int) false (l.getD i z50).f0 (l.getD i z50).f1) q := by
  obtain ⟨g', hp1, hp2⟩ := put_s w h hw hw8 h8 g c ok r x y hx hy (l.getD i z50) (hgl i hi) t (i : Int)
  have hcs := cnt_set used i (by omega) hu
  have hcl := cnt_le (used.set i true)
  have hcl2 := cnt_le used
  rw [List.length_set] at hcl
  unfold tryOne at hq
  refine Ev.step (fun k => by rw [spec_fuFill.j4]) ?_
  simp only [Bool.false_eq_true, if_false]
  refine Ev.bind hp1 ?_
  by_cases hr : roomB w h c x y (dimw (l.getD i z50) t) (dimh (l.getD i z50) t) = true
  · have hrec := ihf _ (used.set i true) (us ++ [(i : Int)]) g' (by simpa using hul) (by omega) (hp2 hr) (ok.put x y _ _ i) (hus.snoc (by omega) hu)
    rw [if_pos hr] at hq
    have hul2 : us.length ≤ 1000 := by rw [hus.1]; omega
    have e1 : us.length < 17592186044416 := by omega
    simp only [hr, if_true, own_s us hul2, Option.bind_some, e1]
    refine Ev.bind hrec ?_
    cases hfr : fillR w h l f (put c x y (dimw (l.getD i z50) t) (dimh (l.getD i z50) t) (i : Int)) (used.set i true) with
    | some L =>
      rw [hfr] at hq
      simp only [Option.map_some] at hq
      have hL := fillR_len w h l f _ _ L hfr
      have e2 : ¬ (w : Int) = 0 := by omega
      have e3 : 1 + L.length < 4398046511104 := by omega
      have e4 : wrap64 (y : Int) = (y : Int) := wrap_id (by omega) (by omega)
      simp only [resS, if_true, e2, if_false, at_tmod w x y hx, at_tdiv w x y hx, e4, List.length_cons, List.length_nil, Nat.zero_add, e3, List.cons_append, List.nil_append, hq]
      exact Ev.now _
    | none =>
      rw [hfr] at hq
      simp only [Option.map_none] at hq
      simp only [resS, Bool.false_eq_true, if_false, wrap_nat idx (by omega)]
      exact hq
  · rw [if_neg hr] at hq
    simp only at hq
    simp only [hr, Bool.false_eq_true, if_false, wrap_nat idx (by omega)]
    exact hq
theorem fill_s : ∀ (f : Nat) (c : Cell) (used : List Bool) (us : List Int) (g : List Int), f ≤ 100 → used.length = l.length → l.length - cnt used < f → RepS w h g c → Okc w h c → US us used → Ev (fun k => spec_fuFill.f k g (w : Int) (h : Int) l us) (resS (fillR w h l f c used)) := by
  intro f
  induction f with
  | zero =>
    intro c used us g _ _ hf
    omega
  | succ f ihf =>
    intro c used us g hf8 hul hf r ok hus
    have hcl2 := cnt_le used
    refine Ev.step (fun k => by rw [spec_fuFill.f]) ?_
    refine scan_s w h hw hw8 h8 l g c ok r us _ (w * h) 0 (by omega) ?_
    unfold fillR
    show Ev (fun k => spec_fuFill.j1 k g (w : Int) (h : Int) l us (((match freeOf w h c with | some b => b | none => w * h : Nat) : Nat) : Int)) _
    cases hfo : freeOf w h c with
    | none =>
      refine Ev.step (fun k => by rw [spec_fuFill.j1]) ?_
      simp only [r.1, if_true]
      by_cases ha : used.all id = true
      · have hc := (cnt_all used).1 ha
        have e1 : (((us.length : Nat) : Int) == ((l.length : Nat) : Int)) = true := by rw [beq_iff_eq, hus.1]; omega
        simp only [e1, ha, if_true, resS]
        exact Ev.now _
      · have hc := fun e => ha ((cnt_all used).2 e)
        have e1 : (((us.length : Nat) : Int) == ((l.length : Nat) : Int)) = false := by
          rw [beq_eq_false_iff_ne, hus.1]
          intro e
          exact hc (by omega)
        simp only [e1, ha, if_false, resS]
        exact Ev.now _
    | some a =>
      have hal := freeAt_lt w c _ _ _ hfo
      rw [Nat.zero_add] at hal
      have hx : a % w < w := Nat.mod_lt _ hw
      have hy : a / w < h := Nat.div_lt_of_lt_mul hal
      have haa : a = a / w * w + a % w := (Nat.div_add_mod' a w).symm
      generalize a % w = x at hx haa ⊢
      generalize a / w = y at hy haa ⊢
      subst haa
      refine Ev.step (fun k => by rw [spec_fuFill.j1]) ?_
      have e1 : ¬ ((y * w + x : Nat) : Int) = ((g.length : Nat) : Int) := by rw [r.1]; omega
      simp only [e1, if_false]
      have loop : ∀ m i : Nat, i + m = l.length → Ev (fun k => spec_fuFill.l1 k g (w : Int) (h : Int) l us ((y * w + x : Nat) : Int) l ((l.length : Nat) : Int) (i : Int)) (resS (tryI (fillR w h l f) w h l c used x y m i)) := by
        intro m
        induction m with
        | zero =>
          intro i hi
          refine Ev.step (fun k => by rw [spec_fuFill.l1]) ?_
          simp only [show ¬ (i : Int) < ((l.length : Nat) : Int) by omega, if_false]
          exact Ev.now _
        | succ m ihm =>
          intro i hi
          have hnext := ihm (i + 1) (by omega)
          have hli : rd_T50 l (i : Int) = l.getD i z50 := rfl
          refine Ev.step (fun k => by rw [spec_fuFill.l1]) ?_
          simp only [show (i : Int) < ((l.length : Nat) : Int) by omega, nn, if_true, hli, wrap_nat i (by omega)]
          refine Ev.bind (has_ev us (i : Int) (by rw [hus.1]; omega)) ?_
          rw [hus.2 i (by omega)]
          unfold tryI
          by_cases hu : used.getD i false = true
          · simp only [hu, if_true]
            exact hnext
          · have hu' : used.getD i false = false := Bool.eq_false_iff.2 hu
            simp only [hu', Bool.false_eq_true, if_false, Option.bind_some]
            rw [tryT_two]
            -- the first try, then the second one
            refine Ev.step (fun k => by rw [spec_fuFill.l2]) ?_
            have hf0 : rdOf false [false, true] (0 : Int) = false := rfl
            have hf1 : rdOf false [false, true] ((0 + 1 : Nat) : Int) = true := rfl
            simp only [show (0 : Int) < (([false, true] : List Bool).length : Int) by decide, Int.le_refl, if_true, hf0, Bool.false_eq_true, if_false]
            refine try_s w h hw hw8 h8 l hl8 hgl f (fun c used us g => ihf c used us g (by omega)) (by omega) c used us g hul hf r ok hus x y i hx hy (by omega) hu' false 0 _ (by omega) ?_
            cases ho : tryOne (fillR w h l f) w h l c used x y i false with
            | some L => simp only [resS]
            | none =>
              simp only
              refine Ev.step (fun k => by rw [spec_fuFill.l2]) ?_
              simp only [show ((0 + 1 : Nat) : Int) < ((2 : Nat) : Int) by decide, show ((0 + 1 : Nat) : Int) < (([false, true] : List Bool).length : Int) by decide, nn, if_true, hf1]
              have last : Ev (fun k => spec_fuFill.l2 k g (w : Int) (h : Int) l us ((y * w + x : Nat) : Int) (i : Int) l ((l.length : Nat) : Int) (i : Int) [false, true] ((2 : Nat) : Int) ((1 + 1 : Nat) : Int) (l.getD i z50).f0 (l.getD i z50).f1) (resS (tryI (fillR w h l f) w h l c used x y m (i + 1))) := by
                refine Ev.step (fun k => by rw [spec_fuFill.l2]) ?_
                simp only [show ¬ ((1 + 1 : Nat) : Int) < ((2 : Nat) : Int) by decide, if_false, wrap_nat i (by omega)]
                exact hnext
              by_cases hsq : (l.getD i z50).f0 = (l.getD i z50).f1
              · rw [tryOne_square _ w h l c used x y i hsq ho]
                have e3 : ((l.getD i z50).f0 == (l.getD i z50).f1) = true := beq_iff_eq.2 hsq
                simp only [e3]
                refine Ev.step (fun k => by rw [spec_fuFill.j4]) ?_
                simp only [if_true, wrap_nat (0 + 1) (by omega)]
                exact last
              · have e3 : ((l.getD i z50).f0 == (l.getD i z50).f1) = false := beq_eq_false_iff_ne.2 hsq
                simp only [e3]
                refine try_s w h hw hw8 h8 l hl8 hgl f (fun c used us g => ihf c used us g (by omega)) (by omega) c used us g hul hf r ok hus x y i hx hy (by omega) hu' true 1 _ (by omega) ?_
                cases tryOne (fillR w h l f) w h l c used x y i true with
                | some L => simp only [resS]
                | none => exact last
      have hL := loop l.length 0 (by omega)
      rw [at_mod hx, at_div hx]
      exact hL
end

/-! both answers -/
def coll (L : List S66) : Nat → Nat → List S66
  | 0, _ => []
  | m + 1, i => L.filter (fun q => decide (q.f0 = (i : Int))) ++ coll L m (i + 1)
theorem coll_l2 (L : List S66) (n i : Nat) (hL : L.length ≤ 100) (q : List S66 × Bool) (acc0 : List S66) (ha : acc0.length ≤ 100000)
    (hq : Ev (fun k => spec_fuFirst.l1 k L (acc0 ++ L.filter (fun q => decide (q.f0 = (i : Int)))) (n : Int) (wrap64 ((i : Int) + 1))) q) : ∀ (rest pre : List S66), L = pre ++ rest →
    Ev (fun k => spec_fuFirst.l2 k L (acc0 ++ pre.filter (fun q => decide (q.f0 = (i : Int)))) (i : Int) (n : Int) (i : Int) L ((L.length : Nat) : Int) ((pre.length : Nat) : Int)) q := by
  intro rest
  induction rest with
  | nil =>
    intro pre e
    refine Ev.step (fun k => by rw [spec_fuFirst.l2]) ?_
    simp only [ix_end e, if_false]
    have : pre = L := by rw [e]; simp
    rw [this]
    exact hq
  | cons x rest ih =>
    intro pre e
    have h1 := ih (pre ++ [x]) (by simp [e])
    have hx : rd_T66 L ((pre.length : Nat) : Int) = x := ix_get e
    have hl := List.length_filter_le (fun q : S66 => decide (q.f0 = (i : Int))) pre
    have hpl : pre.length ≤ L.length := by rw [e]; simp
    have e1 : (acc0 ++ pre.filter (fun q => decide (q.f0 = (i : Int)))).length < 4398046511104 := by
      rw [List.length_append]
      omega
    refine Ev.step (fun k => by rw [spec_fuFirst.l2]) ?_
    simp only [ix_lt e, ix_nn, if_true, hx, e1, ix_wrap e (by omega)]
    by_cases c : x.f0 = (i : Int)
    · simp only [c, if_true]
      rw [List.filter_append] at h1
      have e2 : [x].filter (fun q => decide (q.f0 = (i : Int))) = [x] := by simp [c]
      rw [e2, ← List.append_assoc] at h1
      rw [← c]
      rw [← c] at h1
      exact h1
    · simp only [c, if_false]
      rw [List.filter_append] at h1
      have e2 : [x].filter (fun q => decide (q.f0 = (i : Int))) = [] := by simp [c]
      rw [e2, List.append_nil] at h1
      exact h1
theorem coll_l1 (L : List S66) (n : Nat) (hL : L.length ≤ 100) (hn : n ≤ 100) : ∀ (m i : Nat) (acc : List S66), i + m = n → acc.length ≤ i * 100 → Ev (fun k => spec_fuFirst.l1 k L acc (n : Int) (i : Int)) (acc ++ coll L m i, true) := by
  intro m
  induction m with
  | zero =>
    intro i acc hi ha
    refine Ev.step (fun k => by rw [spec_fuFirst.l1]) ?_
    simp only [show ¬ (i : Int) < (n : Int) by omega, if_false]
    exact Ev.ret (fun _ => by simp [coll])
  | succ m ih =>
    intro i acc hi ha
    have hl := List.length_filter_le (fun q : S66 => decide (q.f0 = (i : Int))) L
    have h1 := ih (i + 1) (acc ++ L.filter (fun q => decide (q.f0 = (i : Int)))) (by omega) (by rw [List.length_append]; omega)
    rw [← wrap_nat i (by omega)] at h1
    have h2 := coll_l2 L n i hL _ acc (by omega) h1 L [] rfl
    refine Ev.step (fun k => by rw [spec_fuFirst.l1]) ?_
    simp only [show (i : Int) < (n : Int) by omega, if_true, coll]
    rw [← List.append_assoc]
    simpa using h2
theorem first_l0 (w h : Nat) (l : List S50) (N : Nat) (hN : N ≤ 100) (q : List S66 × Bool)
    (hq : Ev (fun k => (spec_fuFill.f k (List.replicate N (-1)) (w : Int) (h : Int) l ([] : List Int)).bind fun bt177 => (if bt177.2 = true then (spec_fuFirst.l1 k bt177.1 ([] : List S66) ((l.length : Nat) : Int) 0) else (some (([] : List S66), false)))) q) : ∀ (m j : Nat), j + m = N →
    Ev (fun k => spec_fuFirst.l0 k (w : Int) (h : Int) l (List.replicate j (-1) ++ List.replicate m 0) (N : Int) (j : Int)) q := by
  intro m
  induction m with
  | zero =>
    intro j hj
    refine Ev.step (fun k => by rw [spec_fuFirst.l0]) ?_
    obtain rfl : j = N := by omega
    simp only [Int.lt_irrefl, if_false, List.replicate_zero, List.append_nil]
    exact hq
  | succ m ih =>
    intro j hj
    have h1 := ih (j + 1) (by omega)
    have e1 : (j : Int) < (((List.replicate j (-1 : Int) ++ List.replicate (m + 1) 0).length : Nat) : Int) := by simp; omega
    have e2 : (List.replicate j (-1 : Int) ++ List.replicate (m + 1) 0).set (j : Int).toNat (-1) = List.replicate (j + 1) (-1) ++ List.replicate m 0 := by
      rw [List.replicate_succ, Int.toNat_natCast, set_mid _ _ _ _ _ (by simp), List.replicate_succ', ]
    refine Ev.step (fun k => by rw [spec_fuFirst.l0]) ?_
    simp only [show (j : Int) < (N : Int) by omega, nn, if_true, e1, e2, wrap_nat j (by omega)]
    exact h1
theorem row_l1 (w h : Nat) (hw8 : w ≤ 8) (h8 : h ≤ 8) (j : Nat) (rows : List (List Int)) (hr : rows.length ≤ 100) (q : List (List Int))
    (hq : Ev (fun k => impl_emptyChase.l0 k (w : Int) (h : Int) (rows ++ [List.replicate w (-1)]) (wrap64 ((j : Int) + 1))) q) : ∀ m i : Nat, i + m = w →
    Ev (fun k => impl_emptyChase.l1 k (w : Int) (h : Int) rows (j : Int) (List.replicate i (-1)) (i : Int)) q := by
  intro m
  induction m with
  | zero =>
    intro i hi
    refine Ev.step (fun k => by rw [impl_emptyChase.l1]) ?_
    obtain rfl : i = w := by omega
    simp only [Int.lt_irrefl, if_false, show rows.length < 5864062014805 by omega, if_true]
    exact hq
  | succ m ih =>
    intro i hi
    have h1 := ih (i + 1) (by omega)
    rw [List.replicate_succ'] at h1
    refine Ev.step (fun k => by rw [impl_emptyChase.l1]) ?_
    simp only [show (i : Int) < (w : Int) by omega, if_true, List.length_replicate, show i < 17592186044416 by omega, wrap_nat i (by omega)]
    exact h1
theorem rows_l0 (w h : Nat) (hw8 : w ≤ 8) (h8 : h ≤ 8) : ∀ m j : Nat, j + m = h → Ev (fun k => impl_emptyChase.l0 k (w : Int) (h : Int) (List.replicate j (List.replicate w (-1))) (j : Int)) (List.replicate h (List.replicate w (-1))) := by
  intro m
  induction m with
  | zero =>
    intro j hj
    refine Ev.step (fun k => by rw [impl_emptyChase.l0]) ?_
    obtain rfl : j = h := by omega
    simp only [Int.lt_irrefl, if_false]
    exact Ev.now _
  | succ m ih =>
    intro j hj
    have h1 := ih (j + 1) (by omega)
    rw [List.replicate_succ', ← wrap_nat j (by omega)] at h1
    refine Ev.step (fun k => by rw [impl_emptyChase.l0]) ?_
    simp only [show (j : Int) < (h : Int) by omega, if_true]
    exact row_l1 w h hw8 h8 j _ (by simp; omega) _ h1 w 0 (by omega)
theorem empty_i (w h : Nat) (hw8 : w ≤ 8) (h8 : h ≤ 8) : Ev (fun k => impl_emptyChase.f k (w : Int) (h : Int)) (List.replicate h (List.replicate w (-1))) := rows_l0 w h hw8 h8 h 0 (by omega)
theorem rep_empty_i (w h : Nat) : RepI w h (List.replicate h (List.replicate w (-1))) (fun _ _ => -1) := by
  refine ⟨by simp, fun Y hY => ?_⟩
  rw [List.getD_eq_getElem?_getD, List.getElem?_replicate_of_lt hY]
  refine ⟨by simp, fun X hX => ?_⟩
  rw [Option.getD_some, List.getD_eq_getElem?_getD, List.getElem?_replicate_of_lt hX]
  rfl
theorem rep_empty_s (w h : Nat) : RepS w h (List.replicate (w * h) (-1)) (fun _ _ => -1) := by
  refine ⟨by simp, fun Y X hY hX => ?_⟩
  rw [List.getD_eq_getElem?_getD, List.getElem?_replicate_of_lt (cell_lt hY hX)]
  rfl
theorem cnt_rep (n : Nat) : cnt (List.replicate n false) = 0 := by simp [cnt]
theorem us_rep (n : Nat) : US [] (List.replicate n false) := by
  refine ⟨by simp [cnt_rep], fun i hi => ?_⟩
  rw [List.getD_eq_getElem?_getD, List.getElem?_replicate_of_lt (by simpa using hi)]
  rfl
theorem coll_eq (L P : List S66) (n : Nat) (hP : P.length = n) (h : ∀ i : Nat, i < n → L.filter (fun q => decide (q.f0 = (i : Int))) = [P.getD i z66]) : coll L n 0 = P := by
  have key : ∀ m i, i + m = n → coll L m i = P.drop i := by
    intro m
    induction m with
    | zero =>
      intro i hi
      rw [List.drop_of_length_le (by omega)]
      rfl
    | succ m ih =>
      intro i hi
      have hi2 : i < P.length := by omega
      rw [coll, ih (i + 1) (by omega), h i (by omega), List.drop_eq_getElem_cons hi2, List.getD_eq_getElem?_getD, List.getElem?_eq_getElem hi2]
      rfl
  simpa using key n 0 (by omega)
def chOk (a b : Int) (l : List S50) : Bool := (decide (1 ≤ a ∧ a ≤ 8) && decide (1 ≤ b ∧ b ≤ 8)) && goodp l
def chase (a b : Int) (l : List S50) : List S66 × Bool :=
  if areaf l 0 = a * b then
    match fillR a.toNat b.toNat l (l.length + 1) (fun _ _ => -1) (List.replicate l.length false) with
    | some L => (coll L l.length 0, true)
    | none => ([], false)
  else ([], false)
theorem goodp_get {l : List S50} (hg : goodp l = true) : l.length ≤ 8 ∧ ∀ i, i < l.length → gp (l.getD i z50) = true := by
  simp only [goodp, Bool.and_eq_true, List.all_eq_true, decide_eq_true_eq] at hg
  refine ⟨by omega, fun i hi => ?_⟩
  rw [List.getD_eq_getElem?_getD, List.getElem?_eq_getElem hi]
  exact hg.1 _ (List.getElem_mem _)
theorem chase_len (a b : Int) (l : List S50) (ha : 1 ≤ a ∧ a ≤ 8) (hb : 1 ≤ b ∧ b ≤ 8) (hg : goodp l = true) : (chase a b l).1.length ≤ 1048576 := by
  obtain ⟨hl8, hgl⟩ := goodp_get hg
  unfold chase
  split
  · split
    · next L hL =>
      have := fillR_len _ _ l _ _ _ L hL
      have key : ∀ m i, (coll L m i).length ≤ m * L.length := by
        intro m
        induction m with
        | zero => intro i; simp [coll]
        | succ m ih =>
          intro i
          have h1 := List.length_filter_le (fun q : S66 => decide (q.f0 = (i : Int))) L
          have h2 := ih (i + 1)
          rw [coll, List.length_append, Nat.succ_mul]
          omega
      have h1 := key l.length 0
      have h2 : l.length * L.length ≤ 8 * 9 := Nat.mul_le_mul hl8 (by omega)
      simp only
      omega
    · simp
  · simp
theorem wrap_mul (w h : Nat) (hw8 : w ≤ 8) (h8 : h ≤ 8) : wrap64 ((w : Int) * (h : Int)) = ((w * h : Nat) : Int) := by
  have h64 : w * h ≤ 8 * 8 := Nat.mul_le_mul hw8 h8
  rw [← Int.natCast_mul, wrap_id (by omega) (by omega)]
theorem first_s (a b : Int) (l : List S50) (ha : 1 ≤ a ∧ a ≤ 8) (hb : 1 ≤ b ∧ b ≤ 8) (hg : goodp l = true) : Ev (fun k => spec_fuFirst.f k a b l) (chase a b l) := by
  obtain ⟨hl8, hgl⟩ := goodp_get hg
  obtain ⟨w, rfl⟩ : ∃ w : Nat, a = (w : Int) := ⟨a.toNat, by omega⟩
  obtain ⟨h, rfl⟩ : ∃ h : Nat, b = (h : Int) := ⟨b.toNat, by omega⟩
  have hw8 : w ≤ 8 := by omega
  have h8 : h ≤ 8 := by omega
  have h64 : w * h ≤ 8 * 8 := Nat.mul_le_mul hw8 h8
  unfold spec_fuFirst.f chase
  refine Ev.bind (spec_area l (by omega)) ?_
  rw [wrap_mul w h hw8 h8, ← Int.natCast_mul]
  by_cases c : areaf l 0 = ((w * h : Nat) : Int)
  · simp only [c, if_true, nn, Int.toNat_natCast, show w * h ≤ 35184372088832 by omega, Option.bind_some, List.length_replicate]
    have hf := fill_s w h (by omega) hw8 h8 l hl8 hgl (l.length + 1) (fun _ _ => -1) (List.replicate l.length false) [] (List.replicate (w * h) (-1)) (by omega) (by simp) (by rw [cnt_rep]; omega) (rep_empty_s w h) (fun _ _ _ _ => .inl rfl) (us_rep _)
    have := first_l0 w h l (w * h) (by omega) (match fillR w h l (l.length + 1) (fun _ _ => -1) (List.replicate l.length false) with | some L => (coll L l.length 0, true) | none => ([], false)) ?_ (w * h) 0 (by omega)
    · simpa using this
    · refine Ev.bind hf ?_
      cases hfr : fillR w h l (l.length + 1) (fun _ _ => -1) (List.replicate l.length false) with
      | some L =>
        have hL := fillR_len w h l _ _ _ L hfr
        simp only [resS, if_true]
        have := coll_l1 L l.length (by omega) (by omega) l.length 0 [] (by omega) (by simp)
        simpa using this
      | none =>
        simp only [resS, Bool.false_eq_true, if_false]
        exact Ev.now _
  · simp only [c, if_false]
    exact Ev.now _
theorem chok_s (a b : Int) (l : List S50) (hm : l.length ≤ 1048576) : Ev (fun k => spec_fuChase.f k a b l) (chOk a b l) := by
  unfold spec_fuChase.f chOk spec_fuSize.f
  simp only [l1In_eq, Option.bind_some]
  by_cases ca : 1 ≤ a ∧ a ≤ 8
  · by_cases cb : 1 ≤ b ∧ b ≤ 8
    · simp only [ca, cb, and_self, decide_true, if_true, Bool.and_true, Bool.true_and]
      exact Ev.bind (spec_goodp l hm) (Ev.now _)
    · simp only [ca, cb, and_self, decide_true, if_true, decide_false, Bool.false_eq_true, if_false, Bool.and_false, Bool.false_and]
      exact Ev.now _
  · simp only [ca, decide_false, Bool.false_eq_true, if_false, Bool.false_and]
    exact Ev.now _
theorem chok_i (a b : Int) (l : List S50) (hm : l.length ≤ 1048576) : Ev (fun k => impl_isChase.f k a b l) (chOk a b l) := by
  unfold impl_isChase.f chOk impl_isChaseSide.f
  simp only [within_eq, Option.bind_some]
  by_cases ca : 1 ≤ a ∧ a ≤ 8
  · by_cases cb : 1 ≤ b ∧ b ≤ 8
    · simp only [ca, cb, and_self, decide_true, if_true, Bool.and_true, Bool.true_and]
      exact Ev.bind (impl_goodp l hm) (Ev.now _)
    · simp only [ca, cb, and_self, decide_true, if_true, decide_false, Bool.false_eq_true, if_false, Bool.and_false, Bool.false_and]
      exact Ev.now _
  · simp only [ca, decide_false, Bool.false_eq_true, if_false, Bool.false_and]
    exact Ev.now _
def chaseOr (a b : Int) (l : List S50) : List S66 × Bool := if chOk a b l = true then chase a b l else ([], false)
theorem chok_get {a b : Int} {l : List S50} (h : chOk a b l = true) : (1 ≤ a ∧ a ≤ 8) ∧ (1 ≤ b ∧ b ≤ 8) ∧ goodp l = true := by
  simp only [chOk, Bool.and_eq_true, decide_eq_true_eq] at h
  exact ⟨h.1.1, h.1.2, h.2⟩
theorem chase_i (a b : Int) (l : List S50) (hm : l.length ≤ 1048576) : Ev (fun k => impl_FillChase.f k a b l) (chaseOr a b l) := by
  unfold impl_FillChase.f chaseOr
  refine Ev.bind (chok_i a b l hm) ?_
  cases hc : chOk a b l with
  | false =>
    simp only [Bool.false_eq_true, if_false]
    refine Ev.step (fun k => by rw [impl_FillChase.j0]) ?_
    exact Ev.ret (fun _ => by simp)
  | true =>
    obtain ⟨ha, hb, hg⟩ := chok_get hc
    obtain ⟨hl8, hgl⟩ := goodp_get hg
    obtain ⟨w, rfl⟩ : ∃ w : Nat, a = (w : Int) := ⟨a.toNat, by omega⟩
    obtain ⟨h, rfl⟩ : ∃ h : Nat, b = (h : Int) := ⟨b.toNat, by omega⟩
    have hw8 : w ≤ 8 := by omega
    have h8 : h ≤ 8 := by omega
    simp only [if_true]
    refine Ev.bind (impl_area' l hm) ?_
    unfold chase
    rw [wrap_mul w h hw8 h8, ← Int.natCast_mul]
    refine Ev.step (fun k => by rw [impl_FillChase.j0]) ?_
    by_cases c : areaf l 0 = ((w * h : Nat) : Int)
    · have e1 : (areaf l 0 != ((w * h : Nat) : Int)) = false := bne_eq_false_iff_eq.2 c
      obtain ⟨r, hr, ho⟩ := fill_i w h (by omega) (by omega) hw8 h8 l hl8 hgl (l.length + 1) (fun _ _ => -1) (List.replicate l.length false) _ (List.replicate l.length z66) (by simp) (by simp) (by rw [cnt_rep]; omega) (rep_empty_i w h)
      rw [e1]
      simp only [Bool.false_eq_true, if_false, nn, if_true, Int.toNat_natCast, show l.length ≤ 8796093022208 by omega, show l.length ≤ 281474976710656 by omega, c]
      refine Ev.bind (empty_i w h hw8 h8) ?_
      refine Ev.bind hr ?_
      obtain ⟨rb, rg, ru, rp⟩ := r
      obtain ⟨o1, _, o3⟩ := ho
      simp only [List.length_replicate] at o1 o3
      cases hfr : fillR w h l (l.length + 1) (fun _ _ => -1) (List.replicate l.length false) with
      | some L =>
        rw [hfr] at o3
        obtain ⟨o4, o5⟩ := o3
        subst o4
        have hce := coll_eq L rp l.length o1 (fun i hi => o5 i hi (by rw [List.getD_eq_getElem?_getD, List.getElem?_replicate_of_lt hi]; rfl))
        simp only [if_true, hce]
        exact Ev.now _
      | none =>
        rw [hfr] at o3
        obtain ⟨o4, _⟩ := o3
        subst o4
        simp only [Bool.false_eq_true, if_false]
        exact Ev.now _
    · have e1 : (areaf l 0 != ((w * h : Nat) : Int)) = true := bne_iff_ne.2 c
      rw [e1]
      simp only [if_true, c, if_false]
      exact Ev.now _

/-! the law's own loops over what is placed -/
theorem eqQ_l (l : List S66) (hb : l.length ≤ 1048576) : ∀ (rest pre : List S66), l = pre ++ rest → Ev (fun k => laws_eqPlacedS.l0 k l l ((pre.length : Nat) : Int)) true := by
  intro rest
  induction rest with
  | nil =>
    intro pre e
    refine Ev.step (fun k => by rw [laws_eqPlacedS.l0]) ?_
    simp only [ix_end e, if_false]
    exact Ev.now _
  | cons x rest ih =>
    intro pre e
    have h1 := ih (pre ++ [x]) (by simp [e])
    refine Ev.step (fun k => by rw [laws_eqPlacedS.l0]) ?_
    simp only [ix_lt e, ix_nn, if_true, laws_eqPlaced.f, Option.bind_some, bne_self_eq_false, Bool.false_eq_true, if_false, ix_wrap e (by omega)]
    exact h1
theorem eqQ_ev (l : List S66) (hb : l.length ≤ 1048576) : Ev (fun k => laws_eqPlacedS.f k l l) true := by
  unfold laws_eqPlacedS.f
  simp only [if_true]
  exact eqQ_l l hb l [] rfl
/-- What the marks leave: the numbers a, a + 1, a + 2 and a flag, then four further. -/
def mkQ (a : Int) : S66 := ⟨a, a + 1, a + 2, Int.tmod (a + 3) 3 == 0⟩
def upsQ : Nat → Int → List S66
  | 0, _ => []
  | n + 1, a => mkQ a :: upsQ n (a + 4)
theorem upsQ_len : ∀ (n : Nat) (a : Int), (upsQ n a).length = n
  | 0, _ => rfl
  | n + 1, a => by simp [upsQ, upsQ_len n (a + 4)]
theorem getQ_mid (pre rest : List S66) (x : S66) : rd_T66 (pre ++ x :: rest) ((pre.length : Nat) : Int) = x := ix_get rfl
theorem markQ_l : ∀ (rest pre : List S66) (a : Int), (pre ++ rest).length ≤ 1048576 → 0 ≤ a → a + 4 * rest.length ≤ 8388608 →
    Ev (fun k => laws_markPlacedS.l0 k (pre ++ rest) a ((pre.length : Nat) : Int)) (a + 4 * rest.length, pre ++ upsQ rest.length a) := by
  intro rest
  induction rest with
  | nil =>
    intro pre a _ _ _
    refine Ev.step (fun k => by rw [laws_markPlacedS.l0]) ?_
    simp only [ix_end (rfl : pre ++ [] = pre ++ []), if_false]
    exact Ev.ret (fun _ => by simp [upsQ])
  | cons x rest ih =>
    intro pre a hb h0 h1
    have e : pre ++ x :: rest = pre ++ x :: rest := rfl
    simp only [List.length_append, List.length_cons] at hb h1
    have w1 : wrap64 (a + 1) = a + 1 := wrap_id (by omega) (by omega)
    have w2 : wrap64 (a + 1 + 1) = a + 2 := by rw [wrap_id (by omega) (by omega)]; omega
    have w3 : wrap64 (a + 2 + 1) = a + 3 := by rw [wrap_id (by omega) (by omega)]; omega
    have w4 : wrap64 (a + 3 + 1) = a + 4 := by rw [wrap_id (by omega) (by omega)]; omega
    have hs : ∀ (z y : S66), (pre ++ z :: rest).set ((pre.length : Nat) : Int).toNat y = pre ++ y :: rest := fun z y => by
      rw [Int.toNat_natCast, set_mid _ _ _ _ _ rfl]
      simp
    have hi := ih (pre ++ [mkQ a]) (a + 4) (by simp; omega) (by omega) (by omega)
    refine Ev.step (fun k => by rw [laws_markPlacedS.l0]) ?_
    simp only [ix_lt e, ix_nn, if_true, Option.bind_some, getQ_mid, hs, w1, w2, w3, w4, ix_wrap e (by simp; omega)]
    have e2 : (a + 4 * ((x :: rest).length : Nat), pre ++ upsQ (x :: rest).length a) = (a + 4 + 4 * (rest.length : Nat), pre ++ [mkQ a] ++ upsQ rest.length (a + 4)) := by
      simp [upsQ]
      omega
    rw [e2]
    have e3 : pre ++ [mkQ a] ++ rest = pre ++ mkQ a :: rest := by simp
    rw [e3] at hi
    have e4 : (((pre ++ [mkQ a]).length : Nat) : Int) = (((pre ++ [x]).length : Nat) : Int) := by simp
    rw [e4] at hi
    exact hi
theorem markQ_ev (l : List S66) (hb : l.length ≤ 1048576) : Ev (fun k => laws_markPlacedS.f k l 1) (1 + 4 * l.length, upsQ l.length 1) := markQ_l l [] 1 hb (by omega) (by omega)
theorem heldQ_l (l : List S66) (hb : l.length ≤ 1048576) : ∀ (n : Nat) (pre : List S66) (a : Int), l = pre ++ upsQ n a → 0 ≤ a → a + 4 * n ≤ 8388608 → Ev (fun k => laws_heldPlacedS.l0 k l a ((pre.length : Nat) : Int)) (a + 4 * n) := by
  intro n
  induction n with
  | zero =>
    intro pre a e _ _
    refine Ev.step (fun k => by rw [laws_heldPlacedS.l0]) ?_
    simp only [ix_end e, if_false]
    exact Ev.ret (fun _ => by simp)
  | succ n ih =>
    intro pre a e h0 h1
    rw [upsQ] at e
    have hx : rd_T66 l ((pre.length : Nat) : Int) = mkQ a := ix_get e
    have w1 : wrap64 (a + 1) = a + 1 := wrap_id (by omega) (by omega)
    have w2 : wrap64 (a + 1 + 1) = a + 2 := by rw [wrap_id (by omega) (by omega)]; omega
    have w3 : wrap64 (a + 2 + 1) = a + 3 := by rw [wrap_id (by omega) (by omega)]; omega
    have w4 : wrap64 (a + 3 + 1) = a + 4 := by rw [wrap_id (by omega) (by omega)]; omega
    have hi := ih (pre ++ [mkQ a]) (a + 4) (by simp [e]) (by omega) (by omega)
    refine Ev.step (fun k => by rw [laws_heldPlacedS.l0]) ?_
    simp only [ix_lt e, ix_nn, if_true, hx, mkQ, w1, w2, w3, w4, bne_self_eq_false, Bool.false_eq_true, if_false, ix_wrap e (by omega)]
    rw [show a + 4 * ((n + 1 : Nat) : Int) = a + 4 + 4 * (n : Int) by omega]
    exact hi
theorem heldQ_ev (n : Nat) (hb : n ≤ 1048576) : Ev (fun k => laws_heldPlacedS.f k (upsQ n 1) 1) (1 + 4 * n) := heldQ_l (upsQ n 1) (by rw [upsQ_len]; exact hb) n [] 1 rfl (by omega) (by omega)

theorem chase_s (a b : Int) (l : List S50) (hm : l.length ≤ 1048576) : Ev (fun k => spec_FillChase.f k a b l) (chaseOr a b l) := by
  unfold spec_FillChase.f chaseOr
  refine Ev.bind (chok_s a b l hm) ?_
  cases hc : chOk a b l with
  | false => exact Ev.ret (fun _ => by simp)
  | true =>
    obtain ⟨ha, hb, hg⟩ := chok_get hc
    simp only [if_true]
    exact Ev.bind (first_s a b l ha hb hg) (Ev.now _)
theorem chaseOr_len (a b : Int) (l : List S50) : (chaseOr a b l).1.length ≤ 1048576 := by
  unfold chaseOr
  split
  · next hc =>
    obtain ⟨ha, hb, hg⟩ := chok_get hc
    exact chase_len a b l ha hb hg
  · simp
theorem proved : Stmt.FnExactFillChase := by
  intro a b l _ _ hl _
  refine Ev.law (g := fun k => laws_FnExactFillChase.f k a b l) ?_
  unfold laws_FnExactFillChase.f
  obtain ⟨s, hs, h⟩ := sz_ev l hl
  simp only [hs, Option.bind_some]
  rcases h with h | ⟨hb, h⟩
  · simp only [h, if_true]
    exact Ev.now _
  simp only [h, if_false]
  have hm : (l.map conv).length ≤ 1048576 := by simpa using hb
  have hr := chase_s a b (l.map conv) hm
  have hr' := chase_i a b (l.map conv) hm
  have hlen := chaseOr_len a b (l.map conv)
  generalize chaseOr a b (l.map conv) = r at hr hr' hlen
  obtain ⟨l', hq⟩ := markP_ev (l.map conv) hm
  refine Ev.bind (to_ev l hb) ?_
  refine Ev.bind hr ?_
  refine Ev.bind (to_ev l hb) ?_
  refine Ev.bind hr' ?_
  refine Ev.bind (eqQ_ev _ hlen) ?_
  simp only [bne_self_eq_false, if_true]
  refine Ev.step (fun k => by rw [laws_FnExactFillChase.j0]) ?_
  simp only [Bool.false_eq_true, if_false]
  refine Ev.bind (to_ev l hb) ?_
  refine Ev.bind (eq_ev _ hm) ?_
  simp only [if_true]
  refine Ev.bind hq ?_
  simp only [show ¬ 1 + 2 * (((l.map conv).length : Nat) : Int) < 0 by omega, if_false]
  refine Ev.bind (eqQ_ev _ hlen) ?_
  simp only [bne_self_eq_false, if_true]
  refine Ev.step (fun k => by rw [laws_FnExactFillChase.j1]) ?_
  simp only [Bool.false_eq_true, if_false]
  refine Ev.bind (markQ_ev _ hlen) ?_
  refine Ev.bind (heldQ_ev _ hlen) ?_
  simp only [show ¬ (1 + 4 * (r.1.length : Int)) < 0 by omega, if_false, if_true]
  refine Ev.bind (to_ev l hb) ?_
  refine Ev.bind hr' ?_
  refine Ev.bind (eqQ_ev _ hlen) ?_
  simp only [bne_self_eq_false, if_true]
  refine Ev.step (fun k => by rw [laws_FnExactFillChase.j2]) ?_
  simp only [Bool.false_eq_true, if_false]
  refine Ev.bind (heldQ_ev _ hlen) ?_
  simp only [show ¬ (1 + 4 * (r.1.length : Int)) < 0 by omega, if_false, if_true]
  exact Ev.now _

end Go.Proofs.Ythpgmjlhakdemaa.PureFnExactFillChase
