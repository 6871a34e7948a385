/- The law FnExactSidesOf holds of the printed functions at every argument. No condition beyond what every readable argument meets. -/
import Derived.Test.YthpgmjlhakdemaaStmtFnExactSidesOf
import Derived.Test.YthpgmjlhakdemaaBase
set_option linter.unusedSimpArgs false
set_option linter.unusedVariables false
namespace Go.Proofs.Ythpgmjlhakdemaa.PureFnExactSidesOf
open Go.Proofs.Ythpgmjlhakdemaa.PFnExactSidesOf Go.RowKit Go.Proofs.YthpgmjlhakdemaaW.PrintWords Go.Proofs.YthpgmjlhakdemaaW.PrintLast Go.Proofs.YthpgmjlhakdemaaW.PrintMore

open Go.Proofs.Ythpgmjlhakdemaa.Base
def conv (x : S54) : S50 := ⟨x.f0, x.f1⟩
theorem sz_ev (l : List S54) (h : l.length ≤ 9223372036854775807) : ∃ s, laws_szPieceS.f l 1048576 = some s ∧ (s < 0 ∨ l.length ≤ 1048576 ∧ ¬ s < 0) := by
  unfold laws_szPieceS.f
  rw [wrap_id (by omega) (by omega)]
  split
  · exact ⟨_, rfl, .inl (by omega)⟩
  · exact ⟨_, rfl, .inr (by omega)⟩
theorem to_l (l : List S54) (hb : l.length ≤ 1048576) : ∀ (rest pre : List S54), l = pre ++ rest →
    Ev (fun k => laws_toPieceS.l0 k l (pre.map conv ++ List.replicate rest.length z50) ((pre.length : Nat) : Int)) (l.map conv) := by
  intro rest
  induction rest with
  | nil =>
    intro pre e
    refine Ev.step (fun k => by rw [laws_toPieceS.l0]) ?_
    simp only [ix_end e, if_false]
    exact Ev.ret (fun _ => by simp [e])
  | cons x rest ih =>
    intro pre e
    have h1 := ih (pre ++ [x]) (by simp [e])
    refine Ev.step (fun k => by rw [laws_toPieceS.l0]) ?_
    have hs : (pre.map conv ++ List.replicate (x :: rest).length z50).set ((pre.length : Nat) : Int).toNat (conv x) = (pre ++ [x]).map conv ++ List.replicate rest.length z50 := by
      simp only [List.length_cons, List.replicate_succ, Int.toNat_natCast, List.map_append, List.map_cons, List.map_nil]
      exact set_mid _ _ _ _ _ (by simp)
    have hl : ((pre.length : Nat) : Int) < (((pre.map conv ++ List.replicate (x :: rest).length z50).length : Nat) : Int) := by
      simp
      omega
    have hx : (⟨(rd_T54 l ((pre.length : Nat) : Int)).f0, (rd_T54 l ((pre.length : Nat) : Int)).f1⟩ : S50) = conv x := by
      unfold rd_T54
      rw [ix_get e]
      rfl
    simp only [ix_lt e, ix_nn, if_true, laws_toPiece.f, Option.bind_some, hl, hx, hs, ix_wrap e (by omega)]
    exact h1
theorem to_ev (l : List S54) (hb : l.length ≤ 1048576) : Ev (fun k => laws_toPieceS.f k l) (l.map conv) := by
  unfold laws_toPieceS.f
  have h0 : (0 : Int) ≤ ((l.length : Nat) : Int) := Int.natCast_nonneg _
  have h1 : l.length ≤ 17592186044416 := by omega
  simp only [h0, if_true, Int.toNat_natCast, h1]
  exact to_l l hb l [] rfl
theorem eq_l (l : List S50) (hb : l.length ≤ 1048576) : ∀ (rest pre : List S50), l = pre ++ rest → Ev (fun k => laws_eqPieceS.l0 k l l ((pre.length : Nat) : Int)) true := by
  intro rest
  induction rest with
  | nil =>
    intro pre e
    refine Ev.step (fun k => by rw [laws_eqPieceS.l0]) ?_
    simp only [ix_end e, if_false]
    exact Ev.now _
  | cons x rest ih =>
    intro pre e
    have h1 := ih (pre ++ [x]) (by simp [e])
    refine Ev.step (fun k => by rw [laws_eqPieceS.l0]) ?_
    simp only [ix_lt e, ix_nn, if_true, laws_eqPiece.f, Option.bind_some, bne_self_eq_false, Bool.false_eq_true, if_false, ix_wrap e (by omega)]
    exact h1
theorem eq_ev (l : List S50) (hb : l.length ≤ 1048576) : Ev (fun k => laws_eqPieceS.f k l l) true := by
  unfold laws_eqPieceS.f
  simp only [if_true]
  exact eq_l l hb l [] rfl

theorem l1In_eq (a b c : Int) : spec_l1In.f a b c = some (decide (b ≤ a ∧ a ≤ c)) := by
  unfold spec_l1In.f
  split
  · next h => simp [show b ≤ a from h]
  · next h => simp [show ¬ b ≤ a from h]

theorem within_eq (a b c : Int) : impl_within.f a b c = some (decide (b ≤ a ∧ a ≤ c)) := by
  unfold impl_within.f
  split
  · next h => simp [show b ≤ a from h]
  · next h => simp [show ¬ b ≤ a from h]

def gp (x : S50) : Bool := decide (1 ≤ x.f0 ∧ x.f0 ≤ 8) && decide (1 ≤ x.f1 ∧ x.f1 ≤ 8)
def goodp (l : List S50) : Bool := l.all gp && decide ((l.length : Int) ≤ 8)
theorem goodp_s (l : List S50) (hb : l.length ≤ 1048576) : ∀ (rest pre : List S50), l = pre ++ rest → Ev (fun k => spec_fuPieces.l0 k l l ((l.length : Nat) : Int) ((pre.length : Nat) : Int)) (rest.all gp && decide ((l.length : Int) ≤ 8)) := by
  intro rest
  induction rest with
  | nil =>
    intro pre e
    refine Ev.step (fun k => by rw [spec_fuPieces.l0]) ?_
    simp only [ix_end e, if_false]
    exact Ev.ret (fun _ => by simp)
  | cons x rest ih =>
    intro pre e
    have h1 := ih (pre ++ [x]) (by simp [e])
    refine Ev.step (fun k => by rw [spec_fuPieces.l0]) ?_
    have hx : rd_T50 l ((pre.length : Nat) : Int) = x := ix_get e
    simp only [ix_lt e, ix_nn, if_true, hx, spec_fuSize.f, l1In_eq, Option.bind_some, ix_wrap e (by omega)]
    by_cases c : 1 ≤ x.f0 ∧ x.f0 ≤ 8
    · by_cases c' : 1 ≤ x.f1 ∧ x.f1 ≤ 8
      · simp only [c, c', and_self, decide_true, if_true]
        have hg : gp x = true := by simp [gp, c, c']
        simpa [hg] using h1
      · simp only [c, c', and_self, decide_true, if_true, decide_false, Bool.false_eq_true, if_false]
        have hg : gp x = false := by simp [gp, c, c']
        exact Ev.ret (fun _ => by simp [hg])
    · simp only [c, decide_false, Bool.false_eq_true, if_false]
      have hg : gp x = false := by simp [gp, c]
      exact Ev.ret (fun _ => by simp [hg])
theorem goodp_i (l : List S50) (hb : l.length ≤ 1048576) : ∀ (rest pre : List S50), l = pre ++ rest → Ev (fun k => impl_ArePieces.l0 k l l ((l.length : Nat) : Int) ((pre.length : Nat) : Int)) (rest.all gp && decide ((l.length : Int) ≤ 8)) := by
  intro rest
  induction rest with
  | nil =>
    intro pre e
    refine Ev.step (fun k => by rw [impl_ArePieces.l0]) ?_
    simp only [ix_end e, if_false]
    exact Ev.ret (fun _ => by simp)
  | cons x rest ih =>
    intro pre e
    have h1 := ih (pre ++ [x]) (by simp [e])
    refine Ev.step (fun k => by rw [impl_ArePieces.l0]) ?_
    have hx : rd_T50 l ((pre.length : Nat) : Int) = x := ix_get e
    simp only [ix_lt e, ix_nn, if_true, hx, impl_isChaseSide.f, within_eq, Option.bind_some, ix_wrap e (by omega)]
    by_cases c : 1 ≤ x.f0 ∧ x.f0 ≤ 8
    · by_cases c' : 1 ≤ x.f1 ∧ x.f1 ≤ 8
      · simp only [c, c', and_self, decide_true, if_true]
        have hg : gp x = true := by simp [gp, c, c']
        simpa [hg] using h1
      · simp only [c, c', and_self, decide_true, if_true, decide_false, Bool.false_eq_true, if_false]
        have hg : gp x = false := by simp [gp, c, c']
        exact Ev.ret (fun _ => by simp [hg])
    · simp only [c, decide_false, Bool.false_eq_true, if_false]
      have hg : gp x = false := by simp [gp, c]
      exact Ev.ret (fun _ => by simp [hg])
theorem spec_goodp (l : List S50) (hb : l.length ≤ 1048576) : Ev (fun k => spec_fuPieces.f k l) (goodp l) := goodp_s l hb l [] rfl
theorem impl_goodp (l : List S50) (hb : l.length ≤ 1048576) : Ev (fun k => impl_ArePieces.f k l) (goodp l) := goodp_i l hb l [] rfl

theorem eqI_l (l : List Int) (hb : l.length ≤ 1048576) : ∀ (rest pre : List Int), l = pre ++ rest → Ev (fun k => laws_eqIntS.l0 k l l ((pre.length : Nat) : Int)) true := by
  intro rest
  induction rest with
  | nil =>
    intro pre e
    refine Ev.step (fun k => by rw [laws_eqIntS.l0]) ?_
    simp only [ix_end e, if_false]
    exact Ev.now _
  | cons x rest ih =>
    intro pre e
    have h1 := ih (pre ++ [x]) (by simp [e])
    refine Ev.step (fun k => by rw [laws_eqIntS.l0]) ?_
    simp only [ix_lt e, ix_nn, if_true, ix_wrap e (by omega)]
    exact h1
theorem eqI_ev (l : List Int) (hb : l.length ≤ 1048576) : Ev (fun k => laws_eqIntS.f k l l) true := by
  unfold laws_eqIntS.f
  simp only [if_true]
  exact eqI_l l hb l [] rfl
def ups : Nat → Int → List Int
  | 0, _ => []
  | n + 1, a => a :: ups n (a + 1)
theorem ups_len : ∀ (n : Nat) (a : Int), (ups n a).length = n
  | 0, _ => rfl
  | n + 1, a => by simp [ups, ups_len n (a + 1)]
theorem markI_l : ∀ (rest pre : List Int) (a : Int), (pre ++ rest).length ≤ 1048576 → 0 ≤ a → a + rest.length ≤ 4194304 →
    Ev (fun k => laws_markIntS.l0 k (pre ++ rest) a ((pre.length : Nat) : Int)) (a + rest.length, pre ++ ups rest.length a) := by
  intro rest
  induction rest with
  | nil =>
    intro pre a _ _ _
    refine Ev.step (fun k => by rw [laws_markIntS.l0]) ?_
    simp only [ix_end (rfl : pre ++ [] = pre ++ []), if_false]
    exact Ev.ret (fun _ => by simp [ups])
  | cons x rest ih =>
    intro pre a hb h0 h1
    have e : pre ++ x :: rest = pre ++ x :: rest := rfl
    have hs : (pre ++ x :: rest).set ((pre.length : Nat) : Int).toNat a = (pre ++ [a]) ++ rest := by
      rw [Int.toNat_natCast]
      exact set_mid _ _ _ _ _ rfl
    have hw : wrap64 (a + 1) = a + 1 := wrap_id (by omega) (by simp at h1; omega)
    have hw2 : wrap64 (((pre.length : Nat) : Int) + 1) = (((pre ++ [a]).length : Nat) : Int) := by
      simp at hb
      rw [wrap_id (by omega) (by omega)]
      simp
    have hi := ih (pre ++ [a]) (a + 1) (by simpa using hb) (by omega) (by simp at h1; omega)
    refine Ev.step (fun k => by rw [laws_markIntS.l0]) ?_
    simp only [ix_lt e, ix_nn, if_true, hs, hw, hw2]
    have e2 : (a + ((x :: rest).length : Nat), pre ++ ups (x :: rest).length a) = (a + 1 + (rest.length : Nat), pre ++ [a] ++ ups rest.length (a + 1)) := by
      simp [ups]
      omega
    rw [e2]
    exact hi
theorem markI_ev (l : List Int) (hb : l.length ≤ 1048576) : Ev (fun k => laws_markIntS.f k l 1) (1 + l.length, ups l.length 1) := markI_l l [] 1 hb (by omega) (by omega)
theorem heldI_l (l : List Int) (hb : l.length ≤ 1048576) : ∀ (n : Nat) (pre : List Int) (a : Int), l = pre ++ ups n a → 0 ≤ a → a + n ≤ 4194304 → Ev (fun k => laws_heldIntS.l0 k l a ((pre.length : Nat) : Int)) (a + n) := by
  intro n
  induction n with
  | zero =>
    intro pre a e _ _
    refine Ev.step (fun k => by rw [laws_heldIntS.l0]) ?_
    simp only [ix_end e, if_false]
    exact Ev.ret (fun _ => by simp)
  | succ n ih =>
    intro pre a e h0 h1
    rw [ups] at e
    have hx : rd l ((pre.length : Nat) : Int) = a := ix_get e
    have hw : wrap64 (a + 1) = a + 1 := wrap_id (by omega) (by omega)
    have hi := ih (pre ++ [a]) (a + 1) (by simp [e]) (by omega) (by omega)
    refine Ev.step (fun k => by rw [laws_heldIntS.l0]) ?_
    simp only [ix_lt e, ix_nn, if_true, hx, hw, ix_wrap e (by omega)]
    rw [show a + ((n + 1 : Nat) : Int) = a + 1 + (n : Int) by omega]
    exact hi
theorem heldI_ev (n : Nat) (hb : n ≤ 1048576) : Ev (fun k => laws_heldIntS.f k (ups n 1) 1) (1 + n) := heldI_l (ups n 1) (by rw [ups_len]; exact hb) n [] 1 rfl (by omega) (by omega)

/-! strictly increasing lists -/
theorem inc_ext : ∀ (a b : List Int), a.Pairwise (· < ·) → b.Pairwise (· < ·) → (∀ x, x ∈ a ↔ x ∈ b) → a = b
  | [], [], _, _, _ => rfl
  | [], y :: b, _, _, h => absurd ((h y).2 List.mem_cons_self) (by simp)
  | x :: a, [], _, _, h => absurd ((h x).1 List.mem_cons_self) (by simp)
  | x :: a, y :: b, ha, hb, h => by
    rw [List.pairwise_cons] at ha hb
    have hxy : x = y := by
      have h1 := (h x).1 List.mem_cons_self
      have h2 := (h y).2 List.mem_cons_self
      rcases List.mem_cons.1 h1 with h1 | h1
      · exact h1
      rcases List.mem_cons.1 h2 with h2 | h2
      · exact h2.symm
      have := ha.1 y h2
      have := hb.1 x h1
      omega
    subst hxy
    rw [inc_ext a b ha.2 hb.2 (fun z => ⟨fun hz => by
      have h1 := (h z).1 (List.mem_cons_of_mem _ hz)
      rcases List.mem_cons.1 h1 with rfl | h1
      · have := ha.1 _ hz; omega
      · exact h1, fun hz => by
      have h1 := (h z).2 (List.mem_cons_of_mem _ hz)
      rcases List.mem_cons.1 h1 with rfl | h1
      · have := hb.1 _ hz; omega
      · exact h1⟩)]
/-- A number put into an increasing list, unless it is there. -/
def putr : List Int → Int → List Int
  | [], n => [n]
  | x :: r, n => if x < n then x :: putr r n else if x = n then x :: r else n :: x :: r
theorem putr_mem (n y : Int) : ∀ l, y ∈ putr l n ↔ y = n ∨ y ∈ l
  | [] => by simp [putr]
  | x :: r => by
    unfold putr
    split
    · rw [List.mem_cons, putr_mem n y r, List.mem_cons]
      constructor
      · rintro (h | h | h)
        · exact .inr (.inl h)
        · exact .inl h
        · exact .inr (.inr h)
      · rintro (h | h | h)
        · exact .inr (.inl h)
        · exact .inl h
        · exact .inr (.inr h)
    · split
      · next h =>
        subst h
        rw [List.mem_cons]
        exact ⟨fun h => .inr h, fun h => h.elim .inl id⟩
      · rw [List.mem_cons]
theorem putr_len (n : Int) : ∀ l, (putr l n).length ≤ l.length + 1
  | [] => by simp [putr]
  | x :: r => by
    unfold putr
    split
    · have := putr_len n r
      simp
      omega
    · split <;> simp
theorem putr_inc (n : Int) : ∀ l : List Int, l.Pairwise (· < ·) → (putr l n).Pairwise (· < ·)
  | [], _ => by simp [putr]
  | x :: r, h => by
    rw [List.pairwise_cons] at h
    unfold putr
    split
    · next hx =>
      rw [List.pairwise_cons]
      refine ⟨fun y hy => ?_, putr_inc n r h.2⟩
      rcases (putr_mem n y r).1 hy with rfl | hy
      · exact hx
      · exact h.1 y hy
    · split
      · rw [List.pairwise_cons]
        exact h
      · next h1 h2 =>
        rw [List.pairwise_cons, List.pairwise_cons]
        refine ⟨fun y hy => ?_, h⟩
        rcases List.mem_cons.1 hy with rfl | hy
        · omega
        · have := h.1 y hy
          omega
theorem put_l (l : List Int) (n : Int) (hb : l.length ≤ 1048576) : ∀ (rest pre : List Int), l = pre ++ rest → Ev (fun k => spec_l1Put.l0 k l n ((pre.length : Nat) : Int)) (pre ++ putr rest n) := by
  intro rest
  induction rest with
  | nil =>
    intro pre e
    refine Ev.step (fun k => by rw [spec_l1Put.l0]) ?_
    have hl : l.length = pre.length := by rw [e]; simp
    have h1 : l.take pre.length = pre := by rw [e]; simp
    have h2 : l.drop pre.length = [] := by rw [e]; simp
    simp only [ix_end e, if_false, Option.bind_some, ix_nn, if_true, hl, Int.toNat_natCast, h1, h2, List.nil_append, List.append_nil, List.length_nil, List.length_append, List.length_cons, Int.le_refl, Nat.zero_add, Nat.add_zero]
    have a1 : pre.length < 17592186044416 := by omega
    have a2 : pre.length + 1 < 17592186044416 := by omega
    simp only [a1, a2, if_true]
    exact Ev.ret (fun _ => by simp [putr])
  | cons x rest ih =>
    intro pre e
    have h1 := ih (pre ++ [x]) (by simp [e])
    have hx : rd l ((pre.length : Nat) : Int) = x := ix_get e
    have hlt := ix_lt e
    refine Ev.step (fun k => by rw [spec_l1Put.l0]) ?_
    simp only [hlt, ix_nn, if_true, hx, ix_wrap e (by omega)]
    by_cases c : x < n
    · simp only [c, if_true]
      have e2 : pre ++ putr (x :: rest) n = pre ++ [x] ++ putr rest n := by simp [putr, c]
      rw [e2]
      exact h1
    · simp only [c, if_false]
      by_cases c2 : x = n
      · simp only [c2, if_true]
        exact Ev.ret (fun _ => by rw [e]; simp [putr, c2])
      · simp only [c2, if_false]
        have h1 : l.take pre.length = pre := by rw [e]; simp
        have h2 : l.drop pre.length = x :: rest := by rw [e]; simp
        have hle : ((pre.length : Nat) : Int) ≤ ((l.length : Nat) : Int) := by omega
        have hll : l.length = pre.length + (rest.length + 1) := by rw [e]; simp
        simp only [Option.bind_some, hle, ix_nn, if_true, Int.toNat_natCast, h1, h2, List.nil_append, List.length_nil, List.length_append, List.length_cons, Nat.zero_add, List.length_take]
        have a1 : pre.length < 17592186044416 := by omega
        have a2 : pre.length + 1 + (rest.length + 1) < 17592186044416 := by omega
        simp only [a1, a2, if_true]
        exact Ev.ret (fun _ => by simp [putr, c, c2])
theorem put_ev (l : List Int) (n : Int) (hb : l.length ≤ 1048576) : Ev (fun k => spec_l1Put.f k l n) (putr l n) := put_l l n hb l [] rfl

theorem markP_l : ∀ (n : Nat) (l : List S50) (i : Nat) (a : Int), i + n = l.length → l.length ≤ 1048576 → 0 ≤ a → a + 2 * n ≤ 4194304 → ∃ l', Ev (fun k => laws_markPieceS.l0 k l a (i : Int)) (a + 2 * n, l') := by
  intro n
  induction n with
  | zero =>
    intro l i a hi hb h0 h1
    refine ⟨l, Ev.step (fun k => by rw [laws_markPieceS.l0]) ?_⟩
    simp only [show ¬ (i : Int) < ((l.length : Nat) : Int) by omega, if_false]
    exact Ev.ret (fun _ => by simp)
  | succ n ih =>
    intro l i a hi hb h0 h1
    have w1 : wrap64 (a + 1) = a + 1 := wrap_id (by omega) (by omega)
    have w2 : wrap64 (a + 1 + 1) = a + 2 := by rw [wrap_id (by omega) (by omega)]; omega
    have w3 : wrap64 ((i : Int) + 1) = ((i + 1 : Nat) : Int) := by rw [wrap_id (by omega) (by omega)]; omega
    obtain ⟨l', h⟩ := ih ((l.set (i : Int).toNat ⟨a, (rd_T50 l (i : Int)).f1⟩).set (i : Int).toNat ⟨(rd_T50 (l.set (i : Int).toNat ⟨a, (rd_T50 l (i : Int)).f1⟩) (i : Int)).f0, a + 1⟩) (i + 1) (a + 2) (by simp; omega) (by simpa using hb) (by omega) (by omega)
    refine ⟨l', Ev.step (fun k => by rw [laws_markPieceS.l0]) ?_⟩
    simp only [show (i : Int) < ((l.length : Nat) : Int) by omega, show (0 : Int) ≤ (i : Int) by omega, if_true, Option.bind_some, w1, w2, w3]
    rw [show a + 2 * ((n + 1 : Nat) : Int) = a + 2 + 2 * (n : Int) by omega]
    exact h
theorem markP_ev (l : List S50) (hb : l.length ≤ 1048576) : ∃ l', Ev (fun k => laws_markPieceS.f k l 1) (1 + 2 * (l.length : Int), l') := markP_l l.length l 0 1 (by simp) hb (by omega) (by omega)

def inner (p : S50) (acc rest : List Int) : List Int := rest.foldl (fun s n => putr (putr s (wrap64 (n + p.f0))) (wrap64 (n + p.f1))) acc
def sums (l : List S50) (s : List Int) : List Int := l.foldl (fun s p => inner p s s) s
theorem inner_len (p : S50) : ∀ (rest acc : List Int), (inner p acc rest).length ≤ acc.length + 2 * rest.length
  | [], acc => by simp [inner]
  | n :: rest, acc => by
    have h := inner_len p rest (putr (putr acc (wrap64 (n + p.f0))) (wrap64 (n + p.f1)))
    have h1 := putr_len (wrap64 (n + p.f1)) (putr acc (wrap64 (n + p.f0)))
    have h2 := putr_len (wrap64 (n + p.f0)) acc
    simp only [inner, List.foldl_cons, List.length_cons] at h ⊢
    omega
theorem inner_inc (p : S50) : ∀ (rest acc : List Int), acc.Pairwise (· < ·) → (inner p acc rest).Pairwise (· < ·)
  | [], acc, h => h
  | n :: rest, acc, h => inner_inc p rest _ (putr_inc _ _ (putr_inc _ _ h))
theorem inner_mem (p : S50) (y : Int) : ∀ (rest acc : List Int), y ∈ inner p acc rest ↔ y ∈ acc ∨ ∃ n ∈ rest, y = wrap64 (n + p.f0) ∨ y = wrap64 (n + p.f1)
  | [], acc => by simp [inner]
  | n :: rest, acc => by
    have h := inner_mem p y rest (putr (putr acc (wrap64 (n + p.f0))) (wrap64 (n + p.f1)))
    show y ∈ inner p (putr (putr acc (wrap64 (n + p.f0))) (wrap64 (n + p.f1))) rest ↔ _
    rw [h, putr_mem, putr_mem]
    simp only [List.mem_cons, exists_eq_or_imp]
    constructor
    · rintro ((h | h | h) | h)
      · exact .inr (.inl (.inr h))
      · exact .inr (.inl (.inl h))
      · exact .inl h
      · exact .inr (.inr h)
    · rintro (h | (h | h) | h)
      · exact .inl (.inr (.inr h))
      · exact .inl (.inr (.inl h))
      · exact .inl (.inl h)
      · exact .inr h
theorem inner_step (p : S50) (s t : List Int) (h : ∀ y, y ∈ s ↔ y ∈ t) (y : Int) : y ∈ inner p s s ↔ y ∈ impl_SidesOf.step t p := by
  rw [inner_mem]
  unfold impl_SidesOf.step
  simp only [List.mem_flatMap, List.mem_cons, List.not_mem_nil, or_false]
  constructor
  · rintro (hy | ⟨n, hn, hy⟩)
    · exact ⟨y, (h y).1 hy, .inl rfl⟩
    · exact ⟨n, (h n).1 hn, .inr hy⟩
  · rintro ⟨n, hn, hy | hy⟩
    · exact .inl (by rw [hy]; exact (h n).2 hn)
    · exact .inr ⟨n, (h n).2 hn, hy⟩
theorem sums_spec : ∀ (l : List S50) (s t : List Int), s.Pairwise (· < ·) → (∀ y, y ∈ s ↔ y ∈ t) → (sums l s).Pairwise (· < ·) ∧ ∀ y, y ∈ sums l s ↔ y ∈ l.foldl impl_SidesOf.step t
  | [], s, t, h, e => ⟨h, e⟩
  | p :: l, s, t, h, e => sums_spec l (inner p s s) (impl_SidesOf.step t p) (inner_inc p s s h) (inner_step p s t e)
theorem sums_len : ∀ (l : List S50) (s : List Int), (sums l s).length ≤ 3 ^ l.length * s.length
  | [], s => by simp [sums]
  | p :: l, s => by
    have h := sums_len l (inner p s s)
    have h1 := inner_len p s s
    show (sums l (inner p s s)).length ≤ _
    refine Nat.le_trans h ?_
    rw [List.length_cons, Nat.pow_succ, Nat.mul_assoc]
    exact Nat.mul_le_mul_left _ (by omega)
theorem sums_nn : ∀ (l : List S50) (s : List Int) (b : Int), (∀ p ∈ l, gp p = true) → (∀ y ∈ s, 0 ≤ y ∧ y ≤ b) → b + 8 * l.length ≤ 1000 → 0 ≤ b → ∀ y ∈ sums l s, 0 ≤ y
  | [], s, b, _, hs, _, _, y, hy => (hs y hy).1
  | p :: l, s, b, hg, hs, hb, h0, y, hy => by
    have hp := hg p List.mem_cons_self
    simp only [gp, Bool.and_eq_true, decide_eq_true_eq] at hp
    simp only [List.length_cons] at hb
    refine sums_nn l (inner p s s) (b + 8) (fun q hq => hg q (List.mem_cons_of_mem _ hq)) (fun z hz => ?_) (by omega) (by omega) y hy
    rcases (inner_mem p z s s).1 hz with hz | ⟨n, hn, hz | hz⟩
    · have := hs z hz; omega
    · have := hs n hn
      rw [hz, wrap_id (by omega) (by omega)]
      omega
    · have := hs n hn
      rw [hz, wrap_id (by omega) (by omega)]
      omega
theorem l2_ev (a1 : Int) (s : List Int) (hb : s.length ≤ 1048576) : ∀ (rest pre acc : List Int), s = pre ++ rest → acc.length ≤ pre.length →
    Ev (fun k => spec_SidesOf.l2 k a1 acc s ((s.length : Nat) : Int) ((pre.length : Nat) : Int)) (acc ++ rest.filter (fun n => decide (n ≤ a1)), true) := by
  intro rest
  induction rest with
  | nil =>
    intro pre acc e _
    refine Ev.step (fun k => by rw [spec_SidesOf.l2]) ?_
    simp only [ix_end e, if_false]
    exact Ev.ret (fun _ => by simp)
  | cons x rest ih =>
    intro pre acc e ha
    have hx : rd s ((pre.length : Nat) : Int) = x := ix_get e
    have hlt := ix_lt e
    have hlen : acc.length < 17592186044416 := by omega
    refine Ev.step (fun k => by rw [spec_SidesOf.l2]) ?_
    simp only [hlt, ix_nn, if_true, hx, hlen, ix_wrap e (by omega)]
    by_cases c : x ≤ a1
    · simp only [c, if_true]
      have h1 := ih (pre ++ [x]) (acc ++ [x]) (by simp [e]) (by simp; omega)
      simpa [c] using h1
    · simp only [c, if_false]
      have h1 := ih (pre ++ [x]) acc (by simp [e]) (by simp; omega)
      simpa [c] using h1
theorem l1_ev (a1 : Int) (l : List S50) (j : Int) (p : S50) (s : List Int) (hb : s.length ≤ 8192) (r : List Int × Bool)
    (hr : Ev (fun k => spec_SidesOf.l0 k a1 (inner p s s) l ((l.length : Nat) : Int) (wrap64 (j + 1))) r) : ∀ (rest pre acc : List Int), s = pre ++ rest → acc.length ≤ s.length + 2 * pre.length → inner p acc rest = inner p s s →
    Ev (fun k => spec_SidesOf.l1 k a1 acc l ((l.length : Nat) : Int) j s ((s.length : Nat) : Int) ((pre.length : Nat) : Int) p.f0 p.f1) r := by
  intro rest
  induction rest with
  | nil =>
    intro pre acc e _ hi
    refine Ev.step (fun k => by rw [spec_SidesOf.l1]) ?_
    simp only [ix_end e, if_false]
    have : acc = inner p s s := hi
    rw [this]
    exact hr
  | cons x rest ih =>
    intro pre acc e ha hi
    have hx : rd s ((pre.length : Nat) : Int) = x := ix_get e
    have hlt := ix_lt e
    have hps : pre.length ≤ s.length := by omega
    have h1 := putr_len (wrap64 (x + p.f0)) acc
    have h2 := putr_len (wrap64 (x + p.f1)) (putr acc (wrap64 (x + p.f0)))
    refine Ev.step (fun k => by rw [spec_SidesOf.l1]) ?_
    simp only [hlt, ix_nn, if_true, hx, ix_wrap e (by omega)]
    refine Ev.bind (put_ev _ _ (by omega)) ?_
    refine Ev.bind (put_ev _ _ (by omega)) ?_
    exact ih (pre ++ [x]) _ (by simp [e]) (by simp; omega) hi
theorem l0_ev (a1 : Int) (l : List S50) (hl : l.length ≤ 8) : ∀ (rest pre : List S50) (s : List Int), l = pre ++ rest → s.length ≤ 3 ^ pre.length →
    Ev (fun k => spec_SidesOf.l0 k a1 s l ((l.length : Nat) : Int) ((pre.length : Nat) : Int)) ((sums rest s).filter (fun n => decide (n ≤ a1)), true) := by
  intro rest
  induction rest with
  | nil =>
    intro pre s e hs
    refine Ev.step (fun k => by rw [spec_SidesOf.l0]) ?_
    simp only [ix_end e, if_false]
    have h3 : 3 ^ pre.length ≤ 3 ^ 8 := Nat.pow_le_pow_right (by decide) (by rw [e] at hl; simpa using hl)
    have h4 : 3 ^ 8 = 6561 := by decide
    have := l2_ev a1 s (by omega) s [] [] rfl (by simp)
    simpa [sums] using this
  | cons p rest ih =>
    intro pre s e hs
    have hx : rd_T50 l ((pre.length : Nat) : Int) = p := ix_get e
    have hlt := ix_lt e
    have h3 : 3 ^ pre.length ≤ 3 ^ 7 := Nat.pow_le_pow_right (by decide) (by omega)
    have h4 : 3 ^ 7 = 2187 := by decide
    have hi := inner_len p s s
    have h1 := ih (pre ++ [p]) (inner p s s) (by simp [e]) (by simp [Nat.pow_succ]; omega)
    rw [← ix_wrap e (by omega)] at h1
    refine Ev.step (fun k => by rw [spec_SidesOf.l0]) ?_
    simp only [hlt, ix_nn, if_true, hx]
    have ho : spec_l1Own.f s = some s := by
      unfold spec_l1Own.f
      simp only [Option.bind_some, List.nil_append, List.length_nil, Nat.zero_add]
      rw [if_pos (by omega)]
    simp only [ho, Option.bind_some]
    exact l1_ev a1 l _ p s (by omega) _ h1 s [] s rfl (by simp) rfl
def ans (l : List S50) (a1 : Int) : List Int := ((List.range (a1.toNat + 1)).map (fun n : Nat => ((n : Nat) : Int))).filter (fun n => decide (n ∈ impl_SidesOf.sides l))
theorem range_inc (n : Nat) : ((List.range n).map (fun n : Nat => ((n : Nat) : Int))).Pairwise (· < ·) := by
  rw [List.pairwise_map]
  refine List.pairwise_lt_range.imp ?_
  intro a b h
  omega
theorem ans_eq (l : List S50) (a1 : Int) (h0 : 0 ≤ a1) (hg : goodp l = true) : (sums l [0]).filter (fun n => decide (n ≤ a1)) = ans l a1 := by
  simp only [goodp, Bool.and_eq_true, List.all_eq_true, decide_eq_true_eq] at hg
  obtain ⟨h1, h2⟩ := sums_spec l [0] [0] (by simp) (fun _ => Iff.rfl)
  unfold ans
  have h3 := sums_nn l [0] 0 hg.1 (fun y hy => by simp at hy; omega) (by omega) (by omega)
  refine inc_ext _ _ (h1.filter _) ((range_inc _).filter _) (fun y => ?_)
  simp only [List.mem_filter, List.mem_map, List.mem_range, decide_eq_true_eq]
  constructor
  · rintro ⟨hy, hle⟩
    have := h3 y hy
    exact ⟨⟨y.toNat, by omega, by omega⟩, (h2 y).1 hy⟩
  · rintro ⟨⟨n, hn, rfl⟩, hy⟩
    exact ⟨(h2 _).2 hy, by omega⟩
theorem ans_len (l : List S50) (a1 : Int) (h : a1 ≤ 64) : (ans l a1).length ≤ 1048576 := by
  have := List.length_filter_le (fun n => decide (n ∈ impl_SidesOf.sides l)) ((List.range (a1.toNat + 1)).map (fun n : Nat => ((n : Nat) : Int)))
  simp at this
  unfold ans
  omega
def res (l : List S50) (a1 : Int) : List Int × Bool := if goodp l = true ∧ 0 ≤ a1 ∧ a1 ≤ 64 then (ans l a1, true) else ([], false)
theorem spec_fn (l : List S50) (a1 : Int) (hm : l.length ≤ 1048576) : Ev (fun k => spec_SidesOf.f k l a1) (res l a1) := by
  unfold spec_SidesOf.f
  refine Ev.bind (spec_goodp _ hm) ?_
  unfold res
  cases hg : goodp l with
  | false =>
    simp only [Bool.false_eq_true, if_false, false_and]
    refine Ev.step (fun k => by rw [spec_SidesOf.j0]) ?_
    exact Ev.ret (fun _ => by simp)
  | true =>
    simp only [if_true, l1In_eq, Option.bind_some, true_and]
    refine Ev.step (fun k => by rw [spec_SidesOf.j0]) ?_
    by_cases c : 0 ≤ a1 ∧ a1 ≤ 64
    · have hl : l.length ≤ 8 := by
        have := hg
        simp only [goodp, Bool.and_eq_true, decide_eq_true_eq] at this
        omega
      have := l0_ev a1 l hl l [] [0] rfl (by simp)
      rw [ans_eq l a1 c.1 hg] at this
      simpa [c] using this
    · simp only [c, if_false, decide_false, Bool.not_false, if_true]
      exact Ev.ret (fun _ => rfl)
theorem impl_fn (l : List S50) (a1 : Int) (hm : l.length ≤ 1048576) : Ev (fun k => impl_SidesOf.f k l a1) (res l a1) := by
  unfold impl_SidesOf.f
  refine Ev.bind (impl_goodp _ hm) ?_
  unfold res
  cases hg : goodp l with
  | false => exact Ev.ret (fun _ => by simp)
  | true =>
    have hl : l.length ≤ 30 := by
      have := hg
      simp only [goodp, Bool.and_eq_true, decide_eq_true_eq] at this
      omega
    simp only [if_true, within_eq, Option.bind_some, true_and, hl]
    by_cases c : 0 ≤ a1 ∧ a1 ≤ 64
    · exact Ev.ret (fun _ => by simp [c, ans])
    · exact Ev.ret (fun _ => by simp [c])
theorem res_len (l : List S50) (a1 : Int) : (res l a1).1.length ≤ 1048576 := by
  unfold res
  split
  · next h => exact ans_len l a1 h.2.2
  · simp
theorem proved : Stmt.FnExactSidesOf := by
  intro l a hl _ _
  refine Ev.law (g := fun k => laws_FnExactSidesOf.f k l a) ?_
  unfold laws_FnExactSidesOf.f
  obtain ⟨s, hs, h⟩ := sz_ev l hl
  simp only [hs, Option.bind_some]
  rcases h with h | ⟨hb, h⟩
  · simp only [h, if_true]
    exact Ev.now _
  simp only [h, if_false]
  have hm : (l.map conv).length ≤ 1048576 := by simpa using hb
  have hr := spec_fn (l.map conv) a hm
  have hr' := impl_fn (l.map conv) a hm
  have hlen := res_len (l.map conv) a
  generalize res (l.map conv) a = r at hr hr' hlen
  obtain ⟨l', hq⟩ := markP_ev (l.map conv) hm
  refine Ev.bind (to_ev l hb) ?_
  refine Ev.bind hr ?_
  refine Ev.bind (to_ev l hb) ?_
  refine Ev.bind hr' ?_
  refine Ev.bind (eqI_ev _ hlen) ?_
  simp only [bne_self_eq_false, if_true]
  refine Ev.step (fun k => by rw [laws_FnExactSidesOf.j0]) ?_
  simp only [Bool.false_eq_true, if_false]
  refine Ev.bind (to_ev l hb) ?_
  refine Ev.bind (eq_ev _ hm) ?_
  simp only [if_true]
  refine Ev.bind hq ?_
  simp only [show ¬ 1 + 2 * (((l.map conv).length : Nat) : Int) < 0 by omega, if_false]
  refine Ev.bind (eqI_ev _ hlen) ?_
  simp only [bne_self_eq_false, if_true]
  refine Ev.step (fun k => by rw [laws_FnExactSidesOf.j1]) ?_
  simp only [Bool.false_eq_true, if_false]
  refine Ev.bind (markI_ev _ hlen) ?_
  refine Ev.bind (heldI_ev _ hlen) ?_
  simp only [show ¬ (1 + (r.1.length : Int)) < 0 by omega, if_false, if_true]
  refine Ev.bind (to_ev l hb) ?_
  refine Ev.bind hr' ?_
  refine Ev.bind (eqI_ev _ hlen) ?_
  simp only [bne_self_eq_false, if_true]
  refine Ev.step (fun k => by rw [laws_FnExactSidesOf.j2]) ?_
  simp only [Bool.false_eq_true, if_false]
  refine Ev.bind (heldI_ev _ hlen) ?_
  simp only [show ¬ (1 + (r.1.length : Int)) < 0 by omega, if_false, if_true]
  exact Ev.now _

end Go.Proofs.Ythpgmjlhakdemaa.PureFnExactSidesOf
