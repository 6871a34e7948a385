/- The law FnExactPagesOnBack holds of the printed functions at every argument. No condition beyond what every readable argument meets. -/
import Derived.Test.YtlmgommigomcbaaStmtFnExactPagesOnBack
import Derived.Test.YtlmgommigomcbaaBase
set_option linter.unusedSimpArgs false
set_option linter.unusedVariables false
namespace Go.Proofs.Ytlmgommigomcbaa.PureFnExactPagesOnBack
open Go.Proofs.Ytlmgommigomcbaa.PFnExactPagesOnBack Go.RowKit Go.Proofs.YtlmgommigomcbaaW.PrintWords Go.Proofs.YtlmgommigomcbaaW.PrintLast Go.Proofs.YtlmgommigomcbaaW.PrintMore

open Go.Proofs.Ytlmgommigomcbaa.Base
def conv (x : S47) : S45 := ⟨x.f0, x.f1⟩
theorem sz_ev (l : List S47) (h : l.length ≤ 9223372036854775807) : ∃ s, laws_szFoldS.f l 1048576 = some s ∧ (s < 0 ∨ l.length ≤ 1048576 ∧ ¬ s < 0) := by
  unfold laws_szFoldS.f
  rw [wrap_id (by omega) (by omega)]
  split
  · exact ⟨_, rfl, .inl (by omega)⟩
  · exact ⟨_, rfl, .inr (by omega)⟩
theorem to_l (l : List S47) (hb : l.length ≤ 1048576) : ∀ (rest pre : List S47), l = pre ++ rest →
    Ev (fun k => laws_toFoldS.l0 k l (pre.map conv ++ List.replicate rest.length z45) ((pre.length : Nat) : Int)) (l.map conv) := by
  intro rest
  induction rest with
  | nil =>
    intro pre e
    refine Ev.step (fun k => by rw [laws_toFoldS.l0]) ?_
    simp only [ix_end e, if_false]
    exact Ev.ret (fun _ => by simp [e])
  | cons x rest ih =>
    intro pre e
    have h1 := ih (pre ++ [x]) (by simp [e])
    refine Ev.step (fun k => by rw [laws_toFoldS.l0]) ?_
    have hs : (pre.map conv ++ List.replicate (x :: rest).length z45).set ((pre.length : Nat) : Int).toNat (conv x) = (pre ++ [x]).map conv ++ List.replicate rest.length z45 := by
      simp only [List.length_cons, List.replicate_succ, Int.toNat_natCast, List.map_append, List.map_cons, List.map_nil]
      exact set_mid _ _ _ _ _ (by simp)
    have hl : ((pre.length : Nat) : Int) < (((pre.map conv ++ List.replicate (x :: rest).length z45).length : Nat) : Int) := by
      simp
      omega
    have hx : (⟨(rd_T47 l ((pre.length : Nat) : Int)).f0, (rd_T47 l ((pre.length : Nat) : Int)).f1⟩ : S45) = conv x := by
      unfold rd_T47
      rw [ix_get e]
      rfl
    simp only [ix_lt e, ix_nn, if_true, laws_toFold.f, Option.bind_some, hl, hx, hs, ix_wrap e (by omega)]
    exact h1
theorem to_ev (l : List S47) (hb : l.length ≤ 1048576) : Ev (fun k => laws_toFoldS.f k l) (l.map conv) := by
  unfold laws_toFoldS.f
  have h0 : (0 : Int) ≤ ((l.length : Nat) : Int) := Int.natCast_nonneg _
  have h1 : l.length ≤ 17592186044416 := by omega
  simp only [h0, if_true, Int.toNat_natCast, h1]
  exact to_l l hb l [] rfl
theorem eq_l (l : List S45) (hb : l.length ≤ 1048576) : ∀ (rest pre : List S45), l = pre ++ rest → Ev (fun k => laws_eqFoldS.l0 k l l ((pre.length : Nat) : Int)) true := by
  intro rest
  induction rest with
  | nil =>
    intro pre e
    refine Ev.step (fun k => by rw [laws_eqFoldS.l0]) ?_
    simp only [ix_end e, if_false]
    exact Ev.now _
  | cons x rest ih =>
    intro pre e
    have h1 := ih (pre ++ [x]) (by simp [e])
    refine Ev.step (fun k => by rw [laws_eqFoldS.l0]) ?_
    simp only [ix_lt e, ix_nn, if_true, laws_eqFold.f, Option.bind_some, bne_self_eq_false, Bool.false_eq_true, if_false, ix_wrap e (by omega)]
    exact h1
theorem eq_ev (l : List S45) (hb : l.length ≤ 1048576) : Ev (fun k => laws_eqFoldS.f k l l) true := by
  unfold laws_eqFoldS.f
  simp only [if_true]
  exact eq_l l hb l [] rfl
theorem l1In_eq (a b c : Int) : spec_l1In.f a b c = some (decide (b ≤ a ∧ a ≤ c)) := by
  unfold spec_l1In.f
  split
  · next h => simp [show b ≤ a from h]
  · next h => simp [show ¬ b ≤ a from h]
def gd (x : S45) : Bool := decide (1 ≤ x.f0 ∧ x.f0 ≤ 2)
def good (l : List S45) : Bool := l.all gd && decide ((l.length : Int) ≤ 4)
theorem good_s (l : List S45) (hb : l.length ≤ 1048576) : ∀ (rest pre : List S45), l = pre ++ rest → Ev (fun k => spec_imGood.l0 k l l ((l.length : Nat) : Int) ((pre.length : Nat) : Int)) (rest.all gd && decide ((l.length : Int) ≤ 4)) := by
  intro rest
  induction rest with
  | nil =>
    intro pre e
    refine Ev.step (fun k => by rw [spec_imGood.l0]) ?_
    simp only [ix_end e, if_false]
    exact Ev.ret (fun _ => by simp)
  | cons x rest ih =>
    intro pre e
    have h1 := ih (pre ++ [x]) (by simp [e])
    refine Ev.step (fun k => by rw [spec_imGood.l0]) ?_
    have hx : rd_T45 l ((pre.length : Nat) : Int) = x := ix_get e
    simp only [ix_lt e, ix_nn, if_true, hx, l1In_eq, Option.bind_some, ix_wrap e (by omega)]
    by_cases c : 1 ≤ x.f0 ∧ x.f0 ≤ 2
    · simp only [c, and_self, decide_true, if_true]
      have hg : gd x = true := by simp [gd, c]
      simpa [hg] using h1
    · simp only [c, decide_false, Bool.false_eq_true, if_false]
      have hg : gd x = false := by simp [gd, c]
      exact Ev.ret (fun _ => by simp [hg])
theorem good_i (l : List S45) (hb : l.length ≤ 1048576) : ∀ (rest pre : List S45), l = pre ++ rest → Ev (fun k => impl_AreFolds.l0 k l l ((l.length : Nat) : Int) ((pre.length : Nat) : Int)) (rest.all gd && decide ((l.length : Int) ≤ 4)) := by
  intro rest
  induction rest with
  | nil =>
    intro pre e
    refine Ev.step (fun k => by rw [impl_AreFolds.l0]) ?_
    simp only [ix_end e, if_false]
    exact Ev.ret (fun _ => by simp)
  | cons x rest ih =>
    intro pre e
    have h1 := ih (pre ++ [x]) (by simp [e])
    refine Ev.step (fun k => by rw [impl_AreFolds.l0]) ?_
    have hx : rd_T45 l ((pre.length : Nat) : Int) = x := ix_get e
    simp only [ix_lt e, ix_nn, if_true, hx, ix_wrap e (by omega)]
    by_cases c1 : x.f0 = 1
    · have hg : gd x = true := by simp [gd, c1]
      simpa [hg, c1] using h1
    · by_cases c2 : x.f0 = 2
      · have hg : gd x = true := by simp [gd, c2]
        simpa [hg, c2] using h1
      · have hg : gd x = false := by
          simp only [gd, decide_eq_false_iff_not]
          omega
        simp only [c1, c2, if_false]
        exact Ev.ret (fun _ => by simp [hg])
theorem spec_good (l : List S45) (hb : l.length ≤ 1048576) : Ev (fun k => spec_imGood.f k l) (good l) := good_s l hb l [] rfl
theorem impl_good (l : List S45) (hb : l.length ≤ 1048576) : Ev (fun k => impl_AreFolds.f k l) (good l) := good_i l hb l [] rfl

def one : List S45 := [⟨1, false⟩, ⟨1, true⟩, ⟨2, false⟩, ⟨2, true⟩]
def allF : Nat → List (List S45)
  | 0 => [[]]
  | n + 1 => [] :: one.flatMap (fun x => (allF n).map (fun t => x :: t))
theorem gd_one (x : S45) (h : gd x = true) : x ∈ one := by
  obtain ⟨a, b⟩ := x
  have h1 : 1 ≤ a ∧ a ≤ 2 := of_decide_eq_true h
  have h2 : a = 1 ∨ a = 2 := by omega
  rcases h2 with rfl | rfl <;> cases b <;> simp [one]
theorem mem_allF : ∀ (n : Nat) (l : List S45), l.length ≤ n → l.all gd = true → l ∈ allF n
  | 0, l, h, _ => by
    have : l = [] := List.length_eq_zero_iff.1 (by omega)
    subst this
    simp [allF]
  | n + 1, [], _, _ => by simp [allF]
  | n + 1, x :: t, h, hg => by
    simp only [List.all_cons, Bool.and_eq_true] at hg
    have ih := mem_allF n t (by simpa using h) hg.2
    rw [allF]
    refine List.mem_cons_of_mem _ (List.mem_flatMap.2 ⟨x, gd_one x hg.1, ?_⟩)
    exact List.mem_map.2 ⟨t, ih, rfl⟩
theorem good_mem (l : List S45) (h : good l = true) : l ∈ allF 4 := by
  unfold good at h
  rw [Bool.and_eq_true] at h
  have h2 := of_decide_eq_true h.2
  exact mem_allF 4 l (by omega) h.1

theorem eqI_l (l : List Int) (hb : l.length ≤ 1048576) : ∀ (rest pre : List Int), l = pre ++ rest → Ev (fun k => laws_eqIntS.l0 k l l ((pre.length : Nat) : Int)) true := by
  intro rest
  induction rest with
  | nil =>
    intro pre e
    refine Ev.step (fun k => by rw [laws_eqIntS.l0]) ?_
    simp only [ix_end e, if_false]
    exact Ev.now _
  | cons x rest ih =>
    intro pre e
    have h1 := ih (pre ++ [x]) (by simp [e])
    refine Ev.step (fun k => by rw [laws_eqIntS.l0]) ?_
    simp only [ix_lt e, ix_nn, if_true, ix_wrap e (by omega)]
    exact h1
theorem eqI_ev (l : List Int) (hb : l.length ≤ 1048576) : Ev (fun k => laws_eqIntS.f k l l) true := by
  unfold laws_eqIntS.f
  simp only [if_true]
  exact eqI_l l hb l [] rfl
def ups : Nat → Int → List Int
  | 0, _ => []
  | n + 1, a => a :: ups n (a + 1)
theorem ups_len : ∀ (n : Nat) (a : Int), (ups n a).length = n
  | 0, _ => rfl
  | n + 1, a => by simp [ups, ups_len n (a + 1)]
theorem markI_l : ∀ (rest pre : List Int) (a : Int), (pre ++ rest).length ≤ 1048576 → 0 ≤ a → a + rest.length ≤ 4194304 →
    Ev (fun k => laws_markIntS.l0 k (pre ++ rest) a ((pre.length : Nat) : Int)) (a + rest.length, pre ++ ups rest.length a) := by
  intro rest
  induction rest with
  | nil =>
    intro pre a _ _ _
    refine Ev.step (fun k => by rw [laws_markIntS.l0]) ?_
    simp only [ix_end (rfl : pre ++ [] = pre ++ []), if_false]
    exact Ev.ret (fun _ => by simp [ups])
  | cons x rest ih =>
    intro pre a hb h0 h1
    have e : pre ++ x :: rest = pre ++ x :: rest := rfl
    have hs : (pre ++ x :: rest).set ((pre.length : Nat) : Int).toNat a = (pre ++ [a]) ++ rest := by
      rw [Int.toNat_natCast]
      exact set_mid _ _ _ _ _ rfl
    have hw : wrap64 (a + 1) = a + 1 := wrap_id (by omega) (by simp at h1; omega)
    have hw2 : wrap64 (((pre.length : Nat) : Int) + 1) = (((pre ++ [a]).length : Nat) : Int) := by
      simp at hb
      rw [wrap_id (by omega) (by omega)]
      simp
    have hi := ih (pre ++ [a]) (a + 1) (by simpa using hb) (by omega) (by simp at h1; omega)
    refine Ev.step (fun k => by rw [laws_markIntS.l0]) ?_
    simp only [ix_lt e, ix_nn, if_true, hs, hw, hw2]
    have e2 : (a + ((x :: rest).length : Nat), pre ++ ups (x :: rest).length a) = (a + 1 + (rest.length : Nat), pre ++ [a] ++ ups rest.length (a + 1)) := by
      simp [ups]
      omega
    rw [e2]
    exact hi
theorem markI_ev (l : List Int) (hb : l.length ≤ 1048576) : Ev (fun k => laws_markIntS.f k l 1) (1 + l.length, ups l.length 1) := markI_l l [] 1 hb (by omega) (by omega)
theorem heldI_l (l : List Int) (hb : l.length ≤ 1048576) : ∀ (n : Nat) (pre : List Int) (a : Int), l = pre ++ ups n a → 0 ≤ a → a + n ≤ 4194304 → Ev (fun k => laws_heldIntS.l0 k l a ((pre.length : Nat) : Int)) (a + n) := by
  intro n
  induction n with
  | zero =>
    intro pre a e _ _
    refine Ev.step (fun k => by rw [laws_heldIntS.l0]) ?_
    simp only [ix_end e, if_false]
    exact Ev.ret (fun _ => by simp)
  | succ n ih =>
    intro pre a e h0 h1
    rw [ups] at e
    have hx : rd l ((pre.length : Nat) : Int) = a := ix_get e
    have hw : wrap64 (a + 1) = a + 1 := wrap_id (by omega) (by omega)
    have hi := ih (pre ++ [a]) (a + 1) (by simp [e]) (by omega) (by omega)
    refine Ev.step (fun k => by rw [laws_heldIntS.l0]) ?_
    simp only [ix_lt e, ix_nn, if_true, hx, hw, ix_wrap e (by omega)]
    rw [show a + ((n + 1 : Nat) : Int) = a + 1 + (n : Int) by omega]
    exact hi
theorem heldI_ev (n : Nat) (hb : n ≤ 1048576) : Ev (fun k => laws_heldIntS.f k (ups n 1) 1) (1 + n) := heldI_l (ups n 1) (by rw [ups_len]; exact hb) n [] 1 rfl (by omega) (by omega)

theorem markF_l (n : Nat) (hn : n ≤ 1048576) : ∀ (d i : Nat) (l : List S45) (a : Int), l.length = n → i + d = n → 0 ≤ a → a + 2 * d ≤ 8388608 → ∃ y, Ev (fun k => laws_markFoldS.l0 k l a ((i : Nat) : Int)) (a + 2 * d, y) := by
  intro d
  induction d with
  | zero =>
    intro i l a hl hi _ _
    refine ⟨l, Ev.step (fun k => by rw [laws_markFoldS.l0]) ?_⟩
    simp only [show ¬ ((i : Nat) : Int) < ((l.length : Nat) : Int) by omega, if_false]
    exact Ev.ret (fun _ => by simp)
  | succ d ih =>
    intro i l a hl hi h0 h1
    have c1 : ((i : Nat) : Int) < ((l.length : Nat) : Int) := by omega
    have c2 : (0 : Int) ≤ ((i : Nat) : Int) := by omega
    have w1 : wrap64 (a + 1) = a + 1 := wrap_id (by omega) (by omega)
    have w2 : wrap64 (a + 1 + 1) = a + 2 := by
      rw [wrap_id (by omega) (by omega)]
      omega
    have w3 : wrap64 (((i : Nat) : Int) + 1) = ((i + 1 : Nat) : Int) := by
      rw [wrap_id (by omega) (by omega)]
      omega
    have key : ∀ l' : List S45, l'.length = n → ∃ y, Ev (fun k => laws_markFoldS.l0 k l' (a + 2) ((i + 1 : Nat) : Int)) (a + 2 * ((d + 1 : Nat) : Int), y) := fun l' h' => by
      obtain ⟨y, hy⟩ := ih (i + 1) l' (a + 2) h' (by omega) (by omega) (by omega)
      refine ⟨y, ?_⟩
      rw [show a + 2 * ((d + 1 : Nat) : Int) = a + 2 + 2 * (d : Int) by omega]
      exact hy
    obtain ⟨y, hy⟩ := key ((l.set ((i : Nat) : Int).toNat (⟨a, (rd_T45 l ((i : Nat) : Int)).f1⟩ : S45)).set ((i : Nat) : Int).toNat (⟨(rd_T45 (l.set ((i : Nat) : Int).toNat (⟨a, (rd_T45 l ((i : Nat) : Int)).f1⟩ : S45)) ((i : Nat) : Int)).f0, ((Int.tmod (a + 1) 3) == 0)⟩ : S45)) (by simp [hl])
    refine ⟨y, Ev.step (fun k => by rw [laws_markFoldS.l0]) ?_⟩
    simp only [c1, c2, if_true, w1, w2, w3, Option.bind_some]
    exact hy
theorem markF_ev (l : List S45) (hb : l.length ≤ 1048576) : ∃ r y, Ev (fun k => laws_markFoldS.f k l 1) (r, y) ∧ ¬ r < 0 := by
  obtain ⟨y, hy⟩ := markF_l l.length hb l.length 0 l 1 rfl (by omega) (by omega) (by omega)
  exact ⟨_, y, hy, by omega⟩

def chk (l : List S45) : Bool :=
  match spec_PagesOnBack.f 400 l, impl_PagesOnBack.f 400 l with
  | some a, some b => decide (a.1 = b.1) && decide (a.2 = b.2) && decide (a.1.length ≤ 64)
  | _, _ => false
theorem chk_all : (allF 4).all chk = true := by decide +kernel
theorem fn_ex (l : List S45) (hm : l.length ≤ 1048576) : ∃ r : List Int × Bool, r.1.length ≤ 1048576 ∧ Ev (fun k => spec_PagesOnBack.f k l) r ∧ Ev (fun k => impl_PagesOnBack.f k l) r := by
  cases g : good l with
  | true =>
    have h1 := List.all_eq_true.1 chk_all l (good_mem l g)
    unfold chk at h1
    split at h1
    · next a b ha hb =>
      simp only [Bool.and_eq_true, decide_eq_true_eq] at h1
      obtain ⟨⟨h2, h3⟩, h4⟩ := h1
      have hab : a = b := Prod.ext h2 (by rw [h3])
      subst hab
      exact ⟨a, by omega, Ev.of (fun k => spec_PagesOnBack.mono l k) ha, Ev.of (fun k => impl_PagesOnBack.mono l k) hb⟩
    · exact absurd h1 (by simp)
  | false =>
    refine ⟨([], false), by simp, ?_, ?_⟩
    · unfold spec_PagesOnBack.f
      refine Ev.bind (spec_good l hm) ?_
      exact Ev.ret (fun _ => by simp [g])
    · unfold impl_PagesOnBack.f
      refine Ev.bind (impl_good l hm) ?_
      exact Ev.ret (fun _ => by simp [g])
theorem proved : Stmt.FnExactPagesOnBack := by
  intro l hl _
  refine Ev.law (g := fun k => laws_FnExactPagesOnBack.f k l) ?_
  unfold laws_FnExactPagesOnBack.f
  obtain ⟨s, hs, h'⟩ := sz_ev l hl
  simp only [hs, Option.bind_some]
  rcases h' with h' | ⟨hb, h'⟩
  · simp only [h', if_true]
    exact Ev.now _
  simp only [h', if_false]
  have hm : (l.map conv).length ≤ 1048576 := by simpa using hb
  obtain ⟨r, hlen, hr, hr'⟩ := fn_ex (l.map conv) hm
  obtain ⟨q, y, hmk, hq⟩ := markF_ev (l.map conv) hm
  refine Ev.bind (to_ev l hb) ?_
  refine Ev.bind hr ?_
  refine Ev.bind (to_ev l hb) ?_
  refine Ev.bind hr' ?_
  refine Ev.bind (eqI_ev _ hlen) ?_
  simp only [bne_self_eq_false, if_true]
  refine Ev.step (fun k => by rw [laws_FnExactPagesOnBack.j0]) ?_
  simp only [Bool.false_eq_true, if_false]
  refine Ev.bind (to_ev l hb) ?_
  refine Ev.bind (eq_ev _ hm) ?_
  simp only [if_true]
  refine Ev.bind hmk ?_
  simp only [hq, if_false]
  refine Ev.bind (eqI_ev _ hlen) ?_
  simp only [bne_self_eq_false, if_true]
  refine Ev.step (fun k => by rw [laws_FnExactPagesOnBack.j1]) ?_
  simp only [Bool.false_eq_true, if_false]
  refine Ev.bind (markI_ev _ hlen) ?_
  refine Ev.bind (heldI_ev _ hlen) ?_
  simp only [show ¬ (1 + (r.1.length : Int)) < 0 by omega, if_false, if_true]
  refine Ev.bind (to_ev l hb) ?_
  refine Ev.bind hr' ?_
  refine Ev.bind (eqI_ev _ hlen) ?_
  simp only [bne_self_eq_false, if_true]
  refine Ev.step (fun k => by rw [laws_FnExactPagesOnBack.j2]) ?_
  simp only [Bool.false_eq_true, if_false]
  refine Ev.bind (heldI_ev _ hlen) ?_
  simp only [show ¬ (1 + (r.1.length : Int)) < 0 by omega, if_false, if_true]
  exact Ev.now _

end Go.Proofs.Ytlmgommigomcbaa.PureFnExactPagesOnBack
