/- The law FnExactPlaceOfPage holds of the printed functions at every argument. No condition beyond what every readable argument meets. -/
import Derived.Test.YtlmgommigomcbaaStmtFnExactPlaceOfPage
import Derived.Test.YtlmgommigomcbaaBase
set_option linter.unusedSimpArgs false
set_option linter.unusedVariables false
namespace Go.Proofs.Ytlmgommigomcbaa.PureFnExactPlaceOfPage
open Go.Proofs.Ytlmgommigomcbaa.PFnExactPlaceOfPage Go.RowKit Go.Proofs.YtlmgommigomcbaaW.PrintWords Go.Proofs.YtlmgommigomcbaaW.PrintLast Go.Proofs.YtlmgommigomcbaaW.PrintMore

open Go.Proofs.Ytlmgommigomcbaa.Base
def conv (x : S47) : S45 := ⟨x.f0, x.f1⟩
theorem sz_ev (l : List S47) (h : l.length ≤ 9223372036854775807) : ∃ s, laws_szFoldS.f l 1048576 = some s ∧ (s < 0 ∨ l.length ≤ 1048576 ∧ ¬ s < 0) := by
  unfold laws_szFoldS.f
  rw [wrap_id (by omega) (by omega)]
  split
  · exact ⟨_, rfl, .inl (by omega)⟩
  · exact ⟨_, rfl, .inr (by omega)⟩
theorem to_l (l : List S47) (hb : l.length ≤ 1048576) : ∀ (rest pre : List S47), l = pre ++ rest →
    Ev (fun k => laws_toFoldS.l0 k l (pre.map conv ++ List.replicate rest.length z45) ((pre.length : Nat) : Int)) (l.map conv) := by
  intro rest
  induction rest with
  | nil =>
    intro pre e
    refine Ev.step (fun k => by rw [laws_toFoldS.l0]) ?_
    simp only [ix_end e, if_false]
    exact Ev.ret (fun _ => by simp [e])
  | cons x rest ih =>
    intro pre e
    have h1 := ih (pre ++ [x]) (by simp [e])
    refine Ev.step (fun k => by rw [laws_toFoldS.l0]) ?_
    have hs : (pre.map conv ++ List.replicate (x :: rest).length z45).set ((pre.length : Nat) : Int).toNat (conv x) = (pre ++ [x]).map conv ++ List.replicate rest.length z45 := by
      simp only [List.length_cons, List.replicate_succ, Int.toNat_natCast, List.map_append, List.map_cons, List.map_nil]
      exact set_mid _ _ _ _ _ (by simp)
    have hl : ((pre.length : Nat) : Int) < (((pre.map conv ++ List.replicate (x :: rest).length z45).length : Nat) : Int) := by
      simp
      omega
    have hx : (⟨(rd_T47 l ((pre.length : Nat) : Int)).f0, (rd_T47 l ((pre.length : Nat) : Int)).f1⟩ : S45) = conv x := by
      unfold rd_T47
      rw [ix_get e]
      rfl
    simp only [ix_lt e, ix_nn, if_true, laws_toFold.f, Option.bind_some, hl, hx, hs, ix_wrap e (by omega)]
    exact h1
theorem to_ev (l : List S47) (hb : l.length ≤ 1048576) : Ev (fun k => laws_toFoldS.f k l) (l.map conv) := by
  unfold laws_toFoldS.f
  have h0 : (0 : Int) ≤ ((l.length : Nat) : Int) := Int.natCast_nonneg _
  have h1 : l.length ≤ 17592186044416 := by omega
  simp only [h0, if_true, Int.toNat_natCast, h1]
  exact to_l l hb l [] rfl
theorem eq_l (l : List S45) (hb : l.length ≤ 1048576) : ∀ (rest pre : List S45), l = pre ++ rest → Ev (fun k => laws_eqFoldS.l0 k l l ((pre.length : Nat) : Int)) true := by
  intro rest
  induction rest with
  | nil =>
    intro pre e
    refine Ev.step (fun k => by rw [laws_eqFoldS.l0]) ?_
    simp only [ix_end e, if_false]
    exact Ev.now _
  | cons x rest ih =>
    intro pre e
    have h1 := ih (pre ++ [x]) (by simp [e])
    refine Ev.step (fun k => by rw [laws_eqFoldS.l0]) ?_
    simp only [ix_lt e, ix_nn, if_true, laws_eqFold.f, Option.bind_some, bne_self_eq_false, Bool.false_eq_true, if_false, ix_wrap e (by omega)]
    exact h1
theorem eq_ev (l : List S45) (hb : l.length ≤ 1048576) : Ev (fun k => laws_eqFoldS.f k l l) true := by
  unfold laws_eqFoldS.f
  simp only [if_true]
  exact eq_l l hb l [] rfl
theorem l1In_eq (a b c : Int) : spec_l1In.f a b c = some (decide (b ≤ a ∧ a ≤ c)) := by
  unfold spec_l1In.f
  split
  · next h => simp [show b ≤ a from h]
  · next h => simp [show ¬ b ≤ a from h]
def gd (x : S45) : Bool := decide (1 ≤ x.f0 ∧ x.f0 ≤ 2)
def good (l : List S45) : Bool := l.all gd && decide ((l.length : Int) ≤ 4)
theorem good_s (l : List S45) (hb : l.length ≤ 1048576) : ∀ (rest pre : List S45), l = pre ++ rest → Ev (fun k => spec_imGood.l0 k l l ((l.length : Nat) : Int) ((pre.length : Nat) : Int)) (rest.all gd && decide ((l.length : Int) ≤ 4)) := by
  intro rest
  induction rest with
  | nil =>
    intro pre e
    refine Ev.step (fun k => by rw [spec_imGood.l0]) ?_
    simp only [ix_end e, if_false]
    exact Ev.ret (fun _ => by simp)
  | cons x rest ih =>
    intro pre e
    have h1 := ih (pre ++ [x]) (by simp [e])
    refine Ev.step (fun k => by rw [spec_imGood.l0]) ?_
    have hx : rd_T45 l ((pre.length : Nat) : Int) = x := ix_get e
    simp only [ix_lt e, ix_nn, if_true, hx, l1In_eq, Option.bind_some, ix_wrap e (by omega)]
    by_cases c : 1 ≤ x.f0 ∧ x.f0 ≤ 2
    · simp only [c, and_self, decide_true, if_true]
      have hg : gd x = true := by simp [gd, c]
      simpa [hg] using h1
    · simp only [c, decide_false, Bool.false_eq_true, if_false]
      have hg : gd x = false := by simp [gd, c]
      exact Ev.ret (fun _ => by simp [hg])
theorem good_i (l : List S45) (hb : l.length ≤ 1048576) : ∀ (rest pre : List S45), l = pre ++ rest → Ev (fun k => impl_AreFolds.l0 k l l ((l.length : Nat) : Int) ((pre.length : Nat) : Int)) (rest.all gd && decide ((l.length : Int) ≤ 4)) := by
  intro rest
  induction rest with
  | nil =>
    intro pre e
    refine Ev.step (fun k => by rw [impl_AreFolds.l0]) ?_
    simp only [ix_end e, if_false]
    exact Ev.ret (fun _ => by simp)
  | cons x rest ih =>
    intro pre e
    have h1 := ih (pre ++ [x]) (by simp [e])
    refine Ev.step (fun k => by rw [impl_AreFolds.l0]) ?_
    have hx : rd_T45 l ((pre.length : Nat) : Int) = x := ix_get e
    simp only [ix_lt e, ix_nn, if_true, hx, ix_wrap e (by omega)]
    by_cases c1 : x.f0 = 1
    · have hg : gd x = true := by simp [gd, c1]
      simpa [hg, c1] using h1
    · by_cases c2 : x.f0 = 2
      · have hg : gd x = true := by simp [gd, c2]
        simpa [hg, c2] using h1
      · have hg : gd x = false := by
          simp only [gd, decide_eq_false_iff_not]
          omega
        simp only [c1, c2, if_false]
        exact Ev.ret (fun _ => by simp [hg])
theorem spec_good (l : List S45) (hb : l.length ≤ 1048576) : Ev (fun k => spec_imGood.f k l) (good l) := good_s l hb l [] rfl
theorem impl_good (l : List S45) (hb : l.length ≤ 1048576) : Ev (fun k => impl_AreFolds.f k l) (good l) := good_i l hb l [] rfl

theorem within_eq (a b c : Int) : impl_within.f a b c = some (decide (b ≤ a ∧ a ≤ c)) := by
  unfold impl_within.f
  split
  · next h => simp [show b ≤ a from h]
  · next h => simp [show ¬ b ≤ a from h]

def one : List S45 := [⟨1, false⟩, ⟨1, true⟩, ⟨2, false⟩, ⟨2, true⟩]
def allF : Nat → List (List S45)
  | 0 => [[]]
  | n + 1 => [] :: one.flatMap (fun x => (allF n).map (fun t => x :: t))
theorem gd_one (x : S45) (h : gd x = true) : x ∈ one := by
  obtain ⟨a, b⟩ := x
  have h1 : 1 ≤ a ∧ a ≤ 2 := of_decide_eq_true h
  have h2 : a = 1 ∨ a = 2 := by omega
  rcases h2 with rfl | rfl <;> cases b <;> simp [one]
theorem mem_allF : ∀ (n : Nat) (l : List S45), l.length ≤ n → l.all gd = true → l ∈ allF n
  | 0, l, h, _ => by
    have : l = [] := List.length_eq_zero_iff.1 (by omega)
    subst this
    simp [allF]
  | n + 1, [], _, _ => by simp [allF]
  | n + 1, x :: t, h, hg => by
    simp only [List.all_cons, Bool.and_eq_true] at hg
    have ih := mem_allF n t (by simpa using h) hg.2
    rw [allF]
    refine List.mem_cons_of_mem _ (List.mem_flatMap.2 ⟨x, gd_one x hg.1, ?_⟩)
    exact List.mem_map.2 ⟨t, ih, rfl⟩
theorem good_mem (l : List S45) (h : good l = true) : l ∈ allF 4 := by
  unfold good at h
  rw [Bool.and_eq_true] at h
  have h2 := of_decide_eq_true h.2
  exact mem_allF 4 l (by omega) h.1

def chkCount (l : List S45) : Bool :=
  match spec_imCount.f 200 l, impl_pageCount.f 200 l with
  | some a, some b => decide (a = b) && decide (2 ≤ a) && decide (a ≤ 32)
  | _, _ => false
theorem chkCount_all : (allF 4).all chkCount = true := by decide +kernel
theorem count_ex (l : List S45) (h : good l = true) : ∃ c : Int, Ev (fun k => spec_imCount.f k l) c ∧ Ev (fun k => impl_pageCount.f k l) c ∧ 2 ≤ c ∧ c ≤ 32 := by
  have h1 := List.all_eq_true.1 chkCount_all l (good_mem l h)
  unfold chkCount at h1
  split at h1
  · next a b ha hb =>
    simp only [Bool.and_eq_true, decide_eq_true_eq] at h1
    obtain ⟨⟨rfl, h2⟩, h3⟩ := h1
    exact ⟨a, Ev.of (fun k => spec_imCount.mono l k) ha, Ev.of (fun k => impl_pageCount.mono l k) hb, h2, h3⟩
  · exact absurd h1 (by simp)

theorem asked_s (l : List S45) (hm : l.length ≤ 1048576) (p c : Int) (hc : good l = true → Ev (fun k => spec_imCount.f k l) c) : Ev (fun k => spec_imAsked.f k l p) (good l && decide (1 ≤ p ∧ p ≤ c)) := by
  unfold spec_imAsked.f
  refine Ev.bind (spec_good l hm) ?_
  cases g : good l with
  | false => exact Ev.ret (fun _ => by simp)
  | true =>
    simp only [if_true]
    refine Ev.bind (hc g) ?_
    simp only [l1In_eq, Option.bind_some]
    exact Ev.ret (fun _ => by simp)
theorem asked_i (l : List S45) (hm : l.length ≤ 1048576) (p c : Int) (hc : good l = true → Ev (fun k => impl_pageCount.f k l) c) : Ev (fun k => impl_isPageOf.f k l p) (good l && decide (1 ≤ p ∧ p ≤ c)) := by
  unfold impl_isPageOf.f
  refine Ev.bind (impl_good l hm) ?_
  cases g : good l with
  | false => exact Ev.ret (fun _ => by simp)
  | true =>
    simp only [if_true]
    refine Ev.bind (hc g) ?_
    simp only [within_eq, Option.bind_some]
    exact Ev.ret (fun _ => by simp)

def chk (l : List S45) : Bool :=
  (List.range 32).all fun i =>
    match spec_PlaceOfPage.f 400 l ((i : Int) + 1), impl_PlaceOfPage.f 400 l ((i : Int) + 1) with
    | some a, some b => decide (a.1 = b.1) && decide (a.2.1 = b.2.1) && decide (a.2.2 = b.2.2)
    | _, _ => false
theorem chk_all : (allF 4).all chk = true := by decide +kernel
theorem fns (l : List S45) (hm : l.length ≤ 1048576) (p : Int) : ∃ r, Ev (fun k => spec_PlaceOfPage.f k l p) r ∧ Ev (fun k => impl_PlaceOfPage.f k l p) r := by
  have hcc : ∃ c : Int, c ≤ 32 ∧ (good l = true → (Ev (fun k => spec_imCount.f k l) c ∧ Ev (fun k => impl_pageCount.f k l) c)) := by
    cases g : good l with
    | false => exact ⟨0, by omega, fun h => by cases h⟩
    | true =>
      obtain ⟨c, h1, h2, _, h4⟩ := count_ex l g
      exact ⟨c, h4, fun _ => ⟨h1, h2⟩⟩
  obtain ⟨c, hc32, hc⟩ := hcc
  have hs := asked_s l hm p c (fun g => (hc g).1)
  have hi := asked_i l hm p c (fun g => (hc g).2)
  cases ha : (good l && decide (1 ≤ p ∧ p ≤ c)) with
  | false =>
    rw [ha] at hs hi
    refine ⟨(0, false, false), ?_, ?_⟩
    · unfold spec_PlaceOfPage.f
      exact Ev.bind hs (Ev.ret (fun _ => by simp))
    · unfold impl_PlaceOfPage.f
      exact Ev.bind hi (Ev.ret (fun _ => by simp))
  | true =>
    rw [Bool.and_eq_true] at ha
    have hp := of_decide_eq_true ha.2
    have h1 := List.all_eq_true.1 chk_all l (good_mem l ha.1)
    unfold chk at h1
    have h2 := List.all_eq_true.1 h1 (p - 1).toNat (List.mem_range.2 (by omega))
    have e : (((p - 1).toNat : Nat) : Int) + 1 = p := by omega
    rw [e] at h2
    split at h2
    · next a b hx hy =>
      simp only [Bool.and_eq_true, decide_eq_true_eq] at h2
      obtain ⟨⟨h3, h4⟩, h5⟩ := h2
      have hab : a = b := Prod.ext h3 (Prod.ext h4 h5)
      subst hab
      exact ⟨a, Ev.of (fun k => spec_PlaceOfPage.mono l p k) hx, Ev.of (fun k => impl_PlaceOfPage.mono l p k) hy⟩
    · exact absurd h2 (by simp)
theorem proved : Stmt.FnExactPlaceOfPage := by
  intro l p hl _ _
  refine Ev.law (g := fun k => laws_FnExactPlaceOfPage.f k l p) ?_
  unfold laws_FnExactPlaceOfPage.f
  obtain ⟨s, hs, h'⟩ := sz_ev l hl
  simp only [hs, Option.bind_some]
  rcases h' with h' | ⟨hb, h'⟩
  · simp only [h', if_true]
    exact Ev.now _
  simp only [h', if_false]
  have hm : (l.map conv).length ≤ 1048576 := by simpa using hb
  obtain ⟨r, hr, hr'⟩ := fns (l.map conv) hm p
  refine Ev.bind (to_ev l hb) ?_
  refine Ev.bind hr ?_
  refine Ev.bind (to_ev l hb) ?_
  refine Ev.bind hr' ?_
  simp only [bne_self_eq_false, if_true, Bool.false_eq_true, if_false]
  refine Ev.step (fun k => by rw [laws_FnExactPlaceOfPage.j0]) ?_
  simp only [Bool.false_eq_true, if_false]
  refine Ev.bind (to_ev l hb) ?_
  refine Ev.bind (eq_ev _ hm) ?_
  exact Ev.ret (fun _ => by simp)

end Go.Proofs.Ytlmgommigomcbaa.PureFnExactPlaceOfPage
