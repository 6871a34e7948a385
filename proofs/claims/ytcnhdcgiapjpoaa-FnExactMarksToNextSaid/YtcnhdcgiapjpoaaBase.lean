/- Shared lemmas on lists, indices and rounds for this seat's pure proofs. No condition. -/
import Derived.Test.YtcnhdcgiapjpoaaWWords
namespace Go.Proofs.Ytcnhdcgiapjpoaa.Base
open Go.RowKit Go.Proofs.YtcnhdcgiapjpoaaW.PrintWords

theorem ix_lt {α : Type} {l pre rest : List α} {x : α} (e : l = pre ++ x :: rest) : ((pre.length : Nat) : Int) < ((l.length : Nat) : Int) := by
  subst e
  simp
  omega
theorem ix_nn {α : Type} (pre : List α) : (0 : Int) ≤ ((pre.length : Nat) : Int) := Int.natCast_nonneg _
theorem ix_end {α : Type} {l pre : List α} (e : l = pre ++ []) : ¬ ((pre.length : Nat) : Int) < ((l.length : Nat) : Int) := by
  subst e
  simp
theorem wrap_id {i : Int} (h0 : -9223372036854775808 ≤ i) (h1 : i ≤ 9223372036854775807) : wrap64 i = i := by
  unfold wrap64
  omega
theorem ix_wrap {α : Type} {l pre rest : List α} {x : α} (e : l = pre ++ x :: rest) (hb : l.length ≤ 1152921504606846976) : wrap64 (((pre.length : Nat) : Int) + 1) = (((pre ++ [x]).length : Nat) : Int) := by
  subst e
  simp at hb ⊢
  exact wrap_id (by omega) (by omega)
theorem ix_get {α : Type} {l pre rest : List α} {x z : α} (e : l = pre ++ x :: rest) : l.getD ((pre.length : Nat) : Int).toNat z = x := by
  subst e
  simp
theorem set_mid {α : Type} (a r : List α) (z v : α) (n : Nat) (hn : a.length = n) : (a ++ z :: r).set n v = (a ++ [v]) ++ r := by
  subst hn
  simp

theorem Ev.ret {α : Type} {g : Nat → Option α} {r : α} (h : ∀ k, g k = some r) : Ev g r := ⟨0, fun k _ => h k⟩
theorem Ev.bind_some {α β : Type} {a : α} {f : Nat → α → Option β} {r : β} (h : Ev (fun n => f n a) r) : Ev (fun n => (some a : Option α).bind (f n)) r := h
theorem Ev.law {α : Type} {g : Nat → Option α} {r : α} (h : Ev g r) : ∃ k, g k = some r := h.rounds
theorem Ev.at_ {α : Type} {g : Nat → Option α} {r : α} (hm : ∀ k, LeO (g k) (g (k + 1))) {k : Nat} (h : g k = some r) : Ev g r := Ev.of hm h
theorem Ev.uniq {α : Type} {g : Nat → Option α} {r q : α} (h : Ev g r) (h' : Ev g q) : r = q := by
  obtain ⟨K, h⟩ := h
  obtain ⟨K', h'⟩ := h'
  have a := h (max K K') (by omega)
  have b := h' (max K K') (by omega)
  rw [a] at b
  exact Option.some.inj b
theorem Ev.ite {α : Type} {c : Prop} [Decidable c] {g f : Nat → Option α} {r : α} (h : c → Ev g r) (h' : ¬ c → Ev f r) : Ev (fun k => if c then g k else f k) r := by
  by_cases hc : c
  · simp only [if_pos hc]
    exact h hc
  · simp only [if_neg hc]
    exact h' hc
end Go.Proofs.Ytcnhdcgiapjpoaa.Base
