/- Shared lemma text of this seat: what reads as data by a type is of the printed kind of that type. No condition on the input. -/
import Derived.Test.YtcnhdcgiapjpoaaWWords
import Derived.Deep.Slices
import Derived.ChangeArms
import Derived.WideShapes
import Derived.RowKit
namespace Go.Proofs.Ytcnhdcgiapjpoaa.Own
open Go.ChangeShapes Go.WideShapes Go.Deep Go.Proofs.YtcnhdcgiapjpoaaW.PrintWords

section
variable {H : Type} {enc : TypeId × Value → H} {P : Program} {w : World} {t : TypeId}

/-- Whatever cells read as data by type t hold an element of kind d. -/
def Opens (enc : TypeId × Value → H) (P : Program) (w : World) (t : TypeId) {α : Type} (d : Kd α) (ok : α → Prop) : Prop :=
  ∀ (fuel : Nat) (cs : List Value) (y : DataW H × List MemPlace), DataW.trod enc P w 0 (fun _ => true) true fuel t cs = some y → ∃ x : α, d.K w x cs ∧ ok x

theorem opens_int {k : IntKind} (ht : P.underlying t = some (.int k)) : Opens enc P w t (Kd.int k) (fun z => (Lit.int k z).wf = true) := by
  intro fuel cs y h
  obtain ⟨n, rfl, _, hw⟩ := DataW.trod_int ht h
  exact ⟨n, rfl, hw⟩

theorem opens_bool (ht : P.underlying t = some .bool) : Opens enc P w t Kd.bool (fun _ => True) := by
  intro fuel cs y h
  obtain ⟨n, rfl, _⟩ := DataW.trod_bool ht h
  exact ⟨n, rfl, trivial⟩

theorem opens_string (ht : P.underlying t = some .string) : Opens enc P w t Kd.string (fun s => s.size ≤ 9223372036854775807) := by
  intro fuel cs y h
  obtain ⟨n, rfl, _, hw⟩ := DataW.trod_string ht h
  exact ⟨n, rfl, by simpa [maxLen] using hw⟩

theorem list_of {α : Type} {n : Nat} {Q : Nat → α → Prop} (h : ∀ i, i < n → ∃ x, Q i x) : ∃ xs : List α, xs.length = n ∧ ∀ (j : Nat) p, xs[j]? = some p → Q j p := by
  induction n with
  | zero => exact ⟨[], rfl, fun j p hj => by simp at hj⟩
  | succ n ih =>
    obtain ⟨xs, hl, hx⟩ := ih (fun i hi => h i (Nat.lt_succ_of_lt hi))
    obtain ⟨x, hq⟩ := h n (Nat.lt_succ_self n)
    refine ⟨xs ++ [x], by simp [hl], fun j p hj => ?_⟩
    rcases Nat.lt_or_ge j xs.length with hlt | hge
    · rw [List.getElem?_append_left hlt] at hj
      exact hx j p hj
    · rw [List.getElem?_append_right hge] at hj
      have hj0 : j - xs.length = 0 := by
        have := (List.getElem?_eq_some_iff.1 hj).1
        simp at this
        omega
      have hjn : j = n := by omega
      subst hjn
      rw [hj0] at hj
      have : x = p := by simpa using hj
      subst this
      exact hq

theorem opens_slice {α : Type} {d : Kd α} {ok : α → Prop} {e : TypeId} (q : Nat) (ht : P.underlying t = some (.slice e)) (hc : P.cellsOf e = d.sz) (he : Opens enc P w e d ok) :
    Opens enc P w t (Kd.slice q d) (fun xs => xs.length ≤ 9223372036854775807 ∧ ∀ x ∈ xs, ok x) := by
  intro fuel cs y h
  rcases open_slice ht h with ⟨rfl, _⟩ | ⟨a, len, cap, m, n, D, Pl, rfl, hb, hl, hm, hmm, rfl, hx⟩
  · exact ⟨[], ⟨none, 0, rfl, Nat.le_refl _, rfl, by simp, fun h => absurd h (by simp)⟩, by simp, by simp⟩
  · have hmc : m = cap := hmm.trans (if_pos rfl)
    have each : ∀ i, i < len → ∃ x : α, ok x ∧ ∃ c, c.length = d.sz ∧ d.K w x c ∧ ∀ (j : Nat) u, c[j]? = some u → w.cell? (a.add (i * d.sz + j)) = some u := by
      intro i hi
      obtain ⟨cs', h1, h2⟩ := hx i (by omega)
      obtain ⟨x, hK, ho⟩ := he n cs' _ h2
      rw [hc] at h1
      obtain ⟨_, hlen, hcell⟩ := World.cells?_some h1
      refine ⟨x, ho, cs', hlen, hK, fun j u hj => ?_⟩
      have hj' : j < d.sz := by
        have := (List.getElem?_eq_some_iff.1 hj).1
        omega
      rw [← Go.Deep.add_add, hcell j hj']
      exact hj
    obtain ⟨xs, hlen, hxs⟩ := list_of each
    have hlm : xs.length ≤ 9223372036854775807 := by
      have : cap ≤ 9223372036854775807 := by simpa [maxLen] using hm
      omega
    subst hlen
    refine ⟨xs, ⟨some a, cap, rfl, hl, rfl, hlm, fun _ => ⟨a, rfl, fun j p hj => (hxs j p hj).2⟩⟩, hlm, fun x hxm => ?_⟩
    obtain ⟨j, hj, rfl⟩ := List.getElem_of_mem hxm
    exact (hxs j _ (List.getElem?_eq_getElem hj)).1

/-- Fields in line, from an offset on. -/
def OpensF (enc : TypeId × Value → H) (P : Program) (w : World) (fs : List Field) (off : Nat) {α : Type} (d : Kd α) (ok : α → Prop) : Prop :=
  ∀ (n : Nat) (cs : List Value), cs.length = off + d.sz → (∀ f ∈ fs, ∃ y, DataW.trod enc P w 0 (fun _ => true) true n f.type ((cs.drop f.offset).take (P.cellsOf f.type)) = some y) → ∃ x : α, d.K w x (cs.drop off) ∧ ok x

theorem opensF_one {α : Type} {d : Kd α} {ok : α → Prop} {f : Field} {off : Nat} (ho : f.offset = off) (hc : P.cellsOf f.type = d.sz) (h : Opens enc P w f.type d ok) : OpensF enc P w [f] off d ok := by
  intro n cs hl hf
  obtain ⟨y, hy⟩ := hf f (by simp)
  rw [ho, hc, List.take_of_length_le (by rw [List.length_drop]; omega)] at hy
  exact h n _ y hy

theorem opensF_cons {α β : Type} {a : Kd α} {b : Kd β} {oka : α → Prop} {okb : β → Prop} {f : Field} {fs : List Field} {off : Nat} (ho : f.offset = off) (hc : P.cellsOf f.type = a.sz) (h : Opens enc P w f.type a oka)
    (hr : OpensF enc P w fs (off + a.sz) b okb) : OpensF enc P w (f :: fs) off (Kd.pair a b) (fun p => oka p.1 ∧ okb p.2) := by
  intro n cs hl hf
  have hsz : (Kd.pair a b).sz = a.sz + b.sz := rfl
  rw [hsz] at hl
  obtain ⟨y, hy⟩ := hf f (by simp)
  rw [ho, hc] at hy
  obtain ⟨x, hx, hox⟩ := h n _ y hy
  obtain ⟨z, hz, hoz⟩ := hr n cs (by omega) (fun g hg => hf g (by simp [hg]))
  refine ⟨(x, z), ⟨_, _, ?_, hx, hz⟩, hox, hoz⟩
  rw [← List.drop_drop, List.take_append_drop]

theorem opens_struct {α : Type} {d : Kd α} {ok : α → Prop} {fs : List Field} (ht : P.underlying t = some (.struct fs.toArray)) (hC : P.cellsOf t = d.sz) (h : OpensF enc P w fs 0 d ok) : Opens enc P w t d ok := by
  intro fuel cs y hy
  obtain ⟨xs, n, _, _, hl, hlen, hf⟩ := DataW.trod_struct ht hy
  have := h n cs (by omega) (fun f hfm => by
    obtain ⟨j, hj, rfl⟩ := List.getElem_of_mem hfm
    have h1 := hf j fs[j] (by simp [hj])
    have hj' : j < xs.length := by simpa [hlen] using hj
    rw [List.getElem?_eq_getElem hj'] at h1
    exact ⟨_, h1⟩)
  simpa using this

theorem opens_iso {α β : Type} {d : Kd α} {ok : α → Prop} {f : β → α} (g : α → β) (hg : ∀ x, f (g x) = x) (h : Opens enc P w t d ok) : Opens enc P w t (Kd.iso d f) (fun x => ok (f x)) := by
  intro fuel cs y hy
  obtain ⟨x, hx, ho⟩ := h fuel cs y hy
  refine ⟨g x, ?_, ?_⟩
  · show d.K w (f (g x)) cs
    rw [hg]
    exact hx
  · show ok (f (g x))
    rw [hg]
    exact ho

/-- A slice that is an argument. -/
theorem arg_slice {α : Type} {d : Kd α} {q : Nat} {ok : List α → Prop} {A : Option Addr} {len cap : Nat} {x : DataW H} {ps : List MemPlace} (h : Opens enc P w t (Kd.slice q d) ok)
    (hd : DataW.Trod enc P w 0 (fun _ => true) true t (.slice A len cap) x ps) : ∃ xs : List α, len = xs.length ∧ d.C w A xs.length xs ∧ xs.length ≤ cap ∧ ok xs := by
  obtain ⟨fuel, hf⟩ := hd
  obtain ⟨xs, ⟨A', c, e, hl, hC⟩, ho⟩ := h fuel _ _ hf
  simp only [Value.cells, List.cons.injEq, Value.slice.injEq, and_true] at e
  obtain ⟨rfl, rfl, rfl⟩ := e
  exact ⟨xs, rfl, hC, hl, ho⟩

/-- A struct that is an argument. -/
theorem arg_struct {α : Type} {d : Kd α} {ok : α → Prop} {fs : Array Field} {r : Reach} {b0 : Nat} {v : Value} {x : DataW H} {ps : List MemPlace} (hs : P.underlying t = some (.struct fs)) (h : Opens enc P w t d ok)
    (hv : Value.okWide P w r b0 t v) (hd : DataW.Trod enc P w 0 (fun _ => true) true t v x ps) : ∃ (y : α) (cs : Array Value), v = .agg cs ∧ d.K w y cs.toList ∧ ok y := by
  obtain ⟨cs, rfl, _⟩ := okWide_struct hs hv
  obtain ⟨fuel, hf⟩ := hd
  obtain ⟨y, hK, ho⟩ := h fuel _ _ hf
  exact ⟨y, cs, rfl, hK, ho⟩

end
end Go.Proofs.Ytcnhdcgiapjpoaa.Own
