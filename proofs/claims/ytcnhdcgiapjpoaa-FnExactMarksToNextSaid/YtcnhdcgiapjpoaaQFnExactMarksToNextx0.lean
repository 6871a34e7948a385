/- The printed functions of the law FnExactMarksToNext and their contracts, mended by this session's program (mend.py) where the printed walk stops. No condition. -/
import Derived.Laws.RangeAny
import Derived.Test.YtcnhdcgiapjpoaaProg
import Derived.Below
import Derived.Deep.Draws
import Derived.Deep.AppendLies
import Derived.Maps.AppendAt
import Derived.OwnWalk
import Derived.Laws.BytesArg
import Derived.Laws.MakeOwn
import Derived.Laws.OwnMore
import Derived.Deep.OwnRows
import Derived.Tactics
import Derived.Lib.ConvBytes
import Derived.Laws.Slices
import Derived.WalkKit
import Derived.KernelRfl
import Derived.RowKit3
import Derived.Deep.LoopGhost
import Derived.Deep.QuietTactic
import Derived.BigQuiet
import Derived.WideLaws
import Derived.Deep.DeepCutAuto
import Derived.Deep.CutBlock
import Derived.Deep.RegionHeld3
import Derived.Laws.Rows
import Derived.Lib.AppendStr
import Derived.ArgAppend
import Derived.Laws.IdiomCopy
import Derived.OrdersHeld
import Derived.Laws.BitsLemmas
import Derived.RowKit
import Derived.Test.YtcnhdcgiapjpoaaWWords
import Derived.Test.YtcnhdcgiapjpoaaWLast
import Derived.Test.YtcnhdcgiapjpoaaWTab
import Derived.Test.YtcnhdcgiapjpoaaWApart
import Derived.Test.YtcnhdcgiapjpoaaWArr
import Derived.Test.YtcnhdcgiapjpoaaWFoot
import Derived.Test.YtcnhdcgiapjpoaaWKept
import Derived.Test.YtcnhdcgiapjpoaaWShare
import Derived.Test.YtcnhdcgiapjpoaaWN
import Derived.Test.YtcnhdcgiapjpoaaWRepsOne
import Derived.Test.YtcnhdcgiapjpoaaWInv
import Derived.Test.YtcnhdcgiapjpoaaWGuard
import Derived.Test.YtcnhdcgiapjpoaaWMore
namespace Go.Proofs.Ytcnhdcgiapjpoaa.PFnExactMarksToNext
open Go.RowKit Go.Proofs.YtcnhdcgiapjpoaaW.PrintWords Go.Proofs.YtcnhdcgiapjpoaaW.PrintLast Go.Proofs.YtcnhdcgiapjpoaaW.PrintMore
attribute [local go_sem] max2_int min2_int max_two min_two max_three min_three max_four min_four   -- for this text's walks alone
set_option linter.unusedVariables false
set_option linter.unusedSimpArgs false



def errW : Option Int → Value
 | none => .nilIface
 | some c => .iface 0 (.int .i64 c)
theorem errW_none : errW none = .nilIface := rfl
theorem errW_some (c : Int) : errW (some c) = .iface 0 (.int .i64 c) := rfl

theorem info5 : (Try.prog.info? 5).map (fun i => (i.zero, i.size, i.bytes)) = some (some (.int .u8 0), 1, 1) := by kernel_rfl
theorem info9 : (Try.prog.info? 9).map (fun i => (i.zero, i.size, i.bytes)) = some (some (.string ⟨#[]⟩), 1, 16) := by kernel_rfl
theorem info27 : (Try.prog.info? 27).map (fun i => (i.zero, i.size, i.bytes)) = some (some (.slice none 0 0), 1, 24) := by kernel_rfl
theorem info68 : (Try.prog.info? 68).map (fun i => (i.zero, i.size, i.bytes)) = some (some (.agg #[(.int .i64 0), (.int .i64 0), (.int .i64 0), (.string ⟨#[]⟩)]), 4, 40) := by kernel_rfl
-- the values' own types
def rd_L1 (xs : List (List ByteArray)) (i : Int) : (List ByteArray) := xs.getD i.toNat ([] : List ByteArray)
theorem at_L1 {w : World} {A : Option Addr} {n : Nat} {xs : List (List ByteArray)} (h : Kd.C (Kd.slice 9 Kd.string) w A n xs) (i : Int) (h0 : 0 ≤ i) (h1 : i < n) : ∃ ad A0 c0, A = some ad ∧ w.cell? (ad.add i.toNat) = some (.slice A0 (rd_L1 xs i).length c0) ∧ (rd_L1 xs i).length ≤ c0 ∧ Kd.string.C w A0 (rd_L1 xs i).length (rd_L1 xs i) := by
 obtain ⟨ad, c, e, _, hK, hc0⟩ := Kd.C_get h ([] : List ByteArray) i h0 h1
 have hc : ∀ j u, c[j]? = some u → w.cell? (ad.add (i.toNat * 1 + j)) = some u := hc0
 obtain ⟨A0, c0, rfl, l0, g0⟩ := hK
 exact ⟨ad, A0, c0, e, by have hq := hc 0 _ rfl; rwa [Nat.mul_one, Nat.add_zero] at hq, l0, g0⟩

/-! #### struct type 68 -/
structure S68 where
 f0 : Int
 f1 : Int
 f2 : Int
 f3 : ByteArray
def z68 : S68 := ⟨(0 : Int), (0 : Int), (0 : Int), (⟨#[]⟩ : ByteArray)⟩
def k68 : Kd S68 := Kd.iso (Kd.pair (Kd.int .i64) (Kd.pair (Kd.int .i64) (Kd.pair (Kd.int .i64) Kd.string))) (fun x : S68 => (x.f0, x.f1, x.f2, x.f3))
theorem k68_open {w : World} {x : S68} {cs : List Value} (h : k68.K w x cs) : cs = [.int .i64 x.f0, .int .i64 x.f1, .int .i64 x.f2, .string x.f3] := by
 obtain ⟨_, _, rfl, rfl, ⟨_, _, rfl, rfl, ⟨_, _, rfl, rfl, rfl⟩⟩⟩ := h
 exact rfl
theorem k68_openM {w : World} {base : Nat} {ok : Nat → Prop} {x : S68} {cs : List Value} (h : k68.M w base ok x cs) : cs = [.int .i64 x.f0, .int .i64 x.f1, .int .i64 x.f2, .string x.f3] := by
 obtain ⟨_, _, rfl, rfl, ⟨_, _, rfl, rfl, ⟨_, _, rfl, rfl, rfl⟩⟩⟩ := h
 exact rfl
theorem k68_mk (w : World) (x : S68)  : k68.K w x [.int .i64 x.f0, .int .i64 x.f1, .int .i64 x.f2, .string x.f3] := ⟨[.int .i64 x.f0], [.int .i64 x.f1, .int .i64 x.f2, .string x.f3], rfl, rfl, ⟨[.int .i64 x.f1], [.int .i64 x.f2, .string x.f3], rfl, rfl, ⟨[.int .i64 x.f2], [.string x.f3], rfl, rfl, rfl⟩⟩⟩
theorem k68_mkM (w : World) (base : Nat) (ok : Nat → Prop) (x : S68)  : k68.M w base ok x [.int .i64 x.f0, .int .i64 x.f1, .int .i64 x.f2, .string x.f3] := ⟨[.int .i64 x.f0], [.int .i64 x.f1, .int .i64 x.f2, .string x.f3], rfl, rfl, ⟨[.int .i64 x.f1], [.int .i64 x.f2, .string x.f3], rfl, rfl, ⟨[.int .i64 x.f2], [.string x.f3], rfl, rfl, rfl⟩⟩⟩
def rd_T68 (xs : List S68) (i : Int) : S68 := xs.getD i.toNat z68
theorem at_T68 {w : World} {A : Option Addr} {n : Nat} {xs : List S68} (h : Kd.C k68 w A n xs) (i : Int) (h0 : 0 ≤ i) (h1 : i < n) : ∃ ad , A = some ad ∧ w.cell? (ad.add (i.toNat * 4)) = some (.int .i64 (rd_T68 xs i).f0) ∧ w.cell? ⟨(ad.add (i.toNat * 4)).block, (ad.add (i.toNat * 4)).off + 1, none⟩ = some (.int .i64 (rd_T68 xs i).f1) ∧ w.cell? ⟨(ad.add (i.toNat * 4)).block, (ad.add (i.toNat * 4)).off + 2, none⟩ = some (.int .i64 (rd_T68 xs i).f2) ∧ w.cell? ⟨(ad.add (i.toNat * 4)).block, (ad.add (i.toNat * 4)).off + 3, none⟩ = some (.string (rd_T68 xs i).f3) := by
 obtain ⟨ad, c, e, _, hK, hc0⟩ := Kd.C_get h z68 i h0 h1
 have hc : ∀ j u, c[j]? = some u → w.cell? (ad.add (i.toNat * 4 + j)) = some u := hc0
 obtain rfl := k68_open hK
 exact ⟨ad, e, hc 0 _ rfl, by rw [← add_field _ _ 1 (by omega)]; exact hc 1 _ rfl, by rw [← add_field _ _ 2 (by omega)]; exact hc 2 _ rfl, by rw [← add_field _ _ 3 (by omega)]; exact hc 3 _ rfl⟩

section
theorem wpList_range_iter {P : Program} (w : World) {ops : Array Oper} {rest : List Oper} {o : Oper} {a : Act} {Q : Exit → Act → World → Prop} (hg : o.guard = none) (x : Operand) (t : TypeId) (hop : o.op = Op.range t x) (ht : P.underlying t = some .string) (s : ByteArray)
  (hx : a.eval x = .string s) (h : ∀ r : Nat, w.heap.size ≤ r → (w.alloc (.stringIter s 0)).heap[r]? = some (.stringIter s 0) → wpList P ops Q rest (a.put o.dst (.pointer (some ⟨r, 0, none⟩))) (w.alloc (.stringIter s 0))) :
  wpList P ops Q (o :: rest) a w := by
 refine wpList_plain hg fun K' hK' => ?_
 have hrun : (Instr.range t (.string s)).run P w = .ok (.pointer (some ⟨w.heap.size, 0, none⟩)) (w.alloc (.stringIter s 0)) := run_range_string w t s ht
 unfold Oper.wp
 simp [execOp, hop, hx, hrun, Result.andThen]
 exact hK' _ _ (h _ (Nat.le_refl _) (World.iter_heap w s 0))
theorem wpList_next_done {P : Program} (w : World) {ops : Array Oper} {rest : List Oper} {o : Oper} {a : Act} {Q : Exit → Act → World → Prop} (hg : o.guard = none) (it : Operand) (hop : o.op = Op.next it true) (r : Nat) (s : ByteArray) (x : Int)
  (hit : a.eval it = .pointer (some ⟨r, 0, none⟩)) (hb : w.heap[r]? = some (.stringIter s x.toNat)) (hx : ¬ x < (s.size : Int)) (h : wpList P ops Q rest (a.put o.dst (.tuple #[.bool false])) w) :
  wpList P ops Q (o :: rest) a w := by
 refine wpList_plain hg fun K' hK' => ?_
 have hn : ¬ x.toNat < s.size := by omega
 have hrun : (Instr.next (.pointer (some ⟨r, 0, none⟩)) true o.type).run P w = .ok (.tuple #[.bool false]) w := by
  simp [Instr.next, getObj, Sem.run, hb, hn]
 unfold Oper.wp
 simp [execOp, hop, hit, hrun, Result.andThen]
 exact hK' _ _ h
theorem grownBy_iter {w : World} {r p p' : Nat} {s : ByteArray} (hb : w.heap[r]? = some (.stringIter s p)) : w.grownBy { w with heap := w.heap.setIfInBounds r (.stringIter s p') } (some r) :=
 ⟨rfl, rfl, rfl, by simp, fun k _ hne => by
  show (w.heap.setIfInBounds r _)[k]? = _
  rw [Array.getElem?_setIfInBounds]
  split
  ·rename_i e; exact absurd (congrArg some e.symm) hne
  ·rfl⟩
theorem wpList_next_more {P : Program} (w : World) {ops : Array Oper} {rest : List Oper} {o : Oper} {a : Act} {Q : Exit → Act → World → Prop} (hg : o.guard = none) (it : Operand) (hop : o.op = Op.next it true) (r : Nat) (s : ByteArray) (x : Int) (h0 : 0 ≤ x) (h1 : x < 1000)
  (hit : a.eval it = .pointer (some ⟨r, 0, none⟩)) (hb : w.heap[r]? = some (.stringIter s x.toNat)) (hx : x < (s.size : Int)) (ha : bt s x < 128)
  (h : ∀ (c : Int) (w' : World), w'.heap[r]? = some (.stringIter s (wrap64 (x + 1)).toNat) → w.grownBy w' (some r) → wpList P ops Q rest (a.put o.dst (.tuple #[.bool true, .int .i64 x, .int .i32 c])) w') :
  wpList P ops Q (o :: rest) a w := by
 refine wpList_plain hg fun K' hK' => ?_
 have hn : x.toNat < s.size := by omega
 have hr : r < w.heap.size := by
  rcases Nat.lt_or_ge r w.heap.size with h | h
  ·exact h
  ·rw [Array.getElem?_eq_none h] at hb; cases hb
 have ha' : (s[x.toNat]'hn).toNat < 128 := by
  unfold bt at ha
  rw [dif_pos hn] at ha
  omega
 have hd := decode_ascii s x.toNat hn ha'
 have hxx : ((x.toNat : Nat) : Int) = x := Int.toNat_of_nonneg h0
 have hw : (wrap64 (x + 1)).toNat = x.toNat + 1 := by unfold wrap64; omega
 have hrun : (Instr.next (.pointer (some ⟨r, 0, none⟩)) true o.type).run P w = .ok (.tuple #[.bool true, .int .i64 x, .int .i32 ((s[x.toNat]'hn).toNat : Int)]) { w with heap := w.heap.setIfInBounds r (.stringIter s (x.toNat + 1)) } := by
  simp only [Instr.next, getObj, setObj, Sem.run_bind, Sem.run, hb, Result.andThen, hn, if_true, hd]
  simp [goInt, Sem.run, hb, hxx]
 unfold Oper.wp
 simp [execOp, hop, hit, hrun, Result.andThen]
 refine hK' _ _ (h _ _ ?_ (grownBy_iter hb))
 show (w.heap.setIfInBounds r _)[r]? = _
 rw [Array.getElem?_setIfInBounds, hw]
 simp [hr]
theorem below_iter {base : Nat} {w0 w w' : World} {r : Nat} (hB : Below base w0 w) (hr : base ≤ r) (hg : w.grownBy w' (some r)) (hs : base ≤ w0.heap.size := by exact Nat.le_refl _) : Below base w0 w' :=
 ⟨hg.os.trans hB.os, hg.tape.trans hB.tape, hg.output.trans hB.output, Nat.le_trans hB.size hg.size, fun k hk =>
  (hg.block k (by have := hB.size; omega) (fun e => by injection e with e; omega)).trans (hB.block k hk)⟩
theorem row_iter {α : Type} {d : Kd α} {e base r p : Nat} {s : ByteArray} {ok : Nat → Prop} {v : Value} {xs : List α} {w w' : World} (h : d.R e w base ok v xs) (hb : w.heap[r]? = some (.stringIter s p)) (hg : w.grownBy w' (some r)) : d.R e w' base ok v xs :=
 Kd.R_mono (Kd.R_move (Kd.R_bound h) (fun k hk => hg.block k hk.2.2.1 (fun he => by
  obtain ⟨_, _, _, q, _, cells, hc⟩ := hk
  injection he with he
  subst he
  rw [hb] at hc
  cases hc))) (fun _ hk => hk.1)
theorem iter_kept {e r p : Nat} {s : ByteArray} {v : Value} {w w' : World} (hg : w.grownBy w' v.ownBlock) (hb : w.heap[r]? = some (.stringIter s p)) (h : ∀ k, v.ownBlock = some k → ∃ cells, w.heap[k]? = some (.cells cells e (0, 0))) : w'.heap[r]? = some (.stringIter s p) :=
 (hg.block r (by
  rcases Nat.lt_or_ge r w.heap.size with h | h
  ·exact h
  ·rw [Array.getElem?_eq_none h] at hb; cases hb) (fun he => by
  obtain ⟨cells, hc⟩ := h r he.symm
  rw [hb] at hc
  cases hc)).trans hb
end

end Go.Proofs.Ytcnhdcgiapjpoaa.PFnExactMarksToNext
