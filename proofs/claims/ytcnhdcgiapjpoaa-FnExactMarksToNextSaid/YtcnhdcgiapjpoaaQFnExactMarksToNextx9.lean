/- The printed functions of the law FnExactMarksToNext and their contracts, mended by this session's program (mend.py) where the printed walk stops. No condition. -/
import Derived.Test.YtcnhdcgiapjpoaaQFnExactMarksToNextx0
namespace Go.Proofs.Ytcnhdcgiapjpoaa.PFnExactMarksToNext
open Go.RowKit Go.Proofs.YtcnhdcgiapjpoaaW.PrintWords Go.Proofs.YtcnhdcgiapjpoaaW.PrintLast Go.Proofs.YtcnhdcgiapjpoaaW.PrintMore
attribute [local go_sem] max2_int min2_int max_two min_two max_three min_three max_four min_four   -- for this text's walks alone
set_option linter.unusedVariables false
set_option linter.unusedSimpArgs false

/-! ### impl_between: function 83 -/
mutual
def impl_between.j1 : Nat → ByteArray → ByteArray → Int → Option ((List (S68)))
 | 0, _, _, _ => none
 | k + 1, x0, x1, x5 => impl_between.l1 k x0 x1 x5 0
def impl_between.j3 : Nat → ByteArray → ByteArray → Int → Int → Option ((List (S68)))
 | 0, _, _, _, _ => none
 | k + 1, x0, x1, x5, x6 => if 0 ≤ x5 then (if x5 ≤ (wrap64 ((x0.size : Int) - x6)) then (if (wrap64 ((x0.size : Int) - x6)) ≤ (x0.size : Int) then (if x5 ≤ (wrap64 ((x1.size : Int) - x6)) then (if (wrap64 ((x1.size : Int) - x6)) ≤ (x1.size : Int) then (impl_between.l2 k x5 (([] : List (S68))) (x0.extract (x5 : Int).toNat ((wrap64 ((x0.size : Int) - x6)) : Int).toNat) (x1.extract (x5 : Int).toNat ((wrap64 ((x1.size : Int) - x6)) : Int).toNat) 0) else (none)) else (none)) else (none)) else (none)) else (none)
def impl_between.l2 : Nat → Int → List (S68) → ByteArray → ByteArray → Int → Option ((List (S68)))
 | 0, _, _, _, _, _ => none
 | k + 1, x5, x7, x8, x9, x81 => if x81 < (x8.size : Int) then (if 0 ≤ x81 ∧ x81 < 1000 ∧ bt x8 x81 < 128 then (if x81 ≥ (x9.size : Int) then (if x7.length < 3518437208883 then (impl_between.l2 k x5 (x7 ++ [(⟨0, wrap64 (x5 + x81), 1, (⟨#[]⟩ : ByteArray)⟩ : S68)]) x8 x9 (wrap64 (x81 + 1))) else (none)) else (if 0 ≤ x81 then (if x81 < (x9.size : Int) then (if (bt x8 x81) = (bt x9 x81) then (impl_between.l2 k x5 x7 x8 x9 (wrap64 (x81 + 1))) else (if x81 ≤ (wrap64 (x81 + 1)) then (if (wrap64 (x81 + 1)) ≤ (x9.size : Int) then (if x7.length < 3518437208883 then (impl_between.l2 k x5 (x7 ++ [(⟨0, wrap64 (x5 + x81), 3, x9.extract (x81 : Int).toNat ((wrap64 (x81 + 1)) : Int).toNat⟩ : S68)]) x8 x9 (wrap64 (x81 + 1))) else (none)) else (none)) else (none))) else (none)) else (none))) else (none)) else (if (x9.size : Int) > (x8.size : Int) then (if 0 ≤ (x8.size : Int) then (if (x8.size : Int) ≤ (x9.size : Int) then (if x7.length < 3518437208883 then (some (x7 ++ [(⟨0, wrap64 (x5 + (x8.size : Int)), 2, x9.extract ((x8.size : Int) : Int).toNat x9.size⟩ : S68)])) else (none)) else (none)) else (none)) else (some x7))
def impl_between.l1 : Nat → ByteArray → ByteArray → Int → Int → Option ((List (S68)))
 | 0, _, _, _, _ => none
 | k + 1, x0, x1, x5, x6 => if x6 < (wrap64 ((x0.size : Int) - x5)) then (if x6 < (wrap64 ((x1.size : Int) - x5)) then (if 0 ≤ (wrap64 ((wrap64 ((x0.size : Int) - 1)) - x6)) then (if (wrap64 ((wrap64 ((x0.size : Int) - 1)) - x6)) < (x0.size : Int) then (if 0 ≤ (wrap64 ((wrap64 ((x1.size : Int) - 1)) - x6)) then (if (wrap64 ((wrap64 ((x1.size : Int) - 1)) - x6)) < (x1.size : Int) then (if (bt x0 (wrap64 ((wrap64 ((x0.size : Int) - 1)) - x6))) = (bt x1 (wrap64 ((wrap64 ((x1.size : Int) - 1)) - x6))) then (impl_between.l1 k x0 x1 x5 (wrap64 (x6 + 1))) else (impl_between.j3 k x0 x1 x5 x6)) else (none)) else (none)) else (none)) else (none)) else (impl_between.j3 k x0 x1 x5 x6)) else (impl_between.j3 k x0 x1 x5 x6)
def impl_between.l0 : Nat → ByteArray → ByteArray → Int → Option ((List (S68)))
 | 0, _, _, _ => none
 | k + 1, x0, x1, x5 => if x5 < (x0.size : Int) then (if x5 < (x1.size : Int) then (if 0 ≤ x5 then (if (bt x0 x5) = (bt x1 x5) then (impl_between.l0 k x0 x1 (wrap64 (x5 + 1))) else (impl_between.j1 k x0 x1 x5)) else (none)) else (impl_between.j1 k x0 x1 x5)) else (impl_between.j1 k x0 x1 x5)
end
def impl_between.f (k : Nat) (a0 : ByteArray) (a1 : ByteArray) : Option ((List (S68))) := impl_between.l0 k a0 a1 0
theorem impl_between.mono_l : ∀ k, (∀ y0 y1 y2, LeO (impl_between.j1 k y0 y1 y2) (impl_between.j1 (k + 1) y0 y1 y2)) ∧ (∀ y0 y1 y2 y3, LeO (impl_between.j3 k y0 y1 y2 y3) (impl_between.j3 (k + 1) y0 y1 y2 y3)) ∧ (∀ y0 y1 y2 y3 y4, LeO (impl_between.l2 k y0 y1 y2 y3 y4) (impl_between.l2 (k + 1) y0 y1 y2 y3 y4)) ∧ (∀ y0 y1 y2 y3, LeO (impl_between.l1 k y0 y1 y2 y3) (impl_between.l1 (k + 1) y0 y1 y2 y3)) ∧ (∀ y0 y1 y2, LeO (impl_between.l0 k y0 y1 y2) (impl_between.l0 (k + 1) y0 y1 y2))
 | 0 => ⟨fun _ _ _ r h => by simp [impl_between.j1] at h, fun _ _ _ _ r h => by simp [impl_between.j3] at h, fun _ _ _ _ _ r h => by simp [impl_between.l2] at h, fun _ _ _ _ r h => by simp [impl_between.l1] at h, fun _ _ _ r h => by simp [impl_between.l0] at h⟩
 | k + 1 => by
  obtain ⟨ih0, ih1, ih2, ih3, ih4⟩ := impl_between.mono_l k
  refine ⟨?_, ?_, ?_, ?_, ?_⟩
  ·intro y0 y1 y2
   unfold impl_between.j1
   repeat' first
   | (with_reducible exact ih0 _ _ _)
   | (with_reducible exact ih1 _ _ _ _)
   | (with_reducible exact ih2 _ _ _ _ _)
   | (with_reducible exact ih3 _ _ _ _)
   | (with_reducible exact ih4 _ _ _)
   | (with_reducible exact LeO.refl _)
   | (with_reducible exact LeO.none _)
   | (with_reducible refine LeO.ite ?_ ?_)
   | (with_reducible refine LeO.bind ?_ (fun _ => ?_))
   | exact ih0 _ _ _
   | exact ih1 _ _ _ _
   | exact ih2 _ _ _ _ _
   | exact ih3 _ _ _ _
   | exact ih4 _ _ _
   | exact LeO.none _
   | refine LeO.ite ?_ ?_
   | refine LeO.bind ?_ (fun _ => ?_)
  ·intro y0 y1 y2 y3
   unfold impl_between.j3
   repeat' first
   | (with_reducible exact ih0 _ _ _)
   | (with_reducible exact ih1 _ _ _ _)
   | (with_reducible exact ih2 _ _ _ _ _)
   | (with_reducible exact ih3 _ _ _ _)
   | (with_reducible exact ih4 _ _ _)
   | (with_reducible exact LeO.refl _)
   | (with_reducible exact LeO.none _)
   | (with_reducible refine LeO.ite ?_ ?_)
   | (with_reducible refine LeO.bind ?_ (fun _ => ?_))
   | exact ih0 _ _ _
   | exact ih1 _ _ _ _
   | exact ih2 _ _ _ _ _
   | exact ih3 _ _ _ _
   | exact ih4 _ _ _
   | exact LeO.none _
   | refine LeO.ite ?_ ?_
   | refine LeO.bind ?_ (fun _ => ?_)
  ·intro y0 y1 y2 y3 y4
   unfold impl_between.l2
   repeat' first
   | (with_reducible exact ih0 _ _ _)
   | (with_reducible exact ih1 _ _ _ _)
   | (with_reducible exact ih2 _ _ _ _ _)
   | (with_reducible exact ih3 _ _ _ _)
   | (with_reducible exact ih4 _ _ _)
   | (with_reducible exact LeO.refl _)
   | (with_reducible exact LeO.none _)
   | (with_reducible refine LeO.ite ?_ ?_)
   | (with_reducible refine LeO.bind ?_ (fun _ => ?_))
   | exact ih0 _ _ _
   | exact ih1 _ _ _ _
   | exact ih2 _ _ _ _ _
   | exact ih3 _ _ _ _
   | exact ih4 _ _ _
   | exact LeO.none _
   | refine LeO.ite ?_ ?_
   | refine LeO.bind ?_ (fun _ => ?_)
  ·intro y0 y1 y2 y3
   unfold impl_between.l1
   repeat' first
   | (with_reducible exact ih0 _ _ _)
   | (with_reducible exact ih1 _ _ _ _)
   | (with_reducible exact ih2 _ _ _ _ _)
   | (with_reducible exact ih3 _ _ _ _)
   | (with_reducible exact ih4 _ _ _)
   | (with_reducible exact LeO.refl _)
   | (with_reducible exact LeO.none _)
   | (with_reducible refine LeO.ite ?_ ?_)
   | (with_reducible refine LeO.bind ?_ (fun _ => ?_))
   | exact ih0 _ _ _
   | exact ih1 _ _ _ _
   | exact ih2 _ _ _ _ _
   | exact ih3 _ _ _ _
   | exact ih4 _ _ _
   | exact LeO.none _
   | refine LeO.ite ?_ ?_
   | refine LeO.bind ?_ (fun _ => ?_)
  ·intro y0 y1 y2
   unfold impl_between.l0
   repeat' first
   | (with_reducible exact ih0 _ _ _)
   | (with_reducible exact ih1 _ _ _ _)
   | (with_reducible exact ih2 _ _ _ _ _)
   | (with_reducible exact ih3 _ _ _ _)
   | (with_reducible exact ih4 _ _ _)
   | (with_reducible exact LeO.refl _)
   | (with_reducible exact LeO.none _)
   | (with_reducible refine LeO.ite ?_ ?_)
   | (with_reducible refine LeO.bind ?_ (fun _ => ?_))
   | exact ih0 _ _ _
   | exact ih1 _ _ _ _
   | exact ih2 _ _ _ _ _
   | exact ih3 _ _ _ _
   | exact ih4 _ _ _
   | exact LeO.none _
   | refine LeO.ite ?_ ?_
   | refine LeO.bind ?_ (fun _ => ?_)
theorem impl_between.mono : ∀ a0 a1 k, LeO (impl_between.f k a0 a1) (impl_between.f (k + 1) a0 a1) := by
 intro a0 a1 k
 obtain ⟨ih0, ih1, ih2, ih3, ih4⟩ := impl_between.mono_l k
 unfold impl_between.f
 repeat' first
   | (with_reducible exact ih0 _ _ _)
   | (with_reducible exact ih1 _ _ _ _)
   | (with_reducible exact ih2 _ _ _ _ _)
   | (with_reducible exact ih3 _ _ _ _)
   | (with_reducible exact ih4 _ _ _)
   | (with_reducible exact LeO.refl _)
   | (with_reducible exact LeO.none _)
   | (with_reducible refine LeO.ite ?_ ?_)
   | (with_reducible refine LeO.bind ?_ (fun _ => ?_))
   | exact ih0 _ _ _
   | exact ih1 _ _ _ _
   | exact ih2 _ _ _ _ _
   | exact ih3 _ _ _ _
   | exact ih4 _ _ _
   | exact LeO.none _
   | refine LeO.ite ?_ ?_
   | refine LeO.bind ?_ (fun _ => ?_)
set_option maxHeartbeats 8000000 in
set_option maxRecDepth 100000 in
theorem impl_between.calls (k : Nat) (a0 : ByteArray) (a1 : ByteArray) (r : List (S68)) (w : World) (h : impl_between.f k a0 a1 = some r) :
  Calls Try.prog 83 #[.string a0, .string a1] w fun e w' => ∃ v0_ : Value, e = .returned (v0_) ∧ Kd.R k68 68 w' w.heap.size (fun _ => True) v0_ r ∧ Below w.heap.size w w' := by
 have hu68 := Try.underlying68
 have HB := Aside0.mk (Below.refl w.heap.size w)
 have H : (impl_between.l0 k a0 a1 0) = some r := h
 clear h
 have HC3 := Aside0.mk H
 clear H
 go_enter Try.func83, Try.ntmps83
 go_upto_block 0 with (fail)
 repeat (go_quiet (fail); go_upto_block 0 with (fail))
 go_cut [5] (fun v5 wc => ∃ (kq : Nat) (x5_2 : Int), v5 = .int .i64 x5_2 ∧ Aside0 (impl_between.j1 kq a0 a1 x5_2 = some r) ∧ Aside0 (kq ≤ k) ∧ Aside0 (Below w.heap.size w wc))
 case first =>
  have H := HC3.out
  clear HC3
  have H' := Aside0.mk H
  clear H
  go_wp2
  repeat (go_quiet (fail); try go_wp2)
  go_loopg [5] k (fun kq v5 w' => ∃ (x5_1 : Int), v5 = .int .i64 x5_1 ∧ Aside0 (impl_between.l0 kq a0 a1 x5_1 = some r) ∧ Aside0 (kq ≤ k) ∧ Aside0 (Below w.heap.size w w'))
  case atStart => exact ⟨(0), (by first | rfl | (simp; done) | (simp [*]; done)), H', ⟨Nat.le_refl _⟩, ⟨by repeat (first | (with_reducible first | exact HB.out | apply below_alloc | apply pw_below_drewN | apply below_drew1) | exact HB.out | exact Below.refl _ _)⟩⟩
  case round =>
   clear H'
   (try clear p2)
   obtain ⟨x5_1, rfl, HA, HK1, HB⟩ := hrel
   cases gk with
   | zero => exact absurd HA.out (by simp [impl_between.l0])
   | succ k1 =>
    have H := HA.out
    clear HA
    simp only [impl_between.l0] at H
    by_cases c4 : x5_1 < (a0.size : Int)
    ·rw [if_pos c4] at H
     have c4b0 : decide (x5_1 < (a0.size : Int)) = true := decide_eq_true c4
     clear c4
     (first | rw [c4b0] | (simp only [i64_w, i32_w]; rw [c4b0]) | skip)
     by_cases c5 : x5_1 < (a1.size : Int)
     ·rw [if_pos c5] at H
      have c5b0 : decide (x5_1 < (a1.size : Int)) = true := decide_eq_true c5
      clear c5
      by_cases c6 : 0 ≤ x5_1
      ·rw [if_pos c6] at H
       have c6b0 : decide (0 ≤ x5_1) = true := decide_eq_true c6
       clear c6
       by_cases c9 : (bt a0 x5_1) = (bt a1 x5_1)
       ·rw [if_pos c9] at H
        have c9b0 : ((bt a0 x5_1) == (bt a1 x5_1)) = true := beq_iff_eq.mpr c9
        have c9b1 : ((bt a0 x5_1) != (bt a1 x5_1)) = false := bne_eq_false_iff_eq.mpr c9
        clear c9
        have H' := Aside0.mk H
        clear H
        have p7 : 0 ≤ (x5_1 : Int) := of_decide_eq_true (by first | (with_reducible assumption) | assumption)
        have q7 : x5_1 < (a0.size : Int) := of_decide_eq_true (by first | (with_reducible assumption) | assumption)
        have hx7 := bt_at a0 x5_1
        replace p7 := eq_true p7
        replace q7 := eq_true q7
        have p8 : 0 ≤ (x5_1 : Int) := of_decide_eq_true (by first | (with_reducible assumption) | assumption)
        have q8 : x5_1 < (a1.size : Int) := of_decide_eq_true (by first | (with_reducible assumption) | assumption)
        have hx8 := bt_at a1 x5_1
        replace p8 := eq_true p8
        replace q8 := eq_true q8
        go_wp2
        repeat (go_quiet (fail); try go_wp2)
        go_roundg k1
        case measure => have := HK1.out; omega
        case rel => exact ⟨(wrap64 (x5_1 + 1)), (by first | rfl | (simp; done) | (simp [*]; done)), H', ⟨by have := HK1.out; omega⟩, ⟨by repeat (first | (with_reducible first | exact HB.out | apply below_alloc | apply pw_below_drewN | apply below_drew1) | exact HB.out | exact Below.refl _ _)⟩⟩
       ·rw [if_neg c9] at H
        have c9b0 : ((bt a0 x5_1) == (bt a1 x5_1)) = false := beq_eq_false_iff_ne.mpr c9
        have c9b1 : ((bt a0 x5_1) != (bt a1 x5_1)) = true := bne_iff_ne.mpr c9
        have H' := Aside0.mk H
        clear H
        have p7 : 0 ≤ (x5_1 : Int) := of_decide_eq_true (by first | (with_reducible assumption) | assumption)
        have q7 : x5_1 < (a0.size : Int) := of_decide_eq_true (by first | (with_reducible assumption) | assumption)
        have hx7 := bt_at a0 x5_1
        replace p7 := eq_true p7
        replace q7 := eq_true q7
        have p8 : 0 ≤ (x5_1 : Int) := of_decide_eq_true (by first | (with_reducible assumption) | assumption)
        have q8 : x5_1 < (a1.size : Int) := of_decide_eq_true (by first | (with_reducible assumption) | assumption)
        have hx8 := bt_at a1 x5_1
        replace p8 := eq_true p8
        replace q8 := eq_true q8
        go_wp2
        repeat (go_quiet (fail); try go_wp2)
        go_meet
        case rel => exact ⟨_, (x5_1), (by first | rfl | (simp; done) | (simp [*]; done)), H', ⟨by have := HK1.out; first | omega | exact Nat.le_refl _⟩, ⟨by repeat (first | (with_reducible first | exact HB.out | apply below_alloc | apply pw_below_drewN | apply below_drew1) | exact HB.out | exact Below.refl _ _)⟩⟩
      ·rw [if_neg c6] at H
       exact absurd H (by simp)
     ·rw [if_neg c5] at H
      have c5b0 : decide (x5_1 < (a1.size : Int)) = false := decide_eq_false c5
      clear c5
      have H' := Aside0.mk H
      clear H
      go_wp2
      repeat (go_quiet (fail); try go_wp2)
      go_meet
      case rel => exact ⟨_, (x5_1), (by first | rfl | (simp; done) | (simp [*]; done)), H', ⟨by have := HK1.out; first | omega | exact Nat.le_refl _⟩, ⟨by repeat (first | (with_reducible first | exact HB.out | apply below_alloc | apply pw_below_drewN | apply below_drew1) | exact HB.out | exact Below.refl _ _)⟩⟩
    ·rw [if_neg c4] at H
     have c4b0 : decide (x5_1 < (a0.size : Int)) = false := decide_eq_false c4
     clear c4
     (first | rw [c4b0] | (simp only [i64_w, i32_w]; rw [c4b0]) | skip)
     have H' := Aside0.mk H
     clear H
     go_wp2
     repeat (go_quiet (fail); try go_wp2)
     go_meet
     case rel => exact ⟨_, (x5_1), (by first | rfl | (simp; done) | (simp [*]; done)), H', ⟨by have := HK1.out; first | omega | exact Nat.le_refl _⟩, ⟨by repeat (first | (with_reducible first | exact HB.out | apply below_alloc | apply pw_below_drewN | apply below_drew1) | exact HB.out | exact Below.refl _ _)⟩⟩
 case rest =>
  clear HC3
  (try clear p2); (try clear c4); (try clear c4b0); (try clear c5); (try clear c5b0); (try clear c6); (try clear c6b0); (try clear p6); (try clear p7); (try clear q7); (try clear hx7); (try clear c8); (try clear p8); (try clear q8); (try clear hx8); (try clear c9); (try clear c9b0); (try clear c9b1); (try clear p2); (try clear p7); (try clear p8); (try clear q7); (try clear q8)
  obtain ⟨kq, x5_2, rfl, HA, HJ2, HB⟩ := hcut
  cases kq with
  | zero => exact absurd HA.out (by simp [impl_between.j1])
  | succ kj2 =>
   have H := HA.out
   clear HA
   simp only [impl_between.j1] at H
   have HC10 := Aside0.mk H
   clear H
   go_upto_block 2 with (fail)
   repeat (go_quiet (fail); go_upto_block 2 with (fail))
   go_cut [6] (fun v6 wc => ∃ (kq : Nat) (x6_9 : Int), v6 = .int .i64 x6_9 ∧ Aside0 (impl_between.j3 kq a0 a1 x5_2 x6_9 = some r) ∧ Aside0 (kq ≤ kj2) ∧ Aside0 (Below w.heap.size w wc))
   case first =>
    have H := HC10.out
    clear HC10
    have H' := Aside0.mk H
    clear H
    go_wp2
    repeat (go_quiet (fail); try go_wp2)
    go_loopg [6] kj2 (fun kq v6 w' => ∃ (x6_2 : Int), v6 = .int .i64 x6_2 ∧ Aside0 (impl_between.l1 kq a0 a1 x5_2 x6_2 = some r) ∧ Aside0 (kq ≤ kj2) ∧ Aside0 (Below w.heap.size w w'))
    case atStart => exact ⟨(0), (by first | rfl | (simp; done) | (simp [*]; done)), H', ⟨Nat.le_refl _⟩, ⟨by repeat (first | (with_reducible first | exact HB.out | apply below_alloc | apply pw_below_drewN | apply below_drew1) | exact HB.out | exact Below.refl _ _)⟩⟩
    case round =>
     clear H'
     (try clear p2); (try clear c4); (try clear c4b0); (try clear c5); (try clear c5b0); (try clear c6); (try clear c6b0); (try clear p6); (try clear p7); (try clear q7); (try clear hx7); (try clear c8); (try clear p8); (try clear q8); (try clear hx8); (try clear c9); (try clear c9b0); (try clear c9b1); (try clear p2); (try clear p6); (try clear p7); (try clear p8); (try clear q7); (try clear q8)
     obtain ⟨x6_2, rfl, HA, HK2, HB⟩ := hrel
     cases gk with
     | zero => exact absurd HA.out (by simp [impl_between.l1])
     | succ k2 =>
      have H := HA.out
      clear HA
      simp only [impl_between.l1] at H
      by_cases c11 : x6_2 < (wrap64 ((a0.size : Int) - x5_2))
      ·rw [if_pos c11] at H
       have c11b0 : decide (x6_2 < (wrap64 ((a0.size : Int) - x5_2))) = true := decide_eq_true c11
       clear c11
       (first | rw [c11b0] | (simp only [i64_w, i32_w]; rw [c11b0]) | skip)
       by_cases c12 : x6_2 < (wrap64 ((a1.size : Int) - x5_2))
       ·rw [if_pos c12] at H
        have c12b0 : decide (x6_2 < (wrap64 ((a1.size : Int) - x5_2))) = true := decide_eq_true c12
        clear c12
        obtain ⟨ji13, hji13⟩ : ∃ j_ : Int, (wrap64 ((wrap64 ((a0.size : Int) - 1)) - x6_2)) = j_ := ⟨_, rfl⟩
        replace H : (if 0 ≤ (ji13) then (if (ji13) < (a0.size : Int) then (if 0 ≤ (wrap64 ((wrap64 ((a1.size : Int) - 1)) - x6_2)) then (if (wrap64 ((wrap64 ((a1.size : Int) - 1)) - x6_2)) < (a1.size : Int) then (if (bt a0 (ji13)) = (bt a1 (wrap64 ((wrap64 ((a1.size : Int) - 1)) - x6_2))) then (impl_between.l1 k2 a0 a1 x5_2 (wrap64 (x6_2 + 1))) else (impl_between.j3 k2 a0 a1 x5_2 x6_2)) else (none)) else (none)) else (none)) else (none)) = some r := by first | (rw [hji13] at H; exact H) | (simp only [hji13] at H ⊢; exact H)
        have hji13w : (IntKind.i64.wrap ((wrap64 ((a0.size : Int) - 1)) - x6_2)) = ji13 := (i64_w _).trans hji13
        by_cases c14 : 0 ≤ (ji13)
        ·rw [if_pos c14] at H
         have c14b0 : decide (0 ≤ (ji13)) = true := decide_eq_true c14
         clear c14
         by_cases c15 : (ji13) < (a0.size : Int)
         ·rw [if_pos c15] at H
          have c15b0 : decide ((ji13) < (a0.size : Int)) = true := decide_eq_true c15
          clear c15
          obtain ⟨ji17, hji17⟩ : ∃ j_ : Int, (wrap64 ((wrap64 ((a1.size : Int) - 1)) - x6_2)) = j_ := ⟨_, rfl⟩
          replace H : (if 0 ≤ (ji17) then (if (ji17) < (a1.size : Int) then (if (bt a0 (ji13)) = (bt a1 (ji17)) then (impl_between.l1 k2 a0 a1 x5_2 (wrap64 (x6_2 + 1))) else (impl_between.j3 k2 a0 a1 x5_2 x6_2)) else (none)) else (none)) = some r := by first | (rw [hji17] at H; exact H) | (simp only [hji17] at H ⊢; exact H)
          have hji17w : (IntKind.i64.wrap ((wrap64 ((a1.size : Int) - 1)) - x6_2)) = ji17 := (i64_w _).trans hji17
          by_cases c18 : 0 ≤ (ji17)
          ·rw [if_pos c18] at H
           have c18b0 : decide (0 ≤ (ji17)) = true := decide_eq_true c18
           clear c18
           by_cases c19 : (ji17) < (a1.size : Int)
           ·rw [if_pos c19] at H
            have c19b0 : decide ((ji17) < (a1.size : Int)) = true := decide_eq_true c19
            clear c19
            by_cases c21 : (bt a0 (ji13)) = (bt a1 (ji17))
            ·rw [if_pos c21] at H
             have c21b0 : ((bt a0 (ji13)) == (bt a1 (ji17))) = true := beq_iff_eq.mpr c21
             have c21b1 : ((bt a0 (ji13)) != (bt a1 (ji17))) = false := bne_eq_false_iff_eq.mpr c21
             clear c21
             have H' := Aside0.mk H
             clear H
             have p16 : 0 ≤ ((ji13) : Int) := of_decide_eq_true (by first | (with_reducible assumption) | assumption)
             have q16 : (ji13) < (a0.size : Int) := of_decide_eq_true (by first | (with_reducible assumption) | assumption)
             have hx16 := bt_at a0 (ji13)
             replace p16 := eq_true p16
             replace q16 := eq_true q16
             have p20 : 0 ≤ ((ji17) : Int) := of_decide_eq_true (by first | (with_reducible assumption) | assumption)
             have q20 : (ji17) < (a1.size : Int) := of_decide_eq_true (by first | (with_reducible assumption) | assumption)
             have hx20 := bt_at a1 (ji17)
             replace p20 := eq_true p20
             replace q20 := eq_true q20
             go_wp2
             repeat (go_quiet (fail); try go_wp2)
             go_roundg k2
             case measure => have := HJ2.out; have := HK2.out; omega
             case rel => exact ⟨(wrap64 (x6_2 + 1)), (by first | rfl | (simp; done) | (simp [*]; done)), H', ⟨by have := HJ2.out; have := HK2.out; omega⟩, ⟨by repeat (first | (with_reducible first | exact HB.out | apply below_alloc | apply pw_below_drewN | apply below_drew1) | exact HB.out | exact Below.refl _ _)⟩⟩
            ·rw [if_neg c21] at H
             have c21b0 : ((bt a0 (ji13)) == (bt a1 (ji17))) = false := beq_eq_false_iff_ne.mpr c21
             have c21b1 : ((bt a0 (ji13)) != (bt a1 (ji17))) = true := bne_iff_ne.mpr c21
             have H' := Aside0.mk H
             clear H
             have p16 : 0 ≤ ((ji13) : Int) := of_decide_eq_true (by first | (with_reducible assumption) | assumption)
             have q16 : (ji13) < (a0.size : Int) := of_decide_eq_true (by first | (with_reducible assumption) | assumption)
             have hx16 := bt_at a0 (ji13)
             replace p16 := eq_true p16
             replace q16 := eq_true q16
             have p20 : 0 ≤ ((ji17) : Int) := of_decide_eq_true (by first | (with_reducible assumption) | assumption)
             have q20 : (ji17) < (a1.size : Int) := of_decide_eq_true (by first | (with_reducible assumption) | assumption)
             have hx20 := bt_at a1 (ji17)
             replace p20 := eq_true p20
             replace q20 := eq_true q20
             go_wp2
             repeat (go_quiet (fail); try go_wp2)
             go_meet
             case rel => exact ⟨_, (x6_2), (by first | rfl | (simp; done) | (simp [*]; done)), H', ⟨by have := HJ2.out; have := HK2.out; first | omega | exact Nat.le_refl _⟩, ⟨by repeat (first | (with_reducible first | exact HB.out | apply below_alloc | apply pw_below_drewN | apply below_drew1) | exact HB.out | exact Below.refl _ _)⟩⟩
           ·rw [if_neg c19] at H
            exact absurd H (by simp)
          ·rw [if_neg c18] at H
           exact absurd H (by simp)
         ·rw [if_neg c15] at H
          exact absurd H (by simp)
        ·rw [if_neg c14] at H
         exact absurd H (by simp)
       ·rw [if_neg c12] at H
        have c12b0 : decide (x6_2 < (wrap64 ((a1.size : Int) - x5_2))) = false := decide_eq_false c12
        clear c12
        have H' := Aside0.mk H
        clear H
        go_wp2
        repeat (go_quiet (fail); try go_wp2)
        go_meet
        case rel => exact ⟨_, (x6_2), (by first | rfl | (simp; done) | (simp [*]; done)), H', ⟨by have := HJ2.out; have := HK2.out; first | omega | exact Nat.le_refl _⟩, ⟨by repeat (first | (with_reducible first | exact HB.out | apply below_alloc | apply pw_below_drewN | apply below_drew1) | exact HB.out | exact Below.refl _ _)⟩⟩
      ·rw [if_neg c11] at H
       have c11b0 : decide (x6_2 < (wrap64 ((a0.size : Int) - x5_2))) = false := decide_eq_false c11
       clear c11
       (first | rw [c11b0] | (simp only [i64_w, i32_w]; rw [c11b0]) | skip)
       have H' := Aside0.mk H
       clear H
       go_wp2
       repeat (go_quiet (fail); try go_wp2)
       go_meet
       case rel => exact ⟨_, (x6_2), (by first | rfl | (simp; done) | (simp [*]; done)), H', ⟨by have := HJ2.out; have := HK2.out; first | omega | exact Nat.le_refl _⟩, ⟨by repeat (first | (with_reducible first | exact HB.out | apply below_alloc | apply pw_below_drewN | apply below_drew1) | exact HB.out | exact Below.refl _ _)⟩⟩
   case rest =>
    clear HC10
    (try clear c1); (try clear p1); (try clear q1); (try clear hx1); (try clear c2); (try clear p2); (try clear q2); (try clear hx2); (try clear c4); (try clear c4b0); (try clear c5); (try clear c5b0); (try clear c6); (try clear c6b0); (try clear p6); (try clear p7); (try clear q7); (try clear hx7); (try clear c8); (try clear p8); (try clear q8); (try clear hx8); (try clear c9); (try clear c9b0); (try clear c9b1); (try clear c11); (try clear c11b0); (try clear c12); (try clear c12b0); (try clear c14); (try clear c14b0); (try clear c15); (try clear c15b0); (try clear p16); (try clear q16); (try clear hx16); (try clear c18); (try clear c18b0); (try clear c19); (try clear c19b0); (try clear p20); (try clear q20); (try clear hx20); (try clear c21); (try clear c21b0); (try clear c21b1); (try clear p16); (try clear p2); (try clear p20); (try clear p6); (try clear p7); (try clear p8); (try clear q16); (try clear q20); (try clear q7); (try clear q8)
    obtain ⟨kq, x6_9, rfl, HA, HJ9, HB⟩ := hcut
    cases kq with
    | zero => exact absurd HA.out (by simp [impl_between.j3])
    | succ kj9 =>
     have H := HA.out
     clear HA
     simp only [impl_between.j3] at H
     obtain ⟨y210, hy210⟩ : ∃ y_ : List (S68), y_ = (([] : List (S68))) := ⟨_, rfl⟩
     replace H : (if 0 ≤ x5_2 then (if x5_2 ≤ (wrap64 ((a0.size : Int) - x6_9)) then (if (wrap64 ((a0.size : Int) - x6_9)) ≤ (a0.size : Int) then (if x5_2 ≤ (wrap64 ((a1.size : Int) - x6_9)) then (if (wrap64 ((a1.size : Int) - x6_9)) ≤ (a1.size : Int) then (impl_between.l2 kj9 x5_2 y210 (a0.extract (x5_2 : Int).toNat ((wrap64 ((a0.size : Int) - x6_9)) : Int).toNat) (a1.extract (x5_2 : Int).toNat ((wrap64 ((a1.size : Int) - x6_9)) : Int).toNat) 0) else (none)) else (none)) else (none)) else (none)) else (none)) = some r := by first | (rw [hy210]; with_reducible exact H) | (have H2_ := (Option.bind_some _ _).symm.trans H; rw [hy210]; with_reducible exact H2_) | (have H2_ := (Option.bind_some _ _).symm.trans H; with_reducible exact H2_) | with_reducible exact H | (rw [hy210]; exact H) | exact H
     have Ny210 := Aside0.mk hy210
     clear hy210
     by_cases c22 : 0 ≤ x5_2
     ·rw [if_pos c22] at H
      have c22b0 := eq_true c22
      have c22b1 : decide (0 ≤ x5_2) = true := decide_eq_true c22
      clear c22
      by_cases c23 : x5_2 ≤ (wrap64 ((a0.size : Int) - x6_9))
      ·rw [if_pos c23] at H
       have c23b0 := eq_true c23
       have c23b1 : decide (x5_2 ≤ (wrap64 ((a0.size : Int) - x6_9))) = true := decide_eq_true c23
       clear c23
       by_cases c24 : (wrap64 ((a0.size : Int) - x6_9)) ≤ (a0.size : Int)
       ·rw [if_pos c24] at H
        have c24b0 := eq_true c24
        have c24b1 : decide ((wrap64 ((a0.size : Int) - x6_9)) ≤ (a0.size : Int)) = true := decide_eq_true c24
        clear c24
        have c25b0 := eq_true (of_decide_eq_true (by first | (with_reducible assumption) | assumption) : 0 ≤ x5_2)
        by_cases c26 : x5_2 ≤ (wrap64 ((a1.size : Int) - x6_9))
        ·rw [if_pos c26] at H
         have c26b0 := eq_true c26
         have c26b1 : decide (x5_2 ≤ (wrap64 ((a1.size : Int) - x6_9))) = true := decide_eq_true c26
         clear c26
         by_cases c27 : (wrap64 ((a1.size : Int) - x6_9)) ≤ (a1.size : Int)
         ·rw [if_pos c27] at H
          have c27b0 := eq_true c27
          have c27b1 : decide ((wrap64 ((a1.size : Int) - x6_9)) ≤ (a1.size : Int)) = true := decide_eq_true c27
          clear c27
          have H' := Aside0.mk H
          clear H
          go_wp2_with (first | ((with_reducible refine gate_dst (N := 81) rfl ?_); refine wpList_range_iter _ rfl _ _ rfl Try.underlying9 (a0.extract (x5_2 : Int).toNat ((wrap64 ((a0.size : Int) - x6_9)) : Int).toNat) rfl ?_; intro rr_ hle_ hin_; simp only [Act.put, List.setIfInBounds_toArray, List.set_cons_succ, List.set_cons_zero]; have HI := Aside0.mk (And.intro (Nat.le_trans HB.out.size hle_) hin_); clear hle_ hin_) | ((with_reducible refine gate_dst (N := 65) rfl ?_); (try (refine gate_guard (by rfl) ?_; dsimp only)); refine Kd.R_lit k68 _ 68 ?hg (N := 65) ?hd (xs := ([] : List (S68))) (inner := []) (ok := fun _ => True) (okp := fun _ => True) ?hr ?hp (fun _ hk => hk) trivial (Below.refl _ _) (Nat.le_refl _) (by simp) ?_; (case hd => rfl); (case hg => rfl); (case hr => first | (go_simp; done) | (go_simp; rfl)); (case hp => exact (Reps.none _ _)); intro v211 w28 ho29 hb hg_ hnew_; clear hg_ hnew_; (first | rw [← Ny210.out] at ho29 | (simp only [Int.reduceToNat] at ho29; rw [← Ny210.out] at ho29)); have n0_ := Aside0.mk (Kd.R_lower ho29 (below_size (by repeat (first | (with_reducible first | exact HB.out | apply below_alloc | apply pw_below_drewN | apply below_drew1) | exact HB.out | exact Below.refl _ _)))); have n1_ := Aside0.mk (below_step (by repeat (first | (with_reducible first | exact HB.out | apply below_alloc | apply pw_below_drewN | apply below_drew1) | exact HB.out | exact Below.refl _ _)) hb); clear HB; have HO212 := n0_; have HB := n1_; clear n0_ n1_; clear hb ho29))
          repeat (go_quiet (fail); try go_wp2_with (first | ((with_reducible refine gate_dst (N := 81) rfl ?_); refine wpList_range_iter _ rfl _ _ rfl Try.underlying9 (a0.extract (x5_2 : Int).toNat ((wrap64 ((a0.size : Int) - x6_9)) : Int).toNat) rfl ?_; intro rr_ hle_ hin_; simp only [Act.put, List.setIfInBounds_toArray, List.set_cons_succ, List.set_cons_zero]; have HI := Aside0.mk (And.intro (Nat.le_trans HB.out.size hle_) hin_); clear hle_ hin_) | ((with_reducible refine gate_dst (N := 65) rfl ?_); (try (refine gate_guard (by rfl) ?_; dsimp only)); refine Kd.R_lit k68 _ 68 ?hg (N := 65) ?hd (xs := ([] : List (S68))) (inner := []) (ok := fun _ => True) (okp := fun _ => True) ?hr ?hp (fun _ hk => hk) trivial (Below.refl _ _) (Nat.le_refl _) (by simp) ?_; (case hd => rfl); (case hg => rfl); (case hr => first | (go_simp; done) | (go_simp; rfl)); (case hp => exact (Reps.none _ _)); intro v211 w28 ho29 hb hg_ hnew_; clear hg_ hnew_; (first | rw [← Ny210.out] at ho29 | (simp only [Int.reduceToNat] at ho29; rw [← Ny210.out] at ho29)); have n0_ := Aside0.mk (Kd.R_lower ho29 (below_size (by repeat (first | (with_reducible first | exact HB.out | apply below_alloc | apply pw_below_drewN | apply below_drew1) | exact HB.out | exact Below.refl _ _)))); have n1_ := Aside0.mk (below_step (by repeat (first | (with_reducible first | exact HB.out | apply below_alloc | apply pw_below_drewN | apply below_drew1) | exact HB.out | exact Below.refl _ _)) hb); clear HB; have HO212 := n0_; have HB := n1_; clear n0_ n1_; clear hb ho29)))
          generalize hold_ : (a0.extract (x5_2 : Int).toNat ((wrap64 ((a0.size : Int) - x6_9)) : Int).toNat) = old_ at H' HI ⊢
          generalize hnow_ : (a1.extract (x5_2 : Int).toNat ((wrap64 ((a1.size : Int) - x6_9)) : Int).toNat) = now_ at H' ⊢
          clear hold_ hnow_
          go_loopg [7] kj9 (fun kq v7 w' => ∃ (x7_3 : List (S68)) (x81_3 : Int), Aside0 (w.heap.size ≤ rr_ ∧ w'.heap[rr_]? = some (.stringIter old_ x81_3.toNat)) ∧ Aside0 (impl_between.l2 kq x5_2 x7_3 old_ now_ x81_3 = some r) ∧ Aside0 (kq ≤ kj9) ∧ Aside0 (Kd.R k68 68 w' w.heap.size (fun _ => True) v7 x7_3) ∧ Aside0 (Below w.heap.size w w'))
          case atStart => exact ⟨(y210), (0), HI, H', ⟨Nat.le_refl _⟩, ⟨by (with_reducible repeat (first | apply Kd.R_alloc | apply Kd.R_drewN | apply Kd.R_drew)); exact HO212.out⟩, ⟨by repeat (first | (with_reducible first | exact HB.out | apply below_alloc | apply pw_below_drewN | apply below_drew1) | exact HB.out | exact Below.refl _ _)⟩⟩
          case round =>
           clear H'
           (try clear c1); (try clear p1); (try clear q1); (try clear hx1); (try clear c2); (try clear p2); (try clear q2); (try clear hx2); (try clear c4); (try clear c4b0); (try clear c5); (try clear c5b0); (try clear c6); (try clear c6b0); (try clear p6); (try clear p7); (try clear q7); (try clear hx7); (try clear c8); (try clear p8); (try clear q8); (try clear hx8); (try clear c9); (try clear c9b0); (try clear c9b1); (try clear c11); (try clear c11b0); (try clear c12); (try clear c12b0); (try clear c14); (try clear c14b0); (try clear c15); (try clear c15b0); (try clear p16); (try clear q16); (try clear hx16); (try clear c18); (try clear c18b0); (try clear c19); (try clear c19b0); (try clear p20); (try clear q20); (try clear hx20); (try clear c21); (try clear c21b0); (try clear c21b1); (try clear c22); (try clear c22b0); (try clear c22b1); (try clear c23); (try clear c23b0); (try clear c23b1); (try clear c24); (try clear c24b0); (try clear c24b1); (try clear c25); (try clear c25b0); (try clear c26); (try clear c26b0); (try clear c26b1); (try clear c27); (try clear c27b0); (try clear c27b1); (try clear p1); (try clear p16); (try clear p2); (try clear p20); (try clear p6); (try clear p7); (try clear p8); (try clear q1); (try clear q16); (try clear q2); (try clear q20); (try clear q7); (try clear q8)
           obtain ⟨x7_3, x81_3, HI, HA, HK3, HO_7, HB⟩ := hrel
           cases gk with
           | zero => exact absurd HA.out (by simp [impl_between.l2])
           | succ k3 =>
            have H := HA.out
            clear HA
            simp only [impl_between.l2] at H
            by_cases c30 : x81_3 < (old_.size : Int)
            ·rw [if_pos c30] at H
             have c30b0 : decide (x81_3 < (old_.size : Int)) = true := decide_eq_true c30
             have IL_ := Aside0.mk c30
             clear c30
             have cg_ : 0 ≤ x81_3 ∧ x81_3 < 1000 ∧ bt old_ x81_3 < 128 := Decidable.byContradiction fun hn_ => by rw [if_neg hn_] at H; exact absurd H (by simp)
             rw [if_pos cg_] at H
             have CG_ := Aside0.mk cg_
             clear cg_
             by_cases c31 : x81_3 ≥ (now_.size : Int)
             ·rw [if_pos c31] at H
              have c31b0 : decide ((now_.size : Int) ≤ x81_3) = true := decide_eq_true c31
              clear c31
              by_cases c32 : x7_3.length < 3518437208883
              ·rw [if_pos c32] at H
               have LMc32 := Aside0.mk c32
               clear c32
               obtain ⟨y216, hy216⟩ : ∃ y_ : List (S68), y_ = (x7_3 ++ [(⟨0, wrap64 (x5_2 + x81_3), 1, (⟨#[]⟩ : ByteArray)⟩ : S68)]) := ⟨_, rfl⟩
               replace H : (impl_between.l2 k3 x5_2 y216 old_ now_ (wrap64 (x81_3 + 1))) = some r := by first | (rw [hy216]; with_reducible exact H) | (have H2_ := (Option.bind_some _ _).symm.trans H; rw [hy216]; with_reducible exact H2_) | (have H2_ := (Option.bind_some _ _).symm.trans H; with_reducible exact H2_) | with_reducible exact H | (rw [hy216]; exact H) | exact H
               have Ny216 := Aside0.mk hy216
               clear hy216
               have H' := Aside0.mk H
               clear H
               go_wp2_with (first | ((with_reducible refine gate_dst (N := 82) rfl ?_); refine wpList_next_more _ rfl (.tmp 81) rfl rr_ old_ x81_3 CG_.out.1 CG_.out.2.1 rfl HI.out.2 IL_.out CG_.out.2.2 ?_; intro ch_ wn_ hin_ hgn_; simp only [Act.put, List.setIfInBounds_toArray, List.set_cons_succ, List.set_cons_zero]; have n0_ := Aside0.mk (below_iter HB.out HI.out.1 hgn_); have n1_ := Aside0.mk (row_iter HO_7.out HI.out.2 hgn_); have n2_ := Aside0.mk (And.intro HI.out.1 hin_); clear HB HO_7 HI hgn_ hin_; have HB := n0_; have HO_7 := n1_; have HI := n2_; clear n0_ n1_ n2_) | ((with_reducible refine gate_builtin (b := .append) (xs := #[.tmp 90, .tmp 95]) rfl ?_); (try (refine gate_guard (by rfl) ?_; dsimp only)); at_builtin; refine Kd.R_append k68 (w0 := w) w.heap.size rfl (.tmp 90) (.tmp 95) 52 68 (.agg #[(.int .i64 0), (.int .i64 0), (.int .i64 0), (.string ⟨#[]⟩)]) 40 rfl Try.underlying52 info68 rfl (by decide) (by omega) u7 x7_3 (⟨0, wrap64 (x5_2 + x81_3), 1, (⟨#[]⟩ : ByteArray)⟩ : S68) [.int .i64 0, .int .i64 (wrap64 (x5_2 + x81_3)), .int .i64 1, .string (⟨#[]⟩ : ByteArray)] (fun _ => True) (fun _ => False) rfl rfl ?aP (fun _ hk => hk.elim) ?aF ?aO ?aB ?aS ?aL ?_; (case aP => exact k68_mkM _ _ _ (⟨0, wrap64 (x5_2 + x81_3), 1, (⟨#[]⟩ : ByteArray)⟩ : S68)); (case aB => exact (by repeat (first | (with_reducible first | exact HB.out | apply below_alloc | apply pw_below_drewN | apply below_drew1) | exact HB.out | exact Below.refl _ _))); (case aF => exact (fun _ _ => trivial)); (case aO => exact (by (with_reducible repeat (first | apply Kd.R_alloc | apply Kd.R_drewN | apply Kd.R_drew)); exact HO_7.out)); (case aS => exact (below_size (by repeat (first | (with_reducible first | exact HB.out | apply below_alloc | apply pw_below_drewN | apply below_drew1) | exact HB.out | exact Below.refl _ _)))); (case aL => have := LMc32.out; omega); intro v217 w33 ho hb hg hat; rw [← Ny216.out] at ho; have n2_ := Aside0.mk (And.intro HI.out.1 (iter_kept hg HI.out.2 (Kd.R_typed HO_7.out))); clear HI; have HI := n2_; clear n2_; have n0_ := Aside0.mk (hb); have n1_ := Aside0.mk (ho); clear HB; clear HO_7; have HB := n0_; have HO218 := n1_; clear n0_ n1_; clear ho hb hg hat))
               repeat (go_quiet (fail); try go_wp2_with (first | ((with_reducible refine gate_builtin (b := .append) (xs := #[.tmp 90, .tmp 95]) rfl ?_); (try (refine gate_guard (by rfl) ?_; dsimp only)); at_builtin; refine Kd.R_append k68 (w0 := w) w.heap.size rfl (.tmp 90) (.tmp 95) 52 68 (.agg #[(.int .i64 0), (.int .i64 0), (.int .i64 0), (.string ⟨#[]⟩)]) 40 rfl Try.underlying52 info68 rfl (by decide) (by omega) u7 x7_3 (⟨0, wrap64 (x5_2 + x81_3), 1, (⟨#[]⟩ : ByteArray)⟩ : S68) [.int .i64 0, .int .i64 (wrap64 (x5_2 + x81_3)), .int .i64 1, .string (⟨#[]⟩ : ByteArray)] (fun _ => True) (fun _ => False) rfl rfl ?aP (fun _ hk => hk.elim) ?aF ?aO ?aB ?aS ?aL ?_; (case aP => exact k68_mkM _ _ _ (⟨0, wrap64 (x5_2 + x81_3), 1, (⟨#[]⟩ : ByteArray)⟩ : S68)); (case aB => exact (by repeat (first | (with_reducible first | exact HB.out | apply below_alloc | apply pw_below_drewN | apply below_drew1) | exact HB.out | exact Below.refl _ _))); (case aF => exact (fun _ _ => trivial)); (case aO => exact (by (with_reducible repeat (first | apply Kd.R_alloc | apply Kd.R_drewN | apply Kd.R_drew)); exact HO_7.out)); (case aS => exact (below_size (by repeat (first | (with_reducible first | exact HB.out | apply below_alloc | apply pw_below_drewN | apply below_drew1) | exact HB.out | exact Below.refl _ _)))); (case aL => have := LMc32.out; omega); intro v217 w33 ho hb hg hat; rw [← Ny216.out] at ho; have n2_ := Aside0.mk (And.intro HI.out.1 (iter_kept hg HI.out.2 (Kd.R_typed HO_7.out))); clear HI; have HI := n2_; clear n2_; have n0_ := Aside0.mk (hb); have n1_ := Aside0.mk (ho); clear HB; clear HO_7; have HB := n0_; have HO218 := n1_; clear n0_ n1_; clear ho hb hg hat)))
               go_roundg k3
               case measure => have := HJ2.out; have := HJ9.out; have := HK3.out; omega
               case rel => exact ⟨(y216), (wrap64 (x81_3 + 1)), HI, H', ⟨by have := HJ2.out; have := HJ9.out; have := HK3.out; omega⟩, ⟨by (with_reducible repeat (first | apply Kd.R_alloc | apply Kd.R_drewN | apply Kd.R_drew)); exact HO218.out⟩, ⟨by repeat (first | (with_reducible first | exact HB.out | apply below_alloc | apply pw_below_drewN | apply below_drew1) | exact HB.out | exact Below.refl _ _)⟩⟩
              ·rw [if_neg c32] at H
               exact absurd H (by simp)
             ·rw [if_neg c31] at H
              have c31b0 : decide ((now_.size : Int) ≤ x81_3) = false := decide_eq_false c31
              clear c31
              by_cases c34 : 0 ≤ x81_3
              ·rw [if_pos c34] at H
               have c34b0 : decide (0 ≤ x81_3) = true := decide_eq_true c34
               clear c34
               by_cases c36 : x81_3 < (now_.size : Int)
               ·rw [if_pos c36] at H
                have c36b0 : decide (x81_3 < (now_.size : Int)) = true := decide_eq_true c36
                clear c36
                by_cases c38 : (bt old_ x81_3) = (bt now_ x81_3)
                ·rw [if_pos c38] at H
                 have c38b0 : ((bt old_ x81_3) == (bt now_ x81_3)) = true := beq_iff_eq.mpr c38
                 have c38b1 : ((bt old_ x81_3) != (bt now_ x81_3)) = false := bne_eq_false_iff_eq.mpr c38
                 clear c38
                 have H' := Aside0.mk H
                 clear H
                 have p35 : 0 ≤ (x81_3 : Int) := of_decide_eq_true (by first | (with_reducible assumption) | assumption)
                 have q35 : x81_3 < (old_.size : Int) := of_decide_eq_true (by first | (with_reducible assumption) | assumption)
                 have hx35 := bt_at old_ x81_3
                 replace p35 := eq_true p35
                 replace q35 := eq_true q35
                 have p37 : 0 ≤ (x81_3 : Int) := of_decide_eq_true (by first | (with_reducible assumption) | assumption)
                 have q37 : x81_3 < (now_.size : Int) := of_decide_eq_true (by first | (with_reducible assumption) | assumption)
                 have hx37 := bt_at now_ x81_3
                 replace p37 := eq_true p37
                 replace q37 := eq_true q37
                 go_wp2_with (first | ((with_reducible refine gate_dst (N := 82) rfl ?_); refine wpList_next_more _ rfl (.tmp 81) rfl rr_ old_ x81_3 CG_.out.1 CG_.out.2.1 rfl HI.out.2 IL_.out CG_.out.2.2 ?_; intro ch_ wn_ hin_ hgn_; simp only [Act.put, List.setIfInBounds_toArray, List.set_cons_succ, List.set_cons_zero]; have n0_ := Aside0.mk (below_iter HB.out HI.out.1 hgn_); have n1_ := Aside0.mk (row_iter HO_7.out HI.out.2 hgn_); have n2_ := Aside0.mk (And.intro HI.out.1 hin_); clear HB HO_7 HI hgn_ hin_; have HB := n0_; have HO_7 := n1_; have HI := n2_; clear n0_ n1_ n2_))
                 repeat (go_quiet (fail); try go_wp2)
                 go_roundg k3
                 case measure => have := HJ2.out; have := HJ9.out; have := HK3.out; omega
                 case rel => exact ⟨(x7_3), (wrap64 (x81_3 + 1)), HI, H', ⟨by have := HJ2.out; have := HJ9.out; have := HK3.out; omega⟩, ⟨by (with_reducible repeat (first | apply Kd.R_alloc | apply Kd.R_drewN | apply Kd.R_drew)); exact HO_7.out⟩, ⟨by repeat (first | (with_reducible first | exact HB.out | apply below_alloc | apply pw_below_drewN | apply below_drew1) | exact HB.out | exact Below.refl _ _)⟩⟩
                ·rw [if_neg c38] at H
                 have c38b0 : ((bt old_ x81_3) == (bt now_ x81_3)) = false := beq_eq_false_iff_ne.mpr c38
                 have c38b1 : ((bt old_ x81_3) != (bt now_ x81_3)) = true := bne_iff_ne.mpr c38
                 have c39b0 := eq_true (of_decide_eq_true (by first | (with_reducible assumption) | assumption) : 0 ≤ x81_3)
                 by_cases c40 : x81_3 ≤ (wrap64 (x81_3 + 1))
                 ·rw [if_pos c40] at H
                  have c40b0 := eq_true c40
                  have c40b1 : decide (x81_3 ≤ (wrap64 (x81_3 + 1))) = true := decide_eq_true c40
                  by_cases c41 : (wrap64 (x81_3 + 1)) ≤ (now_.size : Int)
                  ·rw [if_pos c41] at H
                   have c41b0 := eq_true c41
                   have c41b1 : decide ((wrap64 (x81_3 + 1)) ≤ (now_.size : Int)) = true := decide_eq_true c41
                   by_cases c42 : x7_3.length < 3518437208883
                   ·rw [if_pos c42] at H
                    have LMc42 := Aside0.mk c42
                    clear c42
                    obtain ⟨y219, hy219⟩ : ∃ y_ : List (S68), y_ = (x7_3 ++ [(⟨0, wrap64 (x5_2 + x81_3), 3, now_.extract (x81_3 : Int).toNat ((wrap64 (x81_3 + 1)) : Int).toNat⟩ : S68)]) := ⟨_, rfl⟩
                    replace H : (impl_between.l2 k3 x5_2 y219 old_ now_ (wrap64 (x81_3 + 1))) = some r := by first | (rw [hy219]; with_reducible exact H) | (have H2_ := (Option.bind_some _ _).symm.trans H; rw [hy219]; with_reducible exact H2_) | (have H2_ := (Option.bind_some _ _).symm.trans H; with_reducible exact H2_) | with_reducible exact H | (rw [hy219]; exact H) | exact H
                    have Ny219 := Aside0.mk hy219
                    clear hy219
                    have H' := Aside0.mk H
                    clear H
                    have p35 : 0 ≤ (x81_3 : Int) := of_decide_eq_true (by first | (with_reducible assumption) | assumption)
                    have q35 : x81_3 < (old_.size : Int) := of_decide_eq_true (by first | (with_reducible assumption) | assumption)
                    have hx35 := bt_at old_ x81_3
                    replace p35 := eq_true p35
                    replace q35 := eq_true q35
                    have p37 : 0 ≤ (x81_3 : Int) := of_decide_eq_true (by first | (with_reducible assumption) | assumption)
                    have q37 : x81_3 < (now_.size : Int) := of_decide_eq_true (by first | (with_reducible assumption) | assumption)
                    have hx37 := bt_at now_ x81_3
                    replace p37 := eq_true p37
                    replace q37 := eq_true q37
                    go_wp2_with (first | ((with_reducible refine gate_dst (N := 82) rfl ?_); refine wpList_next_more _ rfl (.tmp 81) rfl rr_ old_ x81_3 CG_.out.1 CG_.out.2.1 rfl HI.out.2 IL_.out CG_.out.2.2 ?_; intro ch_ wn_ hin_ hgn_; simp only [Act.put, List.setIfInBounds_toArray, List.set_cons_succ, List.set_cons_zero]; have n0_ := Aside0.mk (below_iter HB.out HI.out.1 hgn_); have n1_ := Aside0.mk (row_iter HO_7.out HI.out.2 hgn_); have n2_ := Aside0.mk (And.intro HI.out.1 hin_); clear HB HO_7 HI hgn_ hin_; have HB := n0_; have HO_7 := n1_; have HI := n2_; clear n0_ n1_ n2_) | ((with_reducible refine gate_builtin (b := .append) (xs := #[.tmp 105, .tmp 115]) rfl ?_); (try (refine gate_guard (by rfl) ?_; dsimp only)); at_builtin; refine Kd.R_append k68 (w0 := w) w.heap.size rfl (.tmp 105) (.tmp 115) 52 68 (.agg #[(.int .i64 0), (.int .i64 0), (.int .i64 0), (.string ⟨#[]⟩)]) 40 rfl Try.underlying52 info68 rfl (by decide) (by omega) u7 x7_3 (⟨0, wrap64 (x5_2 + x81_3), 3, now_.extract (x81_3 : Int).toNat ((wrap64 (x81_3 + 1)) : Int).toNat⟩ : S68) [.int .i64 0, .int .i64 (wrap64 (x5_2 + x81_3)), .int .i64 3, .string (now_.extract (x81_3 : Int).toNat ((wrap64 (x81_3 + 1)) : Int).toNat)] (fun _ => True) (fun _ => False) rfl rfl ?aP (fun _ hk => hk.elim) ?aF ?aO ?aB ?aS ?aL ?_; (case aP => exact k68_mkM _ _ _ (⟨0, wrap64 (x5_2 + x81_3), 3, now_.extract (x81_3 : Int).toNat ((wrap64 (x81_3 + 1)) : Int).toNat⟩ : S68)); (case aB => exact (by repeat (first | (with_reducible first | exact HB.out | apply below_alloc | apply pw_below_drewN | apply below_drew1) | exact HB.out | exact Below.refl _ _))); (case aF => exact (fun _ _ => trivial)); (case aO => exact (by (with_reducible repeat (first | apply Kd.R_alloc | apply Kd.R_drewN | apply Kd.R_drew)); exact HO_7.out)); (case aS => exact (below_size (by repeat (first | (with_reducible first | exact HB.out | apply below_alloc | apply pw_below_drewN | apply below_drew1) | exact HB.out | exact Below.refl _ _)))); (case aL => have := LMc42.out; omega); intro v220 w43 ho hb hg hat; rw [← Ny219.out] at ho; have n2_ := Aside0.mk (And.intro HI.out.1 (iter_kept hg HI.out.2 (Kd.R_typed HO_7.out))); clear HI; have HI := n2_; clear n2_; have n0_ := Aside0.mk (hb); have n1_ := Aside0.mk (ho); clear HB; clear HO_7; have HB := n0_; have HO221 := n1_; clear n0_ n1_; clear ho hb hg hat))
                    repeat (go_quiet (fail); try go_wp2_with (first | ((with_reducible refine gate_builtin (b := .append) (xs := #[.tmp 105, .tmp 115]) rfl ?_); (try (refine gate_guard (by rfl) ?_; dsimp only)); at_builtin; refine Kd.R_append k68 (w0 := w) w.heap.size rfl (.tmp 105) (.tmp 115) 52 68 (.agg #[(.int .i64 0), (.int .i64 0), (.int .i64 0), (.string ⟨#[]⟩)]) 40 rfl Try.underlying52 info68 rfl (by decide) (by omega) u7 x7_3 (⟨0, wrap64 (x5_2 + x81_3), 3, now_.extract (x81_3 : Int).toNat ((wrap64 (x81_3 + 1)) : Int).toNat⟩ : S68) [.int .i64 0, .int .i64 (wrap64 (x5_2 + x81_3)), .int .i64 3, .string (now_.extract (x81_3 : Int).toNat ((wrap64 (x81_3 + 1)) : Int).toNat)] (fun _ => True) (fun _ => False) rfl rfl ?aP (fun _ hk => hk.elim) ?aF ?aO ?aB ?aS ?aL ?_; (case aP => exact k68_mkM _ _ _ (⟨0, wrap64 (x5_2 + x81_3), 3, now_.extract (x81_3 : Int).toNat ((wrap64 (x81_3 + 1)) : Int).toNat⟩ : S68)); (case aB => exact (by repeat (first | (with_reducible first | exact HB.out | apply below_alloc | apply pw_below_drewN | apply below_drew1) | exact HB.out | exact Below.refl _ _))); (case aF => exact (fun _ _ => trivial)); (case aO => exact (by (with_reducible repeat (first | apply Kd.R_alloc | apply Kd.R_drewN | apply Kd.R_drew)); exact HO_7.out)); (case aS => exact (below_size (by repeat (first | (with_reducible first | exact HB.out | apply below_alloc | apply pw_below_drewN | apply below_drew1) | exact HB.out | exact Below.refl _ _)))); (case aL => have := LMc42.out; omega); intro v220 w43 ho hb hg hat; rw [← Ny219.out] at ho; have n2_ := Aside0.mk (And.intro HI.out.1 (iter_kept hg HI.out.2 (Kd.R_typed HO_7.out))); clear HI; have HI := n2_; clear n2_; have n0_ := Aside0.mk (hb); have n1_ := Aside0.mk (ho); clear HB; clear HO_7; have HB := n0_; have HO221 := n1_; clear n0_ n1_; clear ho hb hg hat)))
                    go_roundg k3
                    case measure => have := HJ2.out; have := HJ9.out; have := HK3.out; omega
                    case rel => exact ⟨(y219), (wrap64 (x81_3 + 1)), HI, H', ⟨by have := HJ2.out; have := HJ9.out; have := HK3.out; omega⟩, ⟨by (with_reducible repeat (first | apply Kd.R_alloc | apply Kd.R_drewN | apply Kd.R_drew)); exact HO221.out⟩, ⟨by repeat (first | (with_reducible first | exact HB.out | apply below_alloc | apply pw_below_drewN | apply below_drew1) | exact HB.out | exact Below.refl _ _)⟩⟩
                   ·rw [if_neg c42] at H
                    exact absurd H (by simp)
                  ·rw [if_neg c41] at H
                   exact absurd H (by simp)
                 ·rw [if_neg c40] at H
                  exact absurd H (by simp)
               ·rw [if_neg c36] at H
                exact absurd H (by simp)
              ·rw [if_neg c34] at H
               exact absurd H (by simp)
            ·rw [if_neg c30] at H
             have c30b0 : decide (x81_3 < (old_.size : Int)) = false := decide_eq_false c30
             have IL_ := Aside0.mk c30
             clear c30
             by_cases c44 : (now_.size : Int) > (old_.size : Int)
             ·rw [if_pos c44] at H
              have c44b0 : decide ((old_.size : Int) < (now_.size : Int)) = true := decide_eq_true c44
              have c44b1 : decide (old_.size < now_.size) = true := decide_eq_true (Int.ofNat_lt.mp c44)
              clear c44
              obtain ⟨ji45, hji45⟩ : ∃ j_ : Int, (old_.size : Int) = j_ := ⟨_, rfl⟩
              replace H : (if 0 ≤ (ji45) then (if (ji45) ≤ (now_.size : Int) then (if x7_3.length < 3518437208883 then (some (x7_3 ++ [(⟨0, wrap64 (x5_2 + (ji45)), 2, now_.extract ((ji45) : Int).toNat now_.size⟩ : S68)])) else (none)) else (none)) else (none)) = some r := by first | (rw [hji45] at H; exact H) | (simp only [hji45] at H ⊢; exact H)
              (try rw [hji45] at c30b0)
              (try rw [hji45] at c44b0)
              by_cases c46 : 0 ≤ (ji45)
              ·rw [if_pos c46] at H
               have c46b0 := eq_true c46
               have c46b1 : decide (0 ≤ (ji45)) = true := decide_eq_true c46
               clear c46
               by_cases c47 : (ji45) ≤ (now_.size : Int)
               ·rw [if_pos c47] at H
                have c47b0 := eq_true c47
                have c47b1 : decide ((ji45) ≤ (now_.size : Int)) = true := decide_eq_true c47
                clear c47
                by_cases c48 : x7_3.length < 3518437208883
                ·rw [if_pos c48] at H
                 have LMc48 := Aside0.mk c48
                 clear c48
                 obtain ⟨y213, hy213⟩ : ∃ y_ : List (S68), y_ = (x7_3 ++ [(⟨0, wrap64 (x5_2 + (ji45)), 2, now_.extract ((ji45) : Int).toNat now_.size⟩ : S68)]) := ⟨_, rfl⟩
                 replace H : (some y213) = some r := by first | (rw [hy213]; with_reducible exact H) | (have H2_ := (Option.bind_some _ _).symm.trans H; rw [hy213]; with_reducible exact H2_) | (have H2_ := (Option.bind_some _ _).symm.trans H; with_reducible exact H2_) | with_reducible exact H | (rw [hy213]; exact H) | exact H
                 have Ny213 := Aside0.mk hy213
                 clear hy213
                 obtain rfl := Option.some.inj H
                 go_wp2_with (first | ((with_reducible refine gate_dst (N := 82) rfl ?_); refine wpList_next_done _ rfl (.tmp 81) rfl rr_ old_ x81_3 rfl HI.out.2 IL_.out ?_; simp only [Act.put, List.setIfInBounds_toArray, List.set_cons_succ, List.set_cons_zero]) | ((with_reducible refine gate_builtin (b := .append) (xs := #[.tmp 122, .tmp 132]) rfl ?_); (try (refine gate_guard (by rfl) ?_; dsimp only)); at_builtin; refine Kd.R_append k68 (w0 := w) w.heap.size rfl (.tmp 122) (.tmp 132) 52 68 (.agg #[(.int .i64 0), (.int .i64 0), (.int .i64 0), (.string ⟨#[]⟩)]) 40 rfl Try.underlying52 info68 rfl (by decide) (by omega) u7 x7_3 (⟨0, wrap64 (x5_2 + (ji45)), 2, now_.extract ((ji45) : Int).toNat now_.size⟩ : S68) [.int .i64 0, .int .i64 (wrap64 (x5_2 + (ji45))), .int .i64 2, .string (now_.extract ((ji45) : Int).toNat now_.size)] (fun _ => True) (fun _ => False) rfl rfl ?aP (fun _ hk => hk.elim) ?aF ?aO ?aB ?aS ?aL ?_; (case aP => exact k68_mkM _ _ _ (⟨0, wrap64 (x5_2 + (ji45)), 2, now_.extract ((ji45) : Int).toNat now_.size⟩ : S68)); (case aB => exact (by repeat (first | (with_reducible first | exact HB.out | apply below_alloc | apply pw_below_drewN | apply below_drew1) | exact HB.out | exact Below.refl _ _))); (case aF => exact (fun _ _ => trivial)); (case aO => exact (by (with_reducible repeat (first | apply Kd.R_alloc | apply Kd.R_drewN | apply Kd.R_drew)); exact HO_7.out)); (case aS => exact (below_size (by repeat (first | (with_reducible first | exact HB.out | apply below_alloc | apply pw_below_drewN | apply below_drew1) | exact HB.out | exact Below.refl _ _)))); (case aL => have := LMc48.out; omega); intro v214 w49 ho hb hg hat; rw [← Ny213.out] at ho; have n0_ := Aside0.mk (hb); have n1_ := Aside0.mk (ho); clear HB; clear HO_7; have HB := n0_; have HO215 := n1_; clear n0_ n1_; clear ho hb hg hat))
                 repeat (go_quiet (fail); try go_wp2_with (first | ((with_reducible refine gate_builtin (b := .append) (xs := #[.tmp 122, .tmp 132]) rfl ?_); (try (refine gate_guard (by rfl) ?_; dsimp only)); at_builtin; refine Kd.R_append k68 (w0 := w) w.heap.size rfl (.tmp 122) (.tmp 132) 52 68 (.agg #[(.int .i64 0), (.int .i64 0), (.int .i64 0), (.string ⟨#[]⟩)]) 40 rfl Try.underlying52 info68 rfl (by decide) (by omega) u7 x7_3 (⟨0, wrap64 (x5_2 + (ji45)), 2, now_.extract ((ji45) : Int).toNat now_.size⟩ : S68) [.int .i64 0, .int .i64 (wrap64 (x5_2 + (ji45))), .int .i64 2, .string (now_.extract ((ji45) : Int).toNat now_.size)] (fun _ => True) (fun _ => False) rfl rfl ?aP (fun _ hk => hk.elim) ?aF ?aO ?aB ?aS ?aL ?_; (case aP => exact k68_mkM _ _ _ (⟨0, wrap64 (x5_2 + (ji45)), 2, now_.extract ((ji45) : Int).toNat now_.size⟩ : S68)); (case aB => exact (by repeat (first | (with_reducible first | exact HB.out | apply below_alloc | apply pw_below_drewN | apply below_drew1) | exact HB.out | exact Below.refl _ _))); (case aF => exact (fun _ _ => trivial)); (case aO => exact (by (with_reducible repeat (first | apply Kd.R_alloc | apply Kd.R_drewN | apply Kd.R_drew)); exact HO_7.out)); (case aS => exact (below_size (by repeat (first | (with_reducible first | exact HB.out | apply below_alloc | apply pw_below_drewN | apply below_drew1) | exact HB.out | exact Below.refl _ _)))); (case aL => have := LMc48.out; omega); intro v214 w49 ho hb hg hat; rw [← Ny213.out] at ho; have n0_ := Aside0.mk (hb); have n1_ := Aside0.mk (ho); clear HB; clear HO_7; have HB := n0_; have HO215 := n1_; clear n0_ n1_; clear ho hb hg hat)))
                 go_ret
                 exact ⟨_, by first | rfl | (simp [errW_none, errW_some] <;> rfl) | (simp only [← hji45]; first | rfl | (simp [errW_none, errW_some] <;> rfl)) | (simp [*, errW_none, errW_some] <;> rfl), by (with_reducible repeat (first | apply Kd.R_alloc | apply Kd.R_drewN | apply Kd.R_drew)); exact HO215.out, by repeat (first | (with_reducible first | exact HB.out | apply below_alloc | apply pw_below_drewN | apply below_drew1) | exact HB.out | exact Below.refl _ _)⟩
                ·rw [if_neg c48] at H
                 exact absurd H (by simp)
               ·rw [if_neg c47] at H
                exact absurd H (by simp)
              ·rw [if_neg c46] at H
               exact absurd H (by simp)
             ·rw [if_neg c44] at H
              have c44b0 : decide ((old_.size : Int) < (now_.size : Int)) = false := decide_eq_false c44
              have c44b1 : decide (old_.size < now_.size) = false := decide_eq_false (fun h => c44 (Int.ofNat_lt.mpr h))
              clear c44
              obtain rfl := Option.some.inj H
              go_wp2_with (first | ((with_reducible refine gate_dst (N := 82) rfl ?_); refine wpList_next_done _ rfl (.tmp 81) rfl rr_ old_ x81_3 rfl HI.out.2 IL_.out ?_; simp only [Act.put, List.setIfInBounds_toArray, List.set_cons_succ, List.set_cons_zero]))
              repeat (go_quiet (fail); try go_wp2)
              go_ret
              exact ⟨_, by first | rfl | (simp [errW_none, errW_some] <;> rfl) | (simp [*, errW_none, errW_some] <;> rfl), by (with_reducible repeat (first | apply Kd.R_alloc | apply Kd.R_drewN | apply Kd.R_drew)); exact HO_7.out, by repeat (first | (with_reducible first | exact HB.out | apply below_alloc | apply pw_below_drewN | apply below_drew1) | exact HB.out | exact Below.refl _ _)⟩
         ·rw [if_neg c27] at H
          exact absurd H (by simp)
        ·rw [if_neg c26] at H
         exact absurd H (by simp)
       ·rw [if_neg c24] at H
        exact absurd H (by simp)
      ·rw [if_neg c23] at H
       exact absurd H (by simp)
     ·rw [if_neg c22] at H
      exact absurd H (by simp)

end Go.Proofs.Ytcnhdcgiapjpoaa.PFnExactMarksToNext
