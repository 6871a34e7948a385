/- The printed functions of the law FnExactFillChase and their contracts, mended by this session's program (mend.py) where the printed walk stops. No condition. -/
import Derived.Test.YthpgmjlhakdemaaQFnExactFillChasex0
import Derived.Test.YthpgmjlhakdemaaQFnExactFillChasex2
namespace Go.Proofs.Ythpgmjlhakdemaa.PFnExactFillChase
open Go.RowKit Go.Proofs.YthpgmjlhakdemaaW.PrintWords Go.Proofs.YthpgmjlhakdemaaW.PrintLast Go.Proofs.YthpgmjlhakdemaaW.PrintMore
attribute [local go_sem] max2_int min2_int max_two min_two max_three min_three max_four min_four   -- for this text's walks alone
set_option linter.unusedVariables false
set_option linter.unusedSimpArgs false

/-! ### spec_fuFill: function 55 -/
mutual
def spec_fuFill.j1 : Nat → List Int → Int → Int → List (S50) → List Int → Int → Option ((List (S66)) × Bool)
 | 0, _, _, _, _, _, _ => none
 | k + 1, x0, x1, x2, x3, x4, x12 => if x12 = (x0.length : Int) then (some (([] : List (S66)), ((x4.length : Int) == (x3.length : Int)))) else (spec_fuFill.l1 k x0 x1 x2 x3 x4 x12 x3 (x3.length : Int) 0)
def spec_fuFill.l1 : Nat → List Int → Int → Int → List (S50) → List Int → Int → List (S50) → Int → Int → Option ((List (S66)) × Bool)
 | 0, _, _, _, _, _, _, _, _, _ => none
 | k + 1, x0, x1, x2, x3, x4, x12, x43, x44, x45 => if x45 < x44 then (if 0 ≤ x45 then (if x45 < (x43.length : Int) then ((spec_l1Has.f k x4 x45).bind fun t147 => (if t147 = true then (spec_fuFill.l1 k x0 x1 x2 x3 x4 x12 x43 x44 (wrap64 (x45 + 1))) else ((some (([false, true] : List Bool) : List Bool)).bind fun y148 => (spec_fuFill.l2 k x0 x1 x2 x3 x4 x12 x45 x43 x44 x45 y148 (y148.length : Int) 0 ((rd_T50 x43 x45).f0) ((rd_T50 x43 x45).f1))))) else (none)) else (none)) else (some (([] : List (S66)), false))
def spec_fuFill.l2 : Nat → List Int → Int → Int → List (S50) → List Int → Int → Int → List (S50) → Int → Int → List Bool → Int → Int → Int → Int → Option ((List (S66)) × Bool)
 | 0, _, _, _, _, _, _, _, _, _, _, _, _, _, _, _ => none
 | k + 1, x0, x1, x2, x3, x4, x12, x13, x43, x44, x45, x53, x54, x55, x147000, x147001 => if x55 < x54 then (if 0 ≤ x55 then (if x55 < (x53.length : Int) then (if rdOf false x53 x55 = true then (spec_fuFill.j4 k x0 x1 x2 x3 x4 x12 x13 (rdOf false x53 x55) x43 x44 x45 x53 x54 x55 (x147000 == x147001) x147000 x147001) else (spec_fuFill.j4 k x0 x1 x2 x3 x4 x12 x13 (rdOf false x53 x55) x43 x44 x45 x53 x54 x55 false x147000 x147001)) else (none)) else (none)) else (spec_fuFill.l1 k x0 x1 x2 x3 x4 x12 x43 x44 (wrap64 (x45 + 1)))
def spec_fuFill.j4 : Nat → List Int → Int → Int → List (S50) → List Int → Int → Int → Bool → List (S50) → Int → Int → List Bool → Int → Int → Bool → Int → Int → Option ((List (S66)) × Bool)
 | 0, _, _, _, _, _, _, _, _, _, _, _, _, _, _, _, _, _ => none
 | k + 1, x0, x1, x2, x3, x4, x12, x13, x16, x43, x44, x45, x53, x54, x55, x66, x147000, x147001 => if x66 = true then (spec_fuFill.l2 k x0 x1 x2 x3 x4 x12 x13 x43 x44 x45 x53 x54 (wrap64 (x55 + 1)) x147000 x147001) else ((spec_fuPut.f k x0 x1 x2 x147000 x147001 x16 x12 x13).bind fun bt152 => (if bt152.2 = true then ((spec_l1Own.f x4).bind fun t156 => (if t156.length < 17592186044416 then ((spec_fuFill.f k bt152.1 x1 x2 x3 (t156 ++ [x13])).bind fun bt162 => (if bt162.2 = true then (if x1 = 0 then (none) else ((some (([(⟨x13, Int.tmod x12 x1, wrap64 (Int.tdiv x12 x1), x16⟩ : S66)] : List (S66)) : List (S66))).bind fun y166 => (if y166.length + bt162.1.length < 4398046511104 then (some ((y166 ++ bt162.1), true)) else (none)))) else (spec_fuFill.l2 k x0 x1 x2 x3 x4 x12 x13 x43 x44 x45 x53 x54 (wrap64 (x55 + 1)) x147000 x147001))) else (none))) else (spec_fuFill.l2 k x0 x1 x2 x3 x4 x12 x13 x43 x44 x45 x53 x54 (wrap64 (x55 + 1)) x147000 x147001)))
def spec_fuFill.l0 : Nat → List Int → Int → Int → List (S50) → List Int → Int → Option ((List (S66)) × Bool)
 | 0, _, _, _, _, _, _ => none
 | k + 1, x0, x1, x2, x3, x4, x12 => if x12 < (x0.length : Int) then (if 0 ≤ x12 then (if (rd x0 x12) ≥ 0 then (spec_fuFill.l0 k x0 x1 x2 x3 x4 (wrap64 (x12 + 1))) else (spec_fuFill.j1 k x0 x1 x2 x3 x4 x12)) else (none)) else (spec_fuFill.j1 k x0 x1 x2 x3 x4 x12)
def spec_fuFill.f : Nat → List Int → Int → Int → List (S50) → List Int → Option ((List (S66)) × Bool)
 | 0, _, _, _, _, _ => none
 | k + 1, l0, a1, a2, l3, l4 => spec_fuFill.l0 k l0 a1 a2 l3 l4 0
end
theorem spec_fuFill.mono_l : ∀ k, (∀ y0 y1 y2 y3 y4, LeO (spec_fuFill.f k y0 y1 y2 y3 y4) (spec_fuFill.f (k + 1) y0 y1 y2 y3 y4)) ∧ (∀ y0 y1 y2 y3 y4 y5, LeO (spec_fuFill.j1 k y0 y1 y2 y3 y4 y5) (spec_fuFill.j1 (k + 1) y0 y1 y2 y3 y4 y5)) ∧ (∀ y0 y1 y2 y3 y4 y5 y6 y7 y8, LeO (spec_fuFill.l1 k y0 y1 y2 y3 y4 y5 y6 y7 y8) (spec_fuFill.l1 (k + 1) y0 y1 y2 y3 y4 y5 y6 y7 y8)) ∧ (∀ y0 y1 y2 y3 y4 y5 y6 y7 y8 y9 y10 y11 y12 y13 y14, LeO (spec_fuFill.l2 k y0 y1 y2 y3 y4 y5 y6 y7 y8 y9 y10 y11 y12 y13 y14) (spec_fuFill.l2 (k + 1) y0 y1 y2 y3 y4 y5 y6 y7 y8 y9 y10 y11 y12 y13 y14)) ∧ (∀ y0 y1 y2 y3 y4 y5 y6 y7 y8 y9 y10 y11 y12 y13 y14 y15 y16, LeO (spec_fuFill.j4 k y0 y1 y2 y3 y4 y5 y6 y7 y8 y9 y10 y11 y12 y13 y14 y15 y16) (spec_fuFill.j4 (k + 1) y0 y1 y2 y3 y4 y5 y6 y7 y8 y9 y10 y11 y12 y13 y14 y15 y16)) ∧ (∀ y0 y1 y2 y3 y4 y5, LeO (spec_fuFill.l0 k y0 y1 y2 y3 y4 y5) (spec_fuFill.l0 (k + 1) y0 y1 y2 y3 y4 y5))
 | 0 => ⟨fun _ _ _ _ _ r h => by simp [spec_fuFill.f] at h, fun _ _ _ _ _ _ r h => by simp [spec_fuFill.j1] at h, fun _ _ _ _ _ _ _ _ _ r h => by simp [spec_fuFill.l1] at h, fun _ _ _ _ _ _ _ _ _ _ _ _ _ _ _ r h => by simp [spec_fuFill.l2] at h, fun _ _ _ _ _ _ _ _ _ _ _ _ _ _ _ _ _ r h => by simp [spec_fuFill.j4] at h, fun _ _ _ _ _ _ r h => by simp [spec_fuFill.l0] at h⟩
 | k + 1 => by
  obtain ⟨ih0, ih1, ih2, ih3, ih4, ih5⟩ := spec_fuFill.mono_l k
  refine ⟨?_, ?_, ?_, ?_, ?_, ?_⟩
  ·intro y0 y1 y2 y3 y4
   unfold spec_fuFill.f
   repeat' first
   | (with_reducible exact ih0 _ _ _ _ _)
   | (with_reducible exact ih1 _ _ _ _ _ _)
   | (with_reducible exact ih2 _ _ _ _ _ _ _ _ _)
   | (with_reducible exact ih3 _ _ _ _ _ _ _ _ _ _ _ _ _ _ _)
   | (with_reducible exact ih4 _ _ _ _ _ _ _ _ _ _ _ _ _ _ _ _ _)
   | (with_reducible exact ih5 _ _ _ _ _ _)
   | (with_reducible exact spec_fuPut.mono _ _ _ _ _ _ _ _ _)
   | (with_reducible exact spec_l1Has.mono _ _ _)
   | (with_reducible exact LeO.refl _)
   | (with_reducible exact LeO.none _)
   | (with_reducible refine LeO.ite ?_ ?_)
   | (with_reducible refine LeO.bind ?_ (fun _ => ?_))
   | exact ih0 _ _ _ _ _
   | exact ih1 _ _ _ _ _ _
   | exact ih2 _ _ _ _ _ _ _ _ _
   | exact ih3 _ _ _ _ _ _ _ _ _ _ _ _ _ _ _
   | exact ih4 _ _ _ _ _ _ _ _ _ _ _ _ _ _ _ _ _
   | exact ih5 _ _ _ _ _ _
   | exact spec_fuPut.mono _ _ _ _ _ _ _ _ _
   | exact spec_l1Has.mono _ _ _
   | exact LeO.none _
   | refine LeO.ite ?_ ?_
   | refine LeO.bind ?_ (fun _ => ?_)
  ·intro y0 y1 y2 y3 y4 y5
   unfold spec_fuFill.j1
   repeat' first
   | (with_reducible exact ih0 _ _ _ _ _)
   | (with_reducible exact ih1 _ _ _ _ _ _)
   | (with_reducible exact ih2 _ _ _ _ _ _ _ _ _)
   | (with_reducible exact ih3 _ _ _ _ _ _ _ _ _ _ _ _ _ _ _)
   | (with_reducible exact ih4 _ _ _ _ _ _ _ _ _ _ _ _ _ _ _ _ _)
   | (with_reducible exact ih5 _ _ _ _ _ _)
   | (with_reducible exact spec_fuPut.mono _ _ _ _ _ _ _ _ _)
   | (with_reducible exact spec_l1Has.mono _ _ _)
   | (with_reducible exact LeO.refl _)
   | (with_reducible exact LeO.none _)
   | (with_reducible refine LeO.ite ?_ ?_)
   | (with_reducible refine LeO.bind ?_ (fun _ => ?_))
   | exact ih0 _ _ _ _ _
   | exact ih1 _ _ _ _ _ _
   | exact ih2 _ _ _ _ _ _ _ _ _
   | exact ih3 _ _ _ _ _ _ _ _ _ _ _ _ _ _ _
   | exact ih4 _ _ _ _ _ _ _ _ _ _ _ _ _ _ _ _ _
   | exact ih5 _ _ _ _ _ _
   | exact spec_fuPut.mono _ _ _ _ _ _ _ _ _
   | exact spec_l1Has.mono _ _ _
   | exact LeO.none _
   | refine LeO.ite ?_ ?_
   | refine LeO.bind ?_ (fun _ => ?_)
  ·intro y0 y1 y2 y3 y4 y5 y6 y7 y8
   unfold spec_fuFill.l1
   repeat' first
   | (with_reducible exact ih0 _ _ _ _ _)
   | (with_reducible exact ih1 _ _ _ _ _ _)
   | (with_reducible exact ih2 _ _ _ _ _ _ _ _ _)
   | (with_reducible exact ih3 _ _ _ _ _ _ _ _ _ _ _ _ _ _ _)
   | (with_reducible exact ih4 _ _ _ _ _ _ _ _ _ _ _ _ _ _ _ _ _)
   | (with_reducible exact ih5 _ _ _ _ _ _)
   | (with_reducible exact spec_fuPut.mono _ _ _ _ _ _ _ _ _)
   | (with_reducible exact spec_l1Has.mono _ _ _)
   | (with_reducible exact LeO.refl _)
   | (with_reducible exact LeO.none _)
   | (with_reducible refine LeO.ite ?_ ?_)
   | (with_reducible refine LeO.bind ?_ (fun _ => ?_))
   | exact ih0 _ _ _ _ _
   | exact ih1 _ _ _ _ _ _
   | exact ih2 _ _ _ _ _ _ _ _ _
   | exact ih3 _ _ _ _ _ _ _ _ _ _ _ _ _ _ _
   | exact ih4 _ _ _ _ _ _ _ _ _ _ _ _ _ _ _ _ _
   | exact ih5 _ _ _ _ _ _
   | exact spec_fuPut.mono _ _ _ _ _ _ _ _ _
   | exact spec_l1Has.mono _ _ _
   | exact LeO.none _
   | refine LeO.ite ?_ ?_
   | refine LeO.bind ?_ (fun _ => ?_)
  ·intro y0 y1 y2 y3 y4 y5 y6 y7 y8 y9 y10 y11 y12 y13 y14
   unfold spec_fuFill.l2
   repeat' first
   | (with_reducible exact ih0 _ _ _ _ _)
   | (with_reducible exact ih1 _ _ _ _ _ _)
   | (with_reducible exact ih2 _ _ _ _ _ _ _ _ _)
   | (with_reducible exact ih3 _ _ _ _ _ _ _ _ _ _ _ _ _ _ _)
   | (with_reducible exact ih4 _ _ _ _ _ _ _ _ _ _ _ _ _ _ _ _ _)
   | (with_reducible exact ih5 _ _ _ _ _ _)
   | (with_reducible exact spec_fuPut.mono _ _ _ _ _ _ _ _ _)
   | (with_reducible exact spec_l1Has.mono _ _ _)
   | (with_reducible exact LeO.refl _)
   | (with_reducible exact LeO.none _)
   | (with_reducible refine LeO.ite ?_ ?_)
   | (with_reducible refine LeO.bind ?_ (fun _ => ?_))
   | exact ih0 _ _ _ _ _
   | exact ih1 _ _ _ _ _ _
   | exact ih2 _ _ _ _ _ _ _ _ _
   | exact ih3 _ _ _ _ _ _ _ _ _ _ _ _ _ _ _
   | exact ih4 _ _ _ _ _ _ _ _ _ _ _ _ _ _ _ _ _
   | exact ih5 _ _ _ _ _ _
   | exact spec_fuPut.mono _ _ _ _ _ _ _ _ _
   | exact spec_l1Has.mono _ _ _
   | exact LeO.none _
   | refine LeO.ite ?_ ?_
   | refine LeO.bind ?_ (fun _ => ?_)
  ·intro y0 y1 y2 y3 y4 y5 y6 y7 y8 y9 y10 y11 y12 y13 y14 y15 y16
   unfold spec_fuFill.j4
   repeat' first
   | (with_reducible exact ih0 _ _ _ _ _)
   | (with_reducible exact ih1 _ _ _ _ _ _)
   | (with_reducible exact ih2 _ _ _ _ _ _ _ _ _)
   | (with_reducible exact ih3 _ _ _ _ _ _ _ _ _ _ _ _ _ _ _)
   | (with_reducible exact ih4 _ _ _ _ _ _ _ _ _ _ _ _ _ _ _ _ _)
   | (with_reducible exact ih5 _ _ _ _ _ _)
   | (with_reducible exact spec_fuPut.mono _ _ _ _ _ _ _ _ _)
   | (with_reducible exact spec_l1Has.mono _ _ _)
   | (with_reducible exact LeO.refl _)
   | (with_reducible exact LeO.none _)
   | (with_reducible refine LeO.ite ?_ ?_)
   | (with_reducible refine LeO.bind ?_ (fun _ => ?_))
   | exact ih0 _ _ _ _ _
   | exact ih1 _ _ _ _ _ _
   | exact ih2 _ _ _ _ _ _ _ _ _
   | exact ih3 _ _ _ _ _ _ _ _ _ _ _ _ _ _ _
   | exact ih4 _ _ _ _ _ _ _ _ _ _ _ _ _ _ _ _ _
   | exact ih5 _ _ _ _ _ _
   | exact spec_fuPut.mono _ _ _ _ _ _ _ _ _
   | exact spec_l1Has.mono _ _ _
   | exact LeO.none _
   | refine LeO.ite ?_ ?_
   | refine LeO.bind ?_ (fun _ => ?_)
  ·intro y0 y1 y2 y3 y4 y5
   unfold spec_fuFill.l0
   repeat' first
   | (with_reducible exact ih0 _ _ _ _ _)
   | (with_reducible exact ih1 _ _ _ _ _ _)
   | (with_reducible exact ih2 _ _ _ _ _ _ _ _ _)
   | (with_reducible exact ih3 _ _ _ _ _ _ _ _ _ _ _ _ _ _ _)
   | (with_reducible exact ih4 _ _ _ _ _ _ _ _ _ _ _ _ _ _ _ _ _)
   | (with_reducible exact ih5 _ _ _ _ _ _)
   | (with_reducible exact spec_fuPut.mono _ _ _ _ _ _ _ _ _)
   | (with_reducible exact spec_l1Has.mono _ _ _)
   | (with_reducible exact LeO.refl _)
   | (with_reducible exact LeO.none _)
   | (with_reducible refine LeO.ite ?_ ?_)
   | (with_reducible refine LeO.bind ?_ (fun _ => ?_))
   | exact ih0 _ _ _ _ _
   | exact ih1 _ _ _ _ _ _
   | exact ih2 _ _ _ _ _ _ _ _ _
   | exact ih3 _ _ _ _ _ _ _ _ _ _ _ _ _ _ _
   | exact ih4 _ _ _ _ _ _ _ _ _ _ _ _ _ _ _ _ _
   | exact ih5 _ _ _ _ _ _
   | exact spec_fuPut.mono _ _ _ _ _ _ _ _ _
   | exact spec_l1Has.mono _ _ _
   | exact LeO.none _
   | refine LeO.ite ?_ ?_
   | refine LeO.bind ?_ (fun _ => ?_)
theorem spec_fuFill.mono : ∀ a0 a1 a2 a3 a4 k, LeO (spec_fuFill.f k a0 a1 a2 a3 a4) (spec_fuFill.f (k + 1) a0 a1 a2 a3 a4) := by
 intro a0 a1 a2 a3 a4 k
 obtain ⟨ih0, ih1, ih2, ih3, ih4, ih5⟩ := spec_fuFill.mono_l k
 exact ih0 a0 a1 a2 a3 a4
def spec_fuFill.T18 : Bool × List (List Nat × List Nat) := (true, [([], []), ([], []), ([], []), ([1, 2], [1, 2]), ([], []), ([], []), ([4, 5], [4, 5]), ([], []), ([0, 3, 6, 7], [0, 3, 6, 7]), ([8], [8]), ([], []), ([9, 10], [9, 10]), ([11, 11, 0, 1, 2, 3, 4, 5, 6, 7, 8, 9, 10, 11], [11]), ([12, 0, 1, 2, 3, 4, 5, 6, 7, 8, 9, 10, 11, 12], [])])
def spec_fuFill.B18 : List Nat := [0, 0, 0, 6, 0, 0, 48, 0, 255, 511, 0, 2047, 4095, 8191]
theorem spec_fuFill.tab18 : rtab .any (opsOf Try.f55 18) = spec_fuFill.T18 := by kernel_rfl
theorem spec_fuFill.bits18 : waitsOk spec_fuFill.T18.2 spec_fuFill.B18 = true := by kernel_rfl
set_option maxHeartbeats 8000000 in
set_option maxRecDepth 100000 in
theorem spec_fuFill.calls (k : Nat) : ∀ (A0 : Option Addr) (c0 : Nat) (l0 : List Int) (a1 : Int) (a2 : Int) (A3 : Option Addr) (c3 : Nat) (l3 : List (S50)) (A4 : Option Addr) (c4 : Nat) (l4 : List Int) (r1 : List (S66)) (r2 : Bool) (w : World) (hr0 : Kd.C (Kd.int .i64) w A0 l0.length l0) (hc0 : l0.length ≤ c0) (hr3 : Kd.C k50 w A3 l3.length l3) (hc3 : l3.length ≤ c3) (hr4 : Kd.C (Kd.int .i64) w A4 l4.length l4) (hc4 : l4.length ≤ c4) (h : spec_fuFill.f k l0 a1 a2 l3 l4 = some (r1, r2)),
  Calls Try.prog 55 #[.slice A0 l0.length c0, .int .i64 a1, .int .i64 a2, .slice A3 l3.length c3, .slice A4 l4.length c4] w fun e w' => ∃ v0_ : Value, e = .returned (.tuple #[v0_, .bool r2]) ∧ Kd.R k66 66 w' w.heap.size (fun _ => True) v0_ r1 ∧ Below w.heap.size w w' := by
 induction k using Nat.strongRecOn with
 | _ k ih =>
 intro A0 c0 l0 a1 a2 A3 c3 l3 A4 c4 l4 r1 r2 w hr0 hc0 hr3 hc3 hr4 hc4 h
 cases k with
 | zero => exact absurd h (by simp [spec_fuFill.f])
 | succ k =>
 simp only [spec_fuFill.f] at h
 have hu50 := Try.underlying50
 have hu66 := Try.underlying66
 have HR0 := Aside0.mk hr0
 have HC0 := Aside0.mk hc0
 clear hr0 hc0
 have HR3 := Aside0.mk hr3
 have HC3 := Aside0.mk hc3
 clear hr3 hc3
 have HR4 := Aside0.mk hr4
 have HC4 := Aside0.mk hc4
 clear hr4 hc4
 have HB := Aside0.mk (Below.refl w.heap.size w)
 have H : (spec_fuFill.l0 k l0 a1 a2 l3 l4 0) = some (r1, r2) := h
 clear h
 have HC6 := Aside0.mk H
 clear H
 go_enter Try.func55, Try.ntmps55
 go_upto_block 0 with (fail)
 go_cut [12] (fun v12 wc => ∃ (kq : Nat) (x12_5 : Int), v12 = .int .i64 x12_5 ∧ Aside0 (spec_fuFill.j1 kq l0 a1 a2 l3 l4 x12_5 = some (r1, r2)) ∧ Aside0 (kq ≤ k) ∧ Aside0 (Below w.heap.size w wc))
 case first =>
  have H := HC6.out
  clear HC6
  have H' := Aside0.mk H
  clear H
  go_wp2
  go_loopg [12] k (fun kq v12 w' => ∃ (x12_1 : Int), v12 = .int .i64 x12_1 ∧ Aside0 (spec_fuFill.l0 kq l0 a1 a2 l3 l4 x12_1 = some (r1, r2)) ∧ Aside0 (kq ≤ k) ∧ Aside0 (Below w.heap.size w w'))
  case atStart => exact ⟨(0), (by first | rfl | (simp; done) | (simp [*]; done)), H', ⟨Nat.le_refl _⟩, ⟨by repeat (first | (with_reducible first | exact HB.out | apply below_alloc | apply pw_below_drewN | apply below_drew1) | exact HB.out | exact Below.refl _ _)⟩⟩
  case round =>
   clear H'
   (try clear p2); (try clear c3); (try clear c4); (try clear c5)
   obtain ⟨x12_1, rfl, HA, HK1, HB⟩ := hrel
   cases gk with
   | zero => exact absurd HA.out (by simp [spec_fuFill.l0])
   | succ k1 =>
    have H := HA.out
    clear HA
    simp only [spec_fuFill.l0] at H
    by_cases c7 : x12_1 < (l0.length : Int)
    ·rw [if_pos c7] at H
     have c7b0 : decide (x12_1 < (l0.length : Int)) = true := decide_eq_true c7
     clear c7
     (first | rw [c7b0] | (simp only [i64_w, i32_w]; rw [c7b0]) | skip)
     by_cases c8 : 0 ≤ x12_1
     ·rw [if_pos c8] at H
      have c8b0 : decide (0 ≤ x12_1) = true := decide_eq_true c8
      clear c8
      by_cases c9 : (rd l0 x12_1) ≥ 0
      ·rw [if_pos c9] at H
       have c9b0 : decide (0 ≤ (rd l0 x12_1)) = true := decide_eq_true c9
       clear c9
       have H' := Aside0.mk H
       clear H
       have p144 : 0 ≤ (x12_1 : Int) := of_decide_eq_true (by first | (with_reducible assumption) | assumption)
       have q144 : x12_1 < (l0.length : Int) := of_decide_eq_true (by first | (with_reducible assumption) | assumption)
       obtain ⟨ad144, e144, hx144_0⟩ := Kd.at_int HR0.out x12_1 p144 q144
       cases e144
       replace hx144_0 := (HB.out.cell (World.block_lt_of_cell? w _ hx144_0)).trans hx144_0
       replace p144 := eq_true p144
       replace q144 := eq_true q144
       go_wp2
       go_roundg k1
       case measure => have := HK1.out; omega
       case rel => exact ⟨(wrap64 (x12_1 + 1)), (by first | rfl | (simp; done) | (simp [*]; done)), H', ⟨by have := HK1.out; omega⟩, ⟨by repeat (first | (with_reducible first | exact HB.out | apply below_alloc | apply pw_below_drewN | apply below_drew1) | exact HB.out | exact Below.refl _ _)⟩⟩
      ·rw [if_neg c9] at H
       have c9b0 : decide (0 ≤ (rd l0 x12_1)) = false := decide_eq_false c9
       clear c9
       have H' := Aside0.mk H
       clear H
       have p144 : 0 ≤ (x12_1 : Int) := of_decide_eq_true (by first | (with_reducible assumption) | assumption)
       have q144 : x12_1 < (l0.length : Int) := of_decide_eq_true (by first | (with_reducible assumption) | assumption)
       obtain ⟨ad144, e144, hx144_0⟩ := Kd.at_int HR0.out x12_1 p144 q144
       cases e144
       replace hx144_0 := (HB.out.cell (World.block_lt_of_cell? w _ hx144_0)).trans hx144_0
       replace p144 := eq_true p144
       replace q144 := eq_true q144
       go_wp2
       go_meet
       case rel => exact ⟨_, (x12_1), (by first | rfl | (simp; done) | (simp [*]; done)), H', ⟨by have := HK1.out; first | omega | exact Nat.le_refl _⟩, ⟨by repeat (first | (with_reducible first | exact HB.out | apply below_alloc | apply pw_below_drewN | apply below_drew1) | exact HB.out | exact Below.refl _ _)⟩⟩
     ·rw [if_neg c8] at H
      exact absurd H (by simp)
    ·rw [if_neg c7] at H
     have c7b0 : decide (x12_1 < (l0.length : Int)) = false := decide_eq_false c7
     clear c7
     (first | rw [c7b0] | (simp only [i64_w, i32_w]; rw [c7b0]) | skip)
     have H' := Aside0.mk H
     clear H
     go_wp2
     go_meet
     case rel => exact ⟨_, (x12_1), (by first | rfl | (simp; done) | (simp [*]; done)), H', ⟨by have := HK1.out; first | omega | exact Nat.le_refl _⟩, ⟨by repeat (first | (with_reducible first | exact HB.out | apply below_alloc | apply pw_below_drewN | apply below_drew1) | exact HB.out | exact Below.refl _ _)⟩⟩
 case rest =>
  clear HC6
  (try clear p1); (try clear q1); (try clear hx1); (try clear p2); (try clear c3); (try clear c4); (try clear c5); (try clear p6); (try clear c7); (try clear c7b0); (try clear c8); (try clear c8b0); (try clear c9); (try clear c9b0); (try clear hx144_0); (try clear p144); (try clear p2); (try clear q144)
  obtain ⟨kq, x12_5, rfl, HA, HJ5, HB⟩ := hcut
  cases kq with
  | zero => exact absurd HA.out (by simp [spec_fuFill.j1])
  | succ kj5 =>
   have H := HA.out
   clear HA
   simp only [spec_fuFill.j1] at H
   by_cases c10 : x12_5 = (l0.length : Int)
   ·rw [if_pos c10] at H
    have c10b0 : (x12_5 == (l0.length : Int)) = true := beq_iff_eq.mpr c10
    have c10b1 : (x12_5 != (l0.length : Int)) = false := bne_eq_false_iff_eq.mpr c10
    clear c10
    simp only [Option.some.injEq, Prod.mk.injEq] at H
    obtain ⟨rfl, rfl⟩ := H
    go_wp2
    go_ret2
    exact ⟨_, by first | rfl | (simp [errW_none, errW_some] <;> rfl) | (simp [*, errW_none, errW_some] <;> rfl), by first | exact Kd.R_nil _ _ _ _ _ | exact Kd.N_nil _ _ _ _ _ | exact Kd.V_nil _ _ _ _ _ | exact Kd.Q_nil _ _ _ _ _ | exact Kd.S_nil _ _ _ _ _, by repeat (first | (with_reducible first | exact HB.out | apply below_alloc | apply pw_below_drewN | apply below_drew1) | exact HB.out | exact Below.refl _ _)⟩
   ·rw [if_neg c10] at H
    have c10b0 : (x12_5 == (l0.length : Int)) = false := beq_eq_false_iff_ne.mpr c10
    have c10b1 : (x12_5 != (l0.length : Int)) = true := bne_iff_ne.mpr c10
    have H' := Aside0.mk H
    clear H
    go_wp2
    go_loopg [45] kj5 (fun kq v45 w' => ∃ (x45_2 : Int), v45 = .int .i64 x45_2 ∧ Aside0 (spec_fuFill.l1 kq l0 a1 a2 l3 l4 x12_5 l3 (l3.length : Int) x45_2 = some (r1, r2)) ∧ Aside0 (kq ≤ kj5) ∧ Aside0 (Below w.heap.size w w'))
    case atStart => exact ⟨(0), (by first | rfl | (simp; done) | (simp [*]; done)), H', ⟨Nat.le_refl _⟩, ⟨by repeat (first | (with_reducible first | exact HB.out | apply below_alloc | apply pw_below_drewN | apply below_drew1) | exact HB.out | exact Below.refl _ _)⟩⟩
    case round =>
     clear H'
     (try clear c1); (try clear p1); (try clear q1); (try clear hx1); (try clear p2); (try clear c3); (try clear c4); (try clear c5); (try clear p6); (try clear c7); (try clear c7b0); (try clear c8); (try clear c8b0); (try clear c9); (try clear c9b0); (try clear c10); (try clear c10b0); (try clear c10b1); (try clear hx144_0); (try clear p1); (try clear p144); (try clear p2); (try clear p6); (try clear q1); (try clear q144)
     obtain ⟨x45_2, rfl, HA, HK2, HB⟩ := hrel
     cases gk with
     | zero => exact absurd HA.out (by simp [spec_fuFill.l1])
     | succ k2 =>
      have H := HA.out
      clear HA
      simp only [spec_fuFill.l1] at H
      by_cases c11 : x45_2 < (l3.length : Int)
      ·rw [if_pos c11] at H
       have c11b0 : decide (x45_2 < (l3.length : Int)) = true := decide_eq_true c11
       clear c11
       by_cases c12 : 0 ≤ x45_2
       ·rw [if_pos c12] at H
        have c12b0 : decide (0 ≤ x45_2) = true := decide_eq_true c12
        clear c12
        by_cases c13 : x45_2 < (l3.length : Int)
        ·rw [if_pos c13] at H
         have c13b0 : decide (x45_2 < (l3.length : Int)) = true := decide_eq_true c13
         clear c13
         replace H := Option.bind_eq_some_iff.mp H
         obtain ⟨t147, A140, H⟩ := H
         replace H : (if t147 = true then (spec_fuFill.l1 k2 l0 a1 a2 l3 l4 x12_5 l3 (l3.length : Int) (wrap64 (x45_2 + 1))) else ((some (([false, true] : List Bool) : List Bool)).bind fun y148 => (spec_fuFill.l2 k2 l0 a1 a2 l3 l4 x12_5 x45_2 l3 (l3.length : Int) x45_2 y148 (y148.length : Int) 0 ((rd_T50 l3 x45_2).f0) ((rd_T50 l3 x45_2).f1)))) = some (r1, r2) := H
         have A14 := Aside0.mk A140
         clear A140
         by_cases c15 : t147 = true
         ·subst c15
          have H1 : (spec_fuFill.l1 k2 l0 a1 a2 l3 l4 x12_5 l3 (l3.length : Int) (wrap64 (x45_2 + 1))) = some (r1, r2) := by rw [if_pos rfl] at H; exact H
          clear H
          have H := H1
          clear H1
          have H' := Aside0.mk H
          clear H
          have p145 : 0 ≤ (x45_2 : Int) := of_decide_eq_true (by first | (with_reducible assumption) | assumption)
          have q145 : x45_2 < (l3.length : Int) := of_decide_eq_true (by first | (with_reducible assumption) | assumption)
          obtain ⟨ad145, e145, hx145_0, hx145_1⟩ := at_T50 HR3.out x45_2 p145 q145
          cases e145
          replace hx145_0 := (HB.out.cell (World.block_lt_of_cell? w _ hx145_0)).trans hx145_0
          replace hx145_1 := (HB.out.cell (World.block_lt_of_cell? w _ hx145_1)).trans hx145_1
          replace p145 := eq_true p145
          replace q145 := eq_true q145
          go_wp2_with (first | ((with_reducible refine gate_dst (N := 14) rfl ?_); refine box_event ?hg (N := 14) ?hd (cs := #[.int .i64 0, .int .i64 0]) (t := 50) ?hr ?_; (case hd => rfl); (case hg => rfl); (case hr => first | (go_simp; done) | (go_simp; rfl)); intro gb146 hg w16 hbox hb; have n0_ := Aside0.mk (below_step (by repeat (first | (with_reducible first | exact HB.out | apply below_alloc | apply pw_below_drewN | apply below_drew1) | exact HB.out | exact Below.refl _ _)) hb); have n1_ := Aside0.mk (hbox); have n2_ := Aside0.mk ((by rw [hg]; exact (below_size (by repeat (first | (with_reducible first | exact HB.out | apply below_alloc | apply pw_below_drewN | apply below_drew1) | exact HB.out | exact Below.refl _ _))) : w.heap.size ≤ gb146)); have n3_ := Aside0.mk ((by rw [hg]; exact (below_size (by repeat (first | (with_reducible first | exact HB.out | apply below_alloc | apply pw_below_drewN | apply below_drew1) | exact HB.out | exact Below.refl _ _))) : w.heap.size ≤ gb146)); clear HB; have HB := n0_; have BK146 := n1_; have GW146 := n2_; have GE146 := n3_; clear n0_ n1_ n2_ n3_; clear hb hbox hg; have hcz17_0 : w16.cell? ⟨gb146, 0, none⟩ = some (.int .i64 0) := (blk_cell BK146.out 0).trans rfl; have hcz17_1 : w16.cell? ⟨gb146, 1, none⟩ = some (.int .i64 0) := (blk_cell BK146.out 1).trans rfl; have hfz17_0 := blk_frozen BK146.out 0; have hfz17_1 := blk_frozen BK146.out 1) | ((with_reducible refine gate_callee (f := 64) rfl ?_); refine goesL_ (some 52) rfl rfl Try.func64 (by kernel_rfl) rfl #[.slice A4 l4.length c4, .int .i64 x45_2] rfl (by (try simp only [List.map_toArray, List.map_cons, List.map_nil]); first | done | rfl | (simp only [List.length_drop, List.length_take]; rfl)) ?_; (with_reducible refine (spec_l1Has.calls k2 _ _ l4 x45_2 true _ ?side1 ?side2 A14.out).mono ?_); (case side1 => exact Kd.C_below HR4.out (by repeat (first | (with_reducible first | exact HB.out | apply below_alloc | apply pw_below_drewN | apply below_drew1 | refine below_set ?_ GE146.out) | exact HB.out | exact Below.refl _ _))); (case side2 => exact HC4.out); rintro e w' ⟨rfl, ⟨nd, rfl⟩⟩; refine ⟨_, rfl, ?_⟩))
          go_roundg k2
          case measure => have := HJ5.out; have := HK2.out; omega
          case rel => exact ⟨(wrap64 (x45_2 + 1)), (by first | rfl | (simp; done) | (simp [*]; done)), H', ⟨by have := HJ5.out; have := HK2.out; omega⟩, ⟨by repeat (first | (with_reducible first | exact HB.out | apply below_alloc | apply pw_below_drewN | apply below_drew1 | refine below_set ?_ GE146.out) | exact HB.out | exact Below.refl _ _)⟩⟩
         ·replace c15 := Bool.eq_false_iff.mpr c15
          subst c15
          have H1 : ((some (([false, true] : List Bool) : List Bool)).bind fun y148 => (spec_fuFill.l2 k2 l0 a1 a2 l3 l4 x12_5 x45_2 l3 (l3.length : Int) x45_2 y148 (y148.length : Int) 0 ((rd_T50 l3 x45_2).f0) ((rd_T50 l3 x45_2).f1))) = some (r1, r2) := by rw [if_neg (show ¬ (false = true) by decide)] at H; exact H
          clear H
          have H := H1
          clear H1
          obtain ⟨y148, hy148⟩ : ∃ y_ : List Bool, y_ = (([false, true] : List Bool)) := ⟨_, rfl⟩
          replace H : (spec_fuFill.l2 k2 l0 a1 a2 l3 l4 x12_5 x45_2 l3 (l3.length : Int) x45_2 y148 (y148.length : Int) 0 ((rd_T50 l3 x45_2).f0) ((rd_T50 l3 x45_2).f1)) = some (r1, r2) := by first | (rw [hy148]; with_reducible exact H) | (have H2_ := (Option.bind_some _ _).symm.trans H; rw [hy148]; with_reducible exact H2_) | (have H2_ := (Option.bind_some _ _).symm.trans H; with_reducible exact H2_) | with_reducible exact H | (rw [hy148]; exact H) | exact H
          have Ny148 := Aside0.mk hy148
          clear hy148
          have H' := Aside0.mk H
          clear H
          have p145 : 0 ≤ (x45_2 : Int) := of_decide_eq_true (by first | (with_reducible assumption) | assumption)
          have q145 : x45_2 < (l3.length : Int) := of_decide_eq_true (by first | (with_reducible assumption) | assumption)
          obtain ⟨ad145, e145, hx145_0, hx145_1⟩ := at_T50 HR3.out x45_2 p145 q145
          cases e145
          replace hx145_0 := (HB.out.cell (World.block_lt_of_cell? w _ hx145_0)).trans hx145_0
          replace hx145_1 := (HB.out.cell (World.block_lt_of_cell? w _ hx145_1)).trans hx145_1
          replace p145 := eq_true p145
          replace q145 := eq_true q145
          go_wp2_with (first | ((with_reducible refine gate_dst (N := 14) rfl ?_); refine box_event ?hg (N := 14) ?hd (cs := #[.int .i64 0, .int .i64 0]) (t := 50) ?hr ?_; (case hd => rfl); (case hg => rfl); (case hr => first | (go_simp; done) | (go_simp; rfl)); intro gb146 hg w18 hbox hb; have n0_ := Aside0.mk (below_step (by repeat (first | (with_reducible first | exact HB.out | apply below_alloc | apply pw_below_drewN | apply below_drew1) | exact HB.out | exact Below.refl _ _)) hb); have n1_ := Aside0.mk (hbox); have n2_ := Aside0.mk ((by rw [hg]; exact (below_size (by repeat (first | (with_reducible first | exact HB.out | apply below_alloc | apply pw_below_drewN | apply below_drew1) | exact HB.out | exact Below.refl _ _))) : w.heap.size ≤ gb146)); have n3_ := Aside0.mk ((by rw [hg]; exact (below_size (by repeat (first | (with_reducible first | exact HB.out | apply below_alloc | apply pw_below_drewN | apply below_drew1) | exact HB.out | exact Below.refl _ _))) : w.heap.size ≤ gb146)); clear HB; have HB := n0_; have BK146 := n1_; have GW146 := n2_; have GE146 := n3_; clear n0_ n1_ n2_ n3_; clear hb hbox hg; have hcz19_0 : w18.cell? ⟨gb146, 0, none⟩ = some (.int .i64 0) := (blk_cell BK146.out 0).trans rfl; have hcz19_1 : w18.cell? ⟨gb146, 1, none⟩ = some (.int .i64 0) := (blk_cell BK146.out 1).trans rfl; have hfz19_0 := blk_frozen BK146.out 0; have hfz19_1 := blk_frozen BK146.out 1) | ((with_reducible refine gate_callee (f := 64) rfl ?_); refine goesL_ (some 52) rfl rfl Try.func64 (by kernel_rfl) rfl #[.slice A4 l4.length c4, .int .i64 x45_2] rfl (by (try simp only [List.map_toArray, List.map_cons, List.map_nil]); first | done | rfl | (simp only [List.length_drop, List.length_take]; rfl)) ?_; (with_reducible refine (spec_l1Has.calls k2 _ _ l4 x45_2 false _ ?side1 ?side2 A14.out).mono ?_); (case side1 => exact Kd.C_below HR4.out (by repeat (first | (with_reducible first | exact HB.out | apply below_alloc | apply pw_below_drewN | apply below_drew1 | refine below_set ?_ GE146.out) | exact HB.out | exact Below.refl _ _))); (case side2 => exact HC4.out); rintro e w' ⟨rfl, ⟨nd, rfl⟩⟩; refine ⟨_, rfl, ?_⟩) | ((with_reducible refine gate_dst (N := 53) rfl ?_); refine Kd.R_lit Kd.bool _ 4 ?hg (N := 53) ?hd (xs := ([false, true] : List Bool)) (inner := [.bool false, .bool true]) (ok := fun _ => True) (okp := fun _ => True) ?hr ?hp (fun _ hk => hk) trivial (Below.refl _ _) (Nat.le_refl _) (by simp) ?_; (case hd => rfl); (case hg => rfl); (case hr => first | (go_simp; done) | (go_simp; rfl)); (case hp => exact (Reps.one (show Kd.M Kd.bool _ _ _ false [.bool false] from rfl) (Reps.one (show Kd.M Kd.bool _ _ _ true [.bool true] from rfl) (Reps.none _ _)))); intro v149 w20 ho21 hb hg_ hnew_; clear hg_ hnew_; (first | rw [← Ny148.out] at ho21 | (simp only [Int.reduceToNat] at ho21; rw [← Ny148.out] at ho21)); have n0_ := Aside0.mk (Kd.R_lower ho21 (below_size (by repeat (first | (with_reducible first | exact HB.out | apply below_alloc | apply pw_below_drewN | apply below_drew1 | refine below_set ?_ GE146.out) | exact HB.out | exact Below.refl _ _)))); have n1_ := Aside0.mk (blk_below (g := gb146) (o := .cells #[.int .i64 ((rd_T50 l3 x45_2).f0), .int .i64 ((rd_T50 l3 x45_2).f1)] 50 (0, 0)) (by (with_reducible repeat (first | refine blk_drewN ?_ _ | refine blk_drew ?_ | refine blk_alloc ?_ _)); refine blk_put (cs := #[.int .i64 ((rd_T50 l3 x45_2).f0), .int .i64 0]) ?_ 1 _ rfl; (with_reducible repeat (first | refine blk_drewN ?_ _ | refine blk_drew ?_ | refine blk_alloc ?_ _)); refine blk_put (cs := #[.int .i64 0, .int .i64 0]) ?_ 0 _ rfl; (with_reducible repeat (first | refine blk_drewN ?_ _ | refine blk_drew ?_ | refine blk_alloc ?_ _)); exact BK146.out) hb); have n2_ := Aside0.mk (below_step (by repeat (first | (with_reducible first | exact HB.out | apply below_alloc | apply pw_below_drewN | apply below_drew1 | refine below_set ?_ GE146.out) | exact HB.out | exact Below.refl _ _)) hb); clear BK146; clear HB; have HO150 := n0_; have BK146 := n1_; have HB := n2_; clear n0_ n1_ n2_; clear hb ho21; obtain ⟨Ao22, co22, eo22⟩ := Kd.R_slice HO150.out; subst eo22))
          go_loopg [55] k2 (fun kq v55 w' => ∃ (x55_3 : Int), v55 = .int .i64 x55_3 ∧ Aside0 (spec_fuFill.l2 kq l0 a1 a2 l3 l4 x12_5 x45_2 l3 (l3.length : Int) x45_2 y148 (y148.length : Int) x55_3 ((rd_T50 l3 x45_2).f0) ((rd_T50 l3 x45_2).f1) = some (r1, r2)) ∧ Aside0 (kq ≤ k2) ∧ Aside0 (Kd.R Kd.bool 4 w' w.heap.size (fun _ => True) (.slice Ao22 y148.length co22) y148) ∧ Aside0 (w'.heap[gb146]? = some (.cells #[.int .i64 ((rd_T50 l3 x45_2).f0), .int .i64 ((rd_T50 l3 x45_2).f1)] 50 (0, 0))) ∧ Aside0 (Below w.heap.size w w'))
          case atStart => exact ⟨(0), (by first | rfl | (simp; done) | (simp [*]; done)), H', ⟨Nat.le_refl _⟩, ⟨by (with_reducible repeat (first | apply Kd.R_alloc | apply Kd.R_drewN | apply Kd.R_drew)); exact HO150.out⟩, ⟨by (with_reducible repeat (first | refine blk_drewN ?_ _ | refine blk_drew ?_ | refine blk_alloc ?_ _)); exact BK146.out⟩, ⟨by repeat (first | (with_reducible first | exact HB.out | apply below_alloc | apply pw_below_drewN | apply below_drew1 | refine below_set ?_ GE146.out) | exact HB.out | exact Below.refl _ _)⟩⟩
          case round =>
           clear H'
           (try clear c1); (try clear p1); (try clear q1); (try clear hx1); (try clear p2); (try clear c3); (try clear c4); (try clear c5); (try clear c6); (try clear p6); (try clear c7); (try clear c7b0); (try clear c8); (try clear c8b0); (try clear c9); (try clear c9b0); (try clear c10); (try clear c10b0); (try clear c10b1); (try clear c11); (try clear c11b0); (try clear c12); (try clear c12b0); (try clear c13); (try clear c13b0); (try clear p14); (try clear q14); (try clear hx14); (try clear c15); (try clear hcz17_0); (try clear hcz17_1); (try clear hcz19_0); (try clear hcz19_1); (try clear hfz17_0); (try clear hfz17_1); (try clear hfz19_0); (try clear hfz19_1); (try clear hx144_0); (try clear hx145_0); (try clear hx145_1); (try clear p1); (try clear p144); (try clear p145); (try clear p2); (try clear p6); (try clear q1); (try clear q144); (try clear q145)
           obtain ⟨x55_3, rfl, HA, HK3, HO_53, BK146, HB⟩ := hrel
           cases gk with
           | zero => exact absurd HA.out (by simp [spec_fuFill.l2])
           | succ k3 =>
            have H := HA.out
            clear HA
            simp only [spec_fuFill.l2] at H
            by_cases c23 : x55_3 < (y148.length : Int)
            ·rw [if_pos c23] at H
             have c23b0 : decide (x55_3 < (y148.length : Int)) = true := decide_eq_true c23
             clear c23
             by_cases c24 : 0 ≤ x55_3
             ·rw [if_pos c24] at H
              have c24b0 : decide (0 ≤ x55_3) = true := decide_eq_true c24
              clear c24
              by_cases c25 : x55_3 < (y148.length : Int)
              ·rw [if_pos c25] at H
               have c25b0 : decide (x55_3 < (y148.length : Int)) = true := decide_eq_true c25
               clear c25
               have HC26 := Aside0.mk H
               clear H
               have p151 : 0 ≤ (x55_3 : Int) := of_decide_eq_true (by first | (with_reducible assumption) | assumption)
               have q151 : x55_3 < (y148.length : Int) := of_decide_eq_true (by first | (with_reducible assumption) | assumption)
               obtain ⟨ad151, e151, hx151_0⟩ := Kd.at_bool (Kd.R_reads' HO_53.out).2.2 x55_3 p151 q151
               cases e151
               replace p151 := eq_true p151
               replace q151 := eq_true q151
               go_upto_region 13 with (fail)
               go_cut [66] (fun v66 wc => ∃ (kq : Nat) (x66_25 : Bool), v66 = .bool x66_25 ∧ Aside0 (spec_fuFill.j4 kq l0 a1 a2 l3 l4 x12_5 x45_2 (rdOf false y148 x55_3) l3 (l3.length : Int) x45_2 y148 (y148.length : Int) x55_3 x66_25 ((rd_T50 l3 x45_2).f0) ((rd_T50 l3 x45_2).f1) = some (r1, r2)) ∧ Aside0 (kq ≤ k3) ∧ Aside0 (Kd.R Kd.bool 4 wc w.heap.size (fun _ => True) (.slice (some ad151) y148.length co22) y148) ∧ Aside0 (wc.heap[gb146]? = some (.cells #[.int .i64 ((rd_T50 l3 x45_2).f0), .int .i64 ((rd_T50 l3 x45_2).f1)] 50 (0, 0))) ∧ Aside0 (Below w.heap.size w wc))
               case first =>
                have H := HC26.out
                clear HC26
                obtain ⟨bq27, hbq27⟩ : ∃ b_ : Bool, b_ = (rdOf false y148 x55_3) := ⟨_, rfl⟩
                replace H : (if bq27 = true then (spec_fuFill.j4 k3 l0 a1 a2 l3 l4 x12_5 x45_2 bq27 l3 (l3.length : Int) x45_2 y148 (y148.length : Int) x55_3 (((rd_T50 l3 x45_2).f0) == ((rd_T50 l3 x45_2).f1)) ((rd_T50 l3 x45_2).f0) ((rd_T50 l3 x45_2).f1)) else (spec_fuFill.j4 k3 l0 a1 a2 l3 l4 x12_5 x45_2 bq27 l3 (l3.length : Int) x45_2 y148 (y148.length : Int) x55_3 false ((rd_T50 l3 x45_2).f0) ((rd_T50 l3 x45_2).f1))) = some (r1, r2) := by rw [← hbq27] at H; exact H
                have Nbq27 := Aside0.mk hbq27
                clear hbq27
                (try rw [← Nbq27.out])
                by_cases c28 : bq27 = true
                ·subst c28
                 have H1 : (spec_fuFill.j4 k3 l0 a1 a2 l3 l4 x12_5 x45_2 true l3 (l3.length : Int) x45_2 y148 (y148.length : Int) x55_3 (((rd_T50 l3 x45_2).f0) == ((rd_T50 l3 x45_2).f1)) ((rd_T50 l3 x45_2).f0) ((rd_T50 l3 x45_2).f1)) = some (r1, r2) := by rw [if_pos rfl] at H; exact H
                 clear H
                 have H := H1
                 clear H1
                 have H' := Aside0.mk H
                 clear H
                 have hcz29_0 : wr.cell? ⟨gb146, 0, none⟩ = some (.int .i64 ((rd_T50 l3 x45_2).f0)) := (blk_cell BK146.out 0).trans rfl
                 have hcz29_1 : wr.cell? ⟨gb146, 1, none⟩ = some (.int .i64 ((rd_T50 l3 x45_2).f1)) := (blk_cell BK146.out 1).trans rfl
                 have hfz29_0 := blk_frozen BK146.out 0
                 have hfz29_1 := blk_frozen BK146.out 1
                 go_wp2
                 first | go_meet | (refine Met.intro ?_; go_step; (repeat apply Exists.intro); refine ⟨?rel, ?fr_⟩; (case fr_ => first | rfl | (rw [← Nbq27.out]; done) | (rw [← Nbq27.out]; rfl)))
                 case rel => exact ⟨_, ((((rd_T50 l3 x45_2).f0) == ((rd_T50 l3 x45_2).f1))), (by first | rfl | (simp; done) | (simp [*]; done)), (by first | exact H' | (rw [← Nbq27.out]; exact H')), ⟨by have := HJ5.out; have := HK2.out; have := HK3.out; first | omega | exact Nat.le_refl _⟩, ⟨by (with_reducible repeat (first | apply Kd.R_alloc | apply Kd.R_drewN | apply Kd.R_drew)); exact HO_53.out⟩, ⟨by (with_reducible repeat (first | refine blk_drewN ?_ _ | refine blk_drew ?_ | refine blk_alloc ?_ _)); exact BK146.out⟩, ⟨by repeat (first | (with_reducible first | exact HB.out | apply below_alloc | apply pw_below_drewN | apply below_drew1 | refine below_set ?_ GE146.out) | exact HB.out | exact Below.refl _ _)⟩⟩
                ·replace c28 := Bool.eq_false_iff.mpr c28
                 subst c28
                 have H1 : (spec_fuFill.j4 k3 l0 a1 a2 l3 l4 x12_5 x45_2 false l3 (l3.length : Int) x45_2 y148 (y148.length : Int) x55_3 false ((rd_T50 l3 x45_2).f0) ((rd_T50 l3 x45_2).f1)) = some (r1, r2) := by rw [if_neg (show ¬ (false = true) by decide)] at H; exact H
                 clear H
                 have H := H1
                 clear H1
                 have H' := Aside0.mk H
                 clear H
                 go_wp2
                 first | go_meet | (refine Met.intro ?_; go_step; (repeat apply Exists.intro); refine ⟨?rel, ?fr_⟩; (case fr_ => first | rfl | (rw [← Nbq27.out]; done) | (rw [← Nbq27.out]; rfl)))
                 case rel => exact ⟨_, (false), (by first | rfl | (simp; done) | (simp [*]; done)), (by first | exact H' | (rw [← Nbq27.out]; exact H')), ⟨by have := HJ5.out; have := HK2.out; have := HK3.out; first | omega | exact Nat.le_refl _⟩, ⟨by (with_reducible repeat (first | apply Kd.R_alloc | apply Kd.R_drewN | apply Kd.R_drew)); exact HO_53.out⟩, ⟨by (with_reducible repeat (first | refine blk_drewN ?_ _ | refine blk_drew ?_ | refine blk_alloc ?_ _)); exact BK146.out⟩, ⟨by repeat (first | (with_reducible first | exact HB.out | apply below_alloc | apply pw_below_drewN | apply below_drew1 | refine below_set ?_ GE146.out) | exact HB.out | exact Below.refl _ _)⟩⟩
               case rest =>
                clear HC26
                (try clear c1); (try clear p1); (try clear q1); (try clear hx1); (try clear c2); (try clear p2); (try clear q2); (try clear c3); (try clear c4); (try clear c5); (try clear c6); (try clear p6); (try clear c7); (try clear c7b0); (try clear c8); (try clear c8b0); (try clear c9); (try clear c9b0); (try clear c10); (try clear c10b0); (try clear c10b1); (try clear c11); (try clear c11b0); (try clear c12); (try clear c12b0); (try clear c13); (try clear c13b0); (try clear p14); (try clear q14); (try clear hx14); (try clear c15); (try clear p15); (try clear q15); (try clear hx15); (try clear c23); (try clear c23b0); (try clear c24); (try clear c24b0); (try clear c25); (try clear c25b0); (try clear q27); (try clear c28); (try clear hcz17_0); (try clear hcz17_1); (try clear hcz19_0); (try clear hcz19_1); (try clear hcz29_0); (try clear hcz29_1); (try clear hfz17_0); (try clear hfz17_1); (try clear hfz19_0); (try clear hfz19_1); (try clear hfz29_0); (try clear hfz29_1); (try clear hx144_0); (try clear hx145_0); (try clear hx145_1); (try clear hx151_0); (try clear p1); (try clear p14); (try clear p144); (try clear p145); (try clear p151); (try clear p2); (try clear p6); (try clear q1); (try clear q14); (try clear q144); (try clear q145); (try clear q151)
                obtain ⟨kq, x66_25, rfl, HA, HJ25, HO_53, BK146, HB⟩ := hcut
                cases kq with
                | zero => exact absurd HA.out (by simp [spec_fuFill.j4])
                | succ kj25 =>
                 have H := HA.out
                 clear HA
                 simp only [spec_fuFill.j4] at H
                 by_cases c30 : x66_25 = true
                 ·subst c30
                  have H1 : (spec_fuFill.l2 kj25 l0 a1 a2 l3 l4 x12_5 x45_2 l3 (l3.length : Int) x45_2 y148 (y148.length : Int) (wrap64 (x55_3 + 1)) ((rd_T50 l3 x45_2).f0) ((rd_T50 l3 x45_2).f1)) = some (r1, r2) := by rw [if_pos rfl] at H; exact H
                  clear H
                  have H := H1
                  clear H1
                  have H' := Aside0.mk H
                  clear H
                  go_wp2
                  go_roundg kj25
                  case measure => have := HJ5.out; have := HK2.out; have := HK3.out; have := HJ25.out; omega
                  case rel => exact ⟨(wrap64 (x55_3 + 1)), (by first | rfl | (simp; done) | (simp [*]; done)), H', ⟨by have := HJ5.out; have := HK2.out; have := HK3.out; have := HJ25.out; omega⟩, ⟨by (with_reducible repeat (first | apply Kd.R_alloc | apply Kd.R_drewN | apply Kd.R_drew)); exact HO_53.out⟩, ⟨by (with_reducible repeat (first | refine blk_drewN ?_ _ | refine blk_drew ?_ | refine blk_alloc ?_ _)); exact BK146.out⟩, ⟨by repeat (first | (with_reducible first | exact HB.out | apply below_alloc | apply pw_below_drewN | apply below_drew1 | refine below_set ?_ GE146.out) | exact HB.out | exact Below.refl _ _)⟩⟩
                 ·replace c30 := Bool.eq_false_iff.mpr c30
                  subst c30
                  have H1 : ((spec_fuPut.f kj25 l0 a1 a2 ((rd_T50 l3 x45_2).f0) ((rd_T50 l3 x45_2).f1) (rdOf false y148 x55_3) x12_5 x45_2).bind fun bt152 => (if bt152.2 = true then ((spec_l1Own.f l4).bind fun t156 => (if t156.length < 17592186044416 then ((spec_fuFill.f kj25 bt152.1 a1 a2 l3 (t156 ++ [x45_2])).bind fun bt162 => (if bt162.2 = true then (if a1 = 0 then (none) else ((some (([(⟨x45_2, Int.tmod x12_5 a1, wrap64 (Int.tdiv x12_5 a1), (rdOf false y148 x55_3)⟩ : S66)] : List (S66)) : List (S66))).bind fun y166 => (if y166.length + bt162.1.length < 4398046511104 then (some ((y166 ++ bt162.1), true)) else (none)))) else (spec_fuFill.l2 kj25 l0 a1 a2 l3 l4 x12_5 x45_2 l3 (l3.length : Int) x45_2 y148 (y148.length : Int) (wrap64 (x55_3 + 1)) ((rd_T50 l3 x45_2).f0) ((rd_T50 l3 x45_2).f1)))) else (none))) else (spec_fuFill.l2 kj25 l0 a1 a2 l3 l4 x12_5 x45_2 l3 (l3.length : Int) x45_2 y148 (y148.length : Int) (wrap64 (x55_3 + 1)) ((rd_T50 l3 x45_2).f0) ((rd_T50 l3 x45_2).f1)))) = some (r1, r2) := by rw [if_neg (show ¬ (false = true) by decide)] at H; exact H
                  clear H
                  have H := H1
                  clear H1
                  replace H := Option.bind_eq_some_iff.mp H
                  obtain ⟨⟨t152, t155⟩, A310, H⟩ := H
                  replace H : (if t155 = true then ((spec_l1Own.f l4).bind fun t156 => (if t156.length < 17592186044416 then ((spec_fuFill.f kj25 t152 a1 a2 l3 (t156 ++ [x45_2])).bind fun bt162 => (if bt162.2 = true then (if a1 = 0 then (none) else ((some (([(⟨x45_2, Int.tmod x12_5 a1, wrap64 (Int.tdiv x12_5 a1), (rdOf false y148 x55_3)⟩ : S66)] : List (S66)) : List (S66))).bind fun y166 => (if y166.length + bt162.1.length < 4398046511104 then (some ((y166 ++ bt162.1), true)) else (none)))) else (spec_fuFill.l2 kj25 l0 a1 a2 l3 l4 x12_5 x45_2 l3 (l3.length : Int) x45_2 y148 (y148.length : Int) (wrap64 (x55_3 + 1)) ((rd_T50 l3 x45_2).f0) ((rd_T50 l3 x45_2).f1)))) else (none))) else (spec_fuFill.l2 kj25 l0 a1 a2 l3 l4 x12_5 x45_2 l3 (l3.length : Int) x45_2 y148 (y148.length : Int) (wrap64 (x55_3 + 1)) ((rd_T50 l3 x45_2).f0) ((rd_T50 l3 x45_2).f1))) = some (r1, r2) := H
                  have A31 := Aside0.mk A310
                  clear A310
                  by_cases c32 : t155 = true
                  ·subst c32
                   have H1 : ((spec_l1Own.f l4).bind fun t156 => (if t156.length < 17592186044416 then ((spec_fuFill.f kj25 t152 a1 a2 l3 (t156 ++ [x45_2])).bind fun bt162 => (if bt162.2 = true then (if a1 = 0 then (none) else ((some (([(⟨x45_2, Int.tmod x12_5 a1, wrap64 (Int.tdiv x12_5 a1), (rdOf false y148 x55_3)⟩ : S66)] : List (S66)) : List (S66))).bind fun y166 => (if y166.length + bt162.1.length < 4398046511104 then (some ((y166 ++ bt162.1), true)) else (none)))) else (spec_fuFill.l2 kj25 l0 a1 a2 l3 l4 x12_5 x45_2 l3 (l3.length : Int) x45_2 y148 (y148.length : Int) (wrap64 (x55_3 + 1)) ((rd_T50 l3 x45_2).f0) ((rd_T50 l3 x45_2).f1)))) else (none))) = some (r1, r2) := by rw [if_pos rfl] at H; exact H
                   clear H
                   have H := H1
                   clear H1
                   replace H := Option.bind_eq_some_iff.mp H
                   obtain ⟨t156, A330, H⟩ := H
                   replace H : (if t156.length < 17592186044416 then ((spec_fuFill.f kj25 t152 a1 a2 l3 (t156 ++ [x45_2])).bind fun bt162 => (if bt162.2 = true then (if a1 = 0 then (none) else ((some (([(⟨x45_2, Int.tmod x12_5 a1, wrap64 (Int.tdiv x12_5 a1), (rdOf false y148 x55_3)⟩ : S66)] : List (S66)) : List (S66))).bind fun y166 => (if y166.length + bt162.1.length < 4398046511104 then (some ((y166 ++ bt162.1), true)) else (none)))) else (spec_fuFill.l2 kj25 l0 a1 a2 l3 l4 x12_5 x45_2 l3 (l3.length : Int) x45_2 y148 (y148.length : Int) (wrap64 (x55_3 + 1)) ((rd_T50 l3 x45_2).f0) ((rd_T50 l3 x45_2).f1)))) else (none)) = some (r1, r2) := H
                   have A33 := Aside0.mk A330
                   clear A330
                   by_cases c34 : t156.length < 17592186044416
                   ·rw [if_pos c34] at H
                    have LMc34 := Aside0.mk c34
                    clear c34
                    obtain ⟨y159, hy159⟩ : ∃ y_ : List Int, y_ = (t156 ++ [x45_2]) := ⟨_, rfl⟩
                    replace H : ((spec_fuFill.f kj25 t152 a1 a2 l3 y159).bind fun bt162 => (if bt162.2 = true then (if a1 = 0 then (none) else ((some (([(⟨x45_2, Int.tmod x12_5 a1, wrap64 (Int.tdiv x12_5 a1), (rdOf false y148 x55_3)⟩ : S66)] : List (S66)) : List (S66))).bind fun y166 => (if y166.length + bt162.1.length < 4398046511104 then (some ((y166 ++ bt162.1), true)) else (none)))) else (spec_fuFill.l2 kj25 l0 a1 a2 l3 l4 x12_5 x45_2 l3 (l3.length : Int) x45_2 y148 (y148.length : Int) (wrap64 (x55_3 + 1)) ((rd_T50 l3 x45_2).f0) ((rd_T50 l3 x45_2).f1)))) = some (r1, r2) := by first | (rw [hy159]; with_reducible exact H) | (have H2_ := (Option.bind_some _ _).symm.trans H; rw [hy159]; with_reducible exact H2_) | (have H2_ := (Option.bind_some _ _).symm.trans H; with_reducible exact H2_) | with_reducible exact H | (rw [hy159]; exact H) | exact H
                    have Ny159 := Aside0.mk hy159
                    clear hy159
                    replace H := Option.bind_eq_some_iff.mp H
                    obtain ⟨⟨t162, t163⟩, A350, H⟩ := H
                    replace H : (if t163 = true then (if a1 = 0 then (none) else ((some (([(⟨x45_2, Int.tmod x12_5 a1, wrap64 (Int.tdiv x12_5 a1), (rdOf false y148 x55_3)⟩ : S66)] : List (S66)) : List (S66))).bind fun y166 => (if y166.length + t162.length < 4398046511104 then (some ((y166 ++ t162), true)) else (none)))) else (spec_fuFill.l2 kj25 l0 a1 a2 l3 l4 x12_5 x45_2 l3 (l3.length : Int) x45_2 y148 (y148.length : Int) (wrap64 (x55_3 + 1)) ((rd_T50 l3 x45_2).f0) ((rd_T50 l3 x45_2).f1))) = some (r1, r2) := H
                    have A35 := Aside0.mk A350
                    clear A350
                    by_cases c36 : t163 = true
                    ·subst c36
                     have H1 : (if a1 = 0 then (none) else ((some (([(⟨x45_2, Int.tmod x12_5 a1, wrap64 (Int.tdiv x12_5 a1), (rdOf false y148 x55_3)⟩ : S66)] : List (S66)) : List (S66))).bind fun y166 => (if y166.length + t162.length < 4398046511104 then (some ((y166 ++ t162), true)) else (none)))) = some (r1, r2) := by rw [if_pos rfl] at H; exact H
                     clear H
                     have H := H1
                     clear H1
                     by_cases c37 : a1 = 0
                     ·rw [if_pos c37] at H
                      exact absurd H (by simp)
                     ·rw [if_neg c37] at H
                      have c37b0 : (a1 == 0) = false := beq_eq_false_iff_ne.mpr c37
                      have c37b1 : (a1 != 0) = true := bne_iff_ne.mpr c37
                      obtain ⟨y166, hy166⟩ : ∃ y_ : List (S66), y_ = (([(⟨x45_2, Int.tmod x12_5 a1, wrap64 (Int.tdiv x12_5 a1), (rdOf false y148 x55_3)⟩ : S66)] : List (S66))) := ⟨_, rfl⟩
                      replace H : (if y166.length + t162.length < 4398046511104 then (some ((y166 ++ t162), true)) else (none)) = some (r1, r2) := by first | (rw [hy166]; with_reducible exact H) | (have H2_ := (Option.bind_some _ _).symm.trans H; rw [hy166]; with_reducible exact H2_) | (have H2_ := (Option.bind_some _ _).symm.trans H; with_reducible exact H2_) | with_reducible exact H | (rw [hy166]; exact H) | exact H
                      have Ny166 := Aside0.mk hy166
                      clear hy166
                      by_cases c38 : y166.length + t162.length < 4398046511104
                      ·rw [if_pos c38] at H
                       have LMc38 := Aside0.mk c38
                       clear c38
                       obtain ⟨y169, hy169⟩ : ∃ y_ : List (S66), y_ = (y166 ++ t162) := ⟨_, rfl⟩
                       replace H : (some (y169, true)) = some (r1, r2) := by first | (rw [hy169]; with_reducible exact H) | (have H2_ := (Option.bind_some _ _).symm.trans H; rw [hy169]; with_reducible exact H2_) | (have H2_ := (Option.bind_some _ _).symm.trans H; with_reducible exact H2_) | with_reducible exact H | (rw [hy169]; exact H) | exact H
                       have Ny169 := Aside0.mk hy169
                       clear hy169
                       simp only [Option.some.injEq, Prod.mk.injEq] at H
                       obtain ⟨rfl, rfl⟩ := H
                       have hcz39_0 : wc.cell? ⟨gb146, 0, none⟩ = some (.int .i64 ((rd_T50 l3 x45_2).f0)) := (blk_cell BK146.out 0).trans rfl
                       have hcz39_1 : wc.cell? ⟨gb146, 1, none⟩ = some (.int .i64 ((rd_T50 l3 x45_2).f1)) := (blk_cell BK146.out 1).trans rfl
                       have hfz39_0 := blk_frozen BK146.out 0
                       have hfz39_1 := blk_frozen BK146.out 1
                       try go_wp2_with (first | ((with_reducible refine gate_callee (f := 65) rfl ?_); refine goesL_ (some 75) rfl rfl Try.func65 (by kernel_rfl) rfl #[.slice A0 l0.length c0, .int .i64 a1, .int .i64 a2, .agg #[.int .i64 ((rd_T50 l3 x45_2).f0), .int .i64 ((rd_T50 l3 x45_2).f1)], .bool (rdOf false y148 x55_3), .int .i64 x12_5, .int .i64 x45_2] rfl (by (try simp only [List.map_toArray, List.map_cons, List.map_nil]); first | done | rfl | (simp only [List.length_drop, List.length_take]; rfl)) ?_; (with_reducible refine (spec_fuPut.calls kj25 _ _ l0 a1 a2 ((rd_T50 l3 x45_2).f0) ((rd_T50 l3 x45_2).f1) (rdOf false y148 x55_3) x12_5 x45_2 t152 true _ ?side1 ?side2 A31.out).mono ?_); (case side1 => repeat (first | exact (Kd.C_below HR0.out HB.out) | exact HR0.out | (with_reducible refine Kd.C_alloc ?_ _) | (with_reducible refine Kd.C_drewN ?_ _) | (with_reducible refine Kd.C_drew ?_))); (case side2 => exact HC0.out); rintro e w40 ⟨v153, rfl, ho0, hb⟩; refine ⟨_, rfl, ?_⟩; have n0_ := Aside0.mk (Kd.R_below (by (with_reducible repeat (first | apply Kd.R_alloc | apply Kd.R_drewN | apply Kd.R_drew)); exact HO_53.out) hb); have n1_ := Aside0.mk (Kd.R_lower ho0 (below_size (by repeat (first | (with_reducible first | exact HB.out | apply below_alloc | apply pw_below_drewN | apply below_drew1 | refine below_set ?_ GE146.out) | exact HB.out | exact Below.refl _ _)))); have n2_ := Aside0.mk (blk_below (g := gb146) (o := .cells #[.int .i64 ((rd_T50 l3 x45_2).f0), .int .i64 ((rd_T50 l3 x45_2).f1)] 50 (0, 0)) (by (with_reducible repeat (first | refine blk_drewN ?_ _ | refine blk_drew ?_ | refine blk_alloc ?_ _)); exact BK146.out) hb); have n3_ := Aside0.mk (below_step (by repeat (first | (with_reducible first | exact HB.out | apply below_alloc | apply pw_below_drewN | apply below_drew1 | refine below_set ?_ GE146.out) | exact HB.out | exact Below.refl _ _)) hb); clear HO_53; clear BK146; clear HB; have HO_53 := n0_; have HO154 := n1_; have BK146 := n2_; have HB := n3_; clear n0_ n1_ n2_ n3_; (try clear hb); (try clear hb2); (try clear hk); (try clear hi); (try clear ho0)) | ((with_reducible refine gate_callee (f := 32) rfl ?_); refine goesL_ (some 86) rfl rfl Try.func32 (by kernel_rfl) rfl #[.slice A4 l4.length c4] rfl (by (try simp only [List.map_toArray, List.map_cons, List.map_nil]); first | done | rfl | (simp only [List.length_drop, List.length_take]; rfl)) ?_; (with_reducible refine (spec_l1Own.calls _ _ l4 t156 _ ?side1 ?side2 A33.out).mono ?_); (case side1 => repeat (first | exact (Kd.C_below HR4.out HB.out) | exact HR4.out | (with_reducible refine Kd.C_alloc ?_ _) | (with_reducible refine Kd.C_drewN ?_ _) | (with_reducible refine Kd.C_drew ?_))); (case side2 => exact HC4.out); rintro e w41 ⟨v157, rfl, ho0, hb⟩; refine ⟨_, rfl, ?_⟩; have n0_ := Aside0.mk (Kd.R_below (by (with_reducible repeat (first | apply Kd.R_alloc | apply Kd.R_drewN | apply Kd.R_drew)); exact HO_53.out) hb); have n1_ := Aside0.mk (Kd.R_elder' (by (with_reducible repeat (first | apply Kd.R_alloc | apply Kd.R_drewN | apply Kd.R_drew)); exact HO154.out) (Kd.R_base ho0) hb); have n2_ := Aside0.mk (Kd.R_lower (Kd.R_new' ho0 (Kd.R_lt (by (with_reducible repeat (first | apply Kd.R_alloc | apply Kd.R_drewN | apply Kd.R_drew)); exact HO154.out))) (below_size (by repeat (first | (with_reducible first | exact HB.out | apply below_alloc | apply pw_below_drewN | apply below_drew1 | refine below_set ?_ GE146.out) | exact HB.out | exact Below.refl _ _)))); have n3_ := Aside0.mk (blk_below (g := gb146) (o := .cells #[.int .i64 ((rd_T50 l3 x45_2).f0), .int .i64 ((rd_T50 l3 x45_2).f1)] 50 (0, 0)) (by (with_reducible repeat (first | refine blk_drewN ?_ _ | refine blk_drew ?_ | refine blk_alloc ?_ _)); exact BK146.out) hb); have n4_ := Aside0.mk (below_step (by repeat (first | (with_reducible first | exact HB.out | apply below_alloc | apply pw_below_drewN | apply below_drew1 | refine below_set ?_ GE146.out) | exact HB.out | exact Below.refl _ _)) hb); clear HO_53; clear HO154; clear BK146; clear HB; have HO_53 := n0_; have HO154 := n1_; have HO158 := n2_; have BK146 := n3_; have HB := n4_; clear n0_ n1_ n2_ n3_ n4_; (try clear hb); (try clear hb2); (try clear hk); (try clear hi); (try clear ho0)) | ((with_reducible refine gate_builtin (b := .append) (xs := #[.tmp 86, .tmp 88]) rfl ?_); at_builtin; refine Kd.R_append (Kd.int .i64) (w0 := w) w.heap.size rfl (.tmp 86) (.tmp 88) 24 3 (.int .i64 0) 8 rfl Try.underlying24 info3 rfl (by decide) (by omega) v157 t156 x45_2 [.int .i64 x45_2] (fun k_ => some k_ ≠ (v153 : Value).ownBlock) (fun _ => False) rfl rfl ?aP (fun _ hk => hk.elim) ?aF ?aO ?aB ?aS ?aL ?_; (case aP => exact rfl); (case aB => exact (by repeat (first | (with_reducible first | exact HB.out | apply below_alloc | apply pw_below_drewN | apply below_drew1 | refine below_set ?_ GE146.out) | exact HB.out | exact Below.refl _ _))); (case aF => exact (fun k_ hk => Kd.fresh' (Kd.R_lt (by (with_reducible repeat (first | apply Kd.R_alloc | apply Kd.R_drewN | apply Kd.R_drew)); exact HO154.out)) k_ hk)); (case aO => exact (by (with_reducible repeat (first | apply Kd.R_alloc | apply Kd.R_drewN | apply Kd.R_drew)); exact Kd.R_mono HO158.out (fun _ hk => hk.2))); (case aS => exact (below_size (by repeat (first | (with_reducible first | exact HB.out | apply below_alloc | apply pw_below_drewN | apply below_drew1 | refine below_set ?_ GE146.out) | exact HB.out | exact Below.refl _ _)))); (case aL => have := LMc34.out; omega); intro v160 w42 ho hb hg hat; rw [← Ny159.out] at ho; have n0_ := Aside0.mk (Kd.R_over' (by (with_reducible repeat (first | apply Kd.R_alloc | apply Kd.R_drewN | apply Kd.R_drew)); exact HO_53.out) (Kd.R_typed (by (with_reducible repeat (first | apply Kd.R_alloc | apply Kd.R_drewN | apply Kd.R_drew)); exact HO158.out)) (by decide) hg); have n1_ := Aside0.mk (blk_grown (g := gb146) (o := .cells #[.int .i64 ((rd_T50 l3 x45_2).f0), .int .i64 ((rd_T50 l3 x45_2).f1)] 50 (0, 0)) (by (with_reducible repeat (first | refine blk_drewN ?_ _ | refine blk_drew ?_ | refine blk_alloc ?_ _)); exact BK146.out) hg (Kd.R_ne HO158.out BK146.out (by decide))); have n2_ := Aside0.mk (Kd.R_after (ok := (fun _ => True)) (by (with_reducible repeat (first | apply Kd.R_alloc | apply Kd.R_drewN | apply Kd.R_drew)); exact HO154.out) hg hat); have n3_ := Aside0.mk (hb); have n4_ := Aside0.mk (ho); clear HO_53; clear BK146; clear HO154; clear HB; clear HO158; have HO_53 := n0_; have BK146 := n1_; have HO154 := n2_; have HB := n3_; have HO161 := n4_; clear n0_ n1_ n2_ n3_ n4_; clear ho hb hg hat; obtain ⟨Ao43, co43, eo43⟩ := Kd.R_slice HO154.out; subst eo43; obtain ⟨Ao44, co44, eo44⟩ := Kd.R_slice HO161.out; subst eo44) | ((with_reducible refine gate_callee (f := 55) rfl ?_); refine goesL_ (some 90) rfl rfl Try.func55 (by kernel_rfl) rfl #[.slice Ao43 t152.length co43, .int .i64 a1, .int .i64 a2, .slice (some ad145) l3.length c3, .slice Ao44 y159.length co44] rfl (by (try simp only [List.map_toArray, List.map_cons, List.map_nil]); first | done | rfl | (simp only [List.length_drop, List.length_take]; rfl)) ?_; (with_reducible refine (ih kj25 (by have := HJ5.out; have := HK2.out; have := HK3.out; have := HJ25.out; omega) _ _ t152 a1 a2 _ _ l3 _ _ y159 t162 true _ ?side1 ?side2 ?side3 ?side4 ?side5 ?side6 A35.out).mono ?_); (case side1 => repeat (first | exact (Kd.R_reads' HO154.out).2.2 | (with_reducible refine Kd.C_alloc ?_ _) | (with_reducible refine Kd.C_drewN ?_ _) | (with_reducible refine Kd.C_drew ?_))); (case side2 => exact (Kd.R_reads' HO154.out).2.1); (case side3 => repeat (first | exact (Kd.C_below HR3.out HB.out) | exact HR3.out | (with_reducible refine Kd.C_alloc ?_ _) | (with_reducible refine Kd.C_drewN ?_ _) | (with_reducible refine Kd.C_drew ?_))); (case side4 => exact HC3.out); (case side5 => repeat (first | exact (Kd.R_reads' HO161.out).2.2 | (with_reducible refine Kd.C_alloc ?_ _) | (with_reducible refine Kd.C_drewN ?_ _) | (with_reducible refine Kd.C_drew ?_))); (case side6 => exact (Kd.R_reads' HO161.out).2.1); rintro e w45 ⟨v164, rfl, ho0, hb⟩; refine ⟨_, rfl, ?_⟩; have n0_ := Aside0.mk (Kd.R_below (by (with_reducible repeat (first | apply Kd.R_alloc | apply Kd.R_drewN | apply Kd.R_drew)); exact HO_53.out) hb); have n1_ := Aside0.mk (Kd.R_below (by (with_reducible repeat (first | apply Kd.R_alloc | apply Kd.R_drewN | apply Kd.R_drew)); exact HO154.out) hb); have n2_ := Aside0.mk (Kd.R_below (by (with_reducible repeat (first | apply Kd.R_alloc | apply Kd.R_drewN | apply Kd.R_drew)); exact HO161.out) hb); have n3_ := Aside0.mk (Kd.R_lower ho0 (below_size (by repeat (first | (with_reducible first | exact HB.out | apply below_alloc | apply pw_below_drewN | apply below_drew1 | refine below_set ?_ GE146.out) | exact HB.out | exact Below.refl _ _)))); have n4_ := Aside0.mk (blk_below (g := gb146) (o := .cells #[.int .i64 ((rd_T50 l3 x45_2).f0), .int .i64 ((rd_T50 l3 x45_2).f1)] 50 (0, 0)) (by (with_reducible repeat (first | refine blk_drewN ?_ _ | refine blk_drew ?_ | refine blk_alloc ?_ _)); exact BK146.out) hb); have n5_ := Aside0.mk (below_step (by repeat (first | (with_reducible first | exact HB.out | apply below_alloc | apply pw_below_drewN | apply below_drew1 | refine below_set ?_ GE146.out) | exact HB.out | exact Below.refl _ _)) hb); clear HO_53; clear HO154; clear HO161; clear BK146; clear HB; have HO_53 := n0_; have HO154 := n1_; have HO161 := n2_; have HO165 := n3_; have BK146 := n4_; have HB := n5_; clear n0_ n1_ n2_ n3_ n4_ n5_; (try clear hb); (try clear hb2); (try clear hk); (try clear hi); (try clear ho0)))
                       have n0_ := Aside0.mk (Kd.R_drew HO_53.out)
                       have n1_ := Aside0.mk (Kd.R_drew HO154.out)
                       have n2_ := Aside0.mk (Kd.R_drew HO161.out)
                       have n3_ := Aside0.mk (Kd.R_drew HO165.out)
                       have n4_ := Aside0.mk (blk_drew BK146.out)
                       have n5_ := Aside0.mk (below_drew1 HB.out)
                       clear HO_53
                       clear HO154
                       clear HO161
                       clear HO165
                       clear BK146
                       (try clear HB)
                       have HO_53 := n0_
                       have HO154 := n1_
                       have HO161 := n2_
                       have HO165 := n3_
                       have BK146 := n4_
                       have HB := n5_
                       clear n0_ n1_ n2_ n3_ n4_ n5_
                       refine start_ (n := 14) (S := fun w' => True) (ds := []) #[false, false, false, false, false, false, false, false, false, false, false, false, false, false] (by kernel_rfl) rfl rfl trivial (fun hHeld => ?_); refine with_tabW spec_fuFill.tab18 spec_fuFill.bits18 (fun HT_ HW_ => ?_)
                       generalize w45.drew = w46 at HO_53 HO154 HO161 HO165 BK146 HB hHeld ⊢
                       refine pure_ (i := 0) (N := some 94) (v := ?_) (a' := ?_) #[true, false, false, false, false, false, false, false, false, false, false, false, false, false] rfl rfl (any_of HT_.out (by kernel_rfl)) (fun _ _ _ h => h) (Or.inl ⟨by rfl, ?_⟩) ?_ ?_
                       rotate_left
                       ·intro w'
                        go_simp
                        with_reducible rfl
                       rotate_left
                       ·simp only [Act.put, List.setIfInBounds_toArray, List.set_cons_zero, List.set_cons_succ, i64_w, i32_w]
                        rfl
                       refine pure_ (i := 1) (N := some 95) (v := ?_) (a' := ?_) #[true, true, false, false, false, false, false, false, false, false, false, false, false, false] rfl rfl (any_of HT_.out (by kernel_rfl)) (fun _ _ _ h => h) (Or.inl ⟨by rfl, ?_⟩) ?_ ?_
                       rotate_left
                       ·intro w'
                        go_simp
                        with_reducible rfl
                       rotate_left
                       ·simp only [Act.put, List.setIfInBounds_toArray, List.set_cons_zero, List.set_cons_succ, i64_w, i32_w]
                        rfl
                       refine pure_ (i := 2) (N := some 96) (v := ?_) (a' := ?_) #[true, true, true, false, false, false, false, false, false, false, false, false, false, false] rfl rfl (any_of HT_.out (by kernel_rfl)) (fun _ _ _ h => h) (Or.inl ⟨by rfl, ?_⟩) ?_ ?_
                       rotate_left
                       ·intro w'
                        go_simp
                        with_reducible rfl
                       rotate_left
                       ·simp only [Act.put, List.setIfInBounds_toArray, List.set_cons_zero, List.set_cons_succ, i64_w, i32_w]
                        rfl
                       refine pure_ (i := 3) (N := some 97) (v := ?_) (a' := ?_) #[true, true, true, true, false, false, false, false, false, false, false, false, false, false] rfl rfl (any_of HT_.out (by kernel_rfl)) (fun _ _ _ h => h) (Or.inl ⟨by rfl, ?_⟩) ?_ ?_
                       rotate_left
                       ·intro w'
                        go_simp
                        with_reducible rfl
                       rotate_left
                       ·simp only [Act.put, List.setIfInBounds_toArray, List.set_cons_zero, List.set_cons_succ, i64_w, i32_w]
                        rfl
                       refine pure_ (i := 4) (N := some 98) (v := ?_) (a' := ?_) #[true, true, true, true, true, false, false, false, false, false, false, false, false, false] rfl rfl (any_of HT_.out (by kernel_rfl)) (fun _ _ _ h => h) (Or.inl ⟨by rfl, ?_⟩) ?_ ?_
                       rotate_left
                       ·intro w'
                        go_simp
                        with_reducible rfl
                       rotate_left
                       ·simp only [Act.put, List.setIfInBounds_toArray, List.set_cons_zero, List.set_cons_succ, i64_w, i32_w]
                        rfl
                       refine pure_ (i := 5) (N := some 99) (v := ?_) (a' := ?_) #[true, true, true, true, true, true, false, false, false, false, false, false, false, false] rfl rfl (any_of HT_.out (by kernel_rfl)) (fun _ _ _ h => h) (Or.inl ⟨by rfl, ?_⟩) ?_ ?_
                       rotate_left
                       ·intro w'
                        go_simp
                        with_reducible rfl
                       rotate_left
                       ·simp only [Act.put, List.setIfInBounds_toArray, List.set_cons_zero, List.set_cons_succ, i64_w, i32_w]
                        rfl
                       refine pure_ (i := 6) (N := some 100) (v := ?_) (a' := ?_) #[true, true, true, true, true, true, true, false, false, false, false, false, false, false] rfl rfl (any_of HT_.out (by kernel_rfl)) (fun _ _ _ h => h) (Or.inl ⟨by rfl, ?_⟩) ?_ ?_
                       rotate_left
                       ·intro w'
                        go_simp
                        with_reducible rfl
                       rotate_left
                       ·simp only [Act.put, List.setIfInBounds_toArray, List.set_cons_zero, List.set_cons_succ, i64_w, i32_w]
                        rfl
                       refine pure_ (i := 7) (N := some 101) (v := ?_) (a' := ?_) #[true, true, true, true, true, true, true, true, false, false, false, false, false, false] rfl rfl (any_of HT_.out (by kernel_rfl)) (fun _ _ _ h => h) (Or.inl ⟨by rfl, ?_⟩) ?_ ?_
                       rotate_left
                       ·intro w'
                        go_simp
                        with_reducible rfl
                       rotate_left
                       ·simp only [Act.put, List.setIfInBounds_toArray, List.set_cons_zero, List.set_cons_succ, i64_w, i32_w]
                        rfl
                       refine pure_ (i := 8) (N := some 102) (v := ?_) (a' := ?_) #[true, true, true, true, true, true, true, true, true, false, false, false, false, false] rfl rfl (any_of HT_.out (by kernel_rfl)) (fun _ _ _ h => h) (Or.inl ⟨by rfl, ?_⟩) ?_ ?_
                       rotate_left
                       ·intro w'
                        go_simp
                        with_reducible rfl
                       rotate_left
                       ·simp only [Act.put, List.setIfInBounds_toArray, List.set_cons_zero, List.set_cons_succ, i64_w, i32_w]
                        rfl
                       refine pure_ (i := 10) (N := some 104) (v := ?_) (a' := ?_) #[true, true, true, true, true, true, true, true, true, false, true, false, false, false] rfl rfl (any_of HT_.out (by kernel_rfl)) (fun _ _ _ h => h) (Or.inl ⟨by rfl, ?_⟩) ?_ ?_
                       rotate_left
                       ·intro w'
                        go_simp
                        with_reducible rfl
                       rotate_left
                       ·simp only [Act.put, List.setIfInBounds_toArray, List.set_cons_zero, List.set_cons_succ, i64_w, i32_w]
                        rfl
                       refine one_ (i := 9) (N := some 103) #[true, true, true, true, true, true, true, true, true, true, true, false, false, false] rfl rfl (one_of HT_.out (by kernel_rfl)) (by decide) (fun K hK => ?_)
                       refine Kd.R_lit_step k66 _ 66 ?hg (N := 103) ?hd (xs := ([(⟨x45_2, Int.tmod x12_5 a1, wrap64 (Int.tdiv x12_5 a1), (rdOf false y148 x55_3)⟩ : S66)] : List (S66))) (inner := [.int .i64 x45_2, .int .i64 (Int.tmod x12_5 a1), .int .i64 (wrap64 (Int.tdiv x12_5 a1)), .bool (rdOf false y148 x55_3)]) (ok := fun _ => True) (okp := fun _ => True) ?hr ?hp (fun _ hk => hk) trivial (Below.refl _ _) (Nat.le_refl _) (by simp) ?_; (case hd => rfl); (case hg => rfl); (case hr => first | (go_simp; done) | (go_simp; rfl)); (case hp => exact (Reps.c4 (show Kd.M k66 _ _ _ (⟨x45_2, Int.tmod x12_5 a1, wrap64 (Int.tdiv x12_5 a1), (rdOf false y148 x55_3)⟩ : S66) [.int .i64 x45_2, .int .i64 (Int.tmod x12_5 a1), .int .i64 (wrap64 (Int.tdiv x12_5 a1)), .bool (rdOf false y148 x55_3)] from (k66_mkM _ _ _ (⟨x45_2, Int.tmod x12_5 a1, wrap64 (Int.tdiv x12_5 a1), (rdOf false y148 x55_3)⟩ : S66) )) (Reps.none _ _)))
                       intro v167 w47 ho48 hb hg_ hnew_
                       clear hg_ hnew_
                       (first | rw [← Ny166.out] at ho48 | (simp only [Int.reduceToNat] at ho48; rw [← Ny166.out] at ho48))
                       have n0_ := Aside0.mk (Kd.R_below (by (with_reducible repeat (first | apply Kd.R_alloc | apply Kd.R_drewN | apply Kd.R_drew)); exact HO_53.out) hb)
                       have n1_ := Aside0.mk (Kd.R_below (by (with_reducible repeat (first | apply Kd.R_alloc | apply Kd.R_drewN | apply Kd.R_drew)); exact HO154.out) hb)
                       have n2_ := Aside0.mk (Kd.R_below (by (with_reducible repeat (first | apply Kd.R_alloc | apply Kd.R_drewN | apply Kd.R_drew)); exact HO161.out) hb)
                       have n3_ := Aside0.mk (Kd.R_elder' (by (with_reducible repeat (first | apply Kd.R_alloc | apply Kd.R_drewN | apply Kd.R_drew)); exact HO165.out) (Kd.R_base ho48) hb)
                       have n4_ := Aside0.mk (Kd.R_lower (Kd.R_new' ho48 (Kd.R_lt (by (with_reducible repeat (first | apply Kd.R_alloc | apply Kd.R_drewN | apply Kd.R_drew)); exact HO165.out))) (below_size (by repeat (first | (with_reducible first | exact HB.out | apply below_alloc | apply pw_below_drewN | apply below_drew1 | refine below_set ?_ GE146.out) | exact HB.out | exact Below.refl _ _))))
                       have n5_ := Aside0.mk (blk_below (g := gb146) (o := .cells #[.int .i64 ((rd_T50 l3 x45_2).f0), .int .i64 ((rd_T50 l3 x45_2).f1)] 50 (0, 0)) (by (with_reducible repeat (first | refine blk_drewN ?_ _ | refine blk_drew ?_ | refine blk_alloc ?_ _)); exact BK146.out) hb)
                       have n6_ := Aside0.mk (below_step (by repeat (first | (with_reducible first | exact HB.out | apply below_alloc | apply pw_below_drewN | apply below_drew1 | refine below_set ?_ GE146.out) | exact HB.out | exact Below.refl _ _)) hb)
                       clear HO_53
                       clear HO154
                       clear HO161
                       clear HO165
                       clear BK146
                       (try clear HB)
                       have HO_53 := n0_
                       have HO154 := n1_
                       have HO161 := n2_
                       have HO165 := n3_
                       have HO168 := n4_
                       have BK146 := n5_
                       have HB := n6_
                       clear n0_ n1_ n2_ n3_ n4_ n5_ n6_
                       clear hb ho48
                       obtain ⟨Ao50, co50, eo50⟩ := Kd.R_slice HO165.out
                       (first | subst eo50 | (injection eo50 with f1_ f2_ f3_; have f4_ := f1_.symm; have f5_ := f3_.symm; clear f1_ f2_ f3_; subst f4_; subst f5_))
                       refine hK.out _ _ trivial (fun hHeld => ?_)
                       clear hK K
                       refine norm_ (a' := ?_) ?_ ?_
                       rotate_left
                       ·show Act.put _ (some 103) _ = _
                        simp only [Act.put, List.setIfInBounds_toArray, List.set_cons_zero, List.set_cons_succ, i64_w, i32_w]
                        rfl
                       refine one_ (i := 11) (N := some 105) #[true, true, true, true, true, true, true, true, true, true, true, true, false, false] rfl rfl (one_of HT_.out (by kernel_rfl)) (by decide) (fun K hK => ?_)
                       refine Kd.R_append_rows_step k66 (w0 := w) w.heap.size (by rfl) (.tmp 103) (.tmp 104) 37 66 (.agg #[(.int .i64 0), (.int .i64 0), (.int .i64 0), (.bool false)]) 32 rfl Try.underlying37 info66 rfl (by decide) (by omega) v167 y166 t162 _ _ _ (fun k_ => some k_ ≠ (.slice Ao50 t162.length co50 : Value).ownBlock) (fun _ => False) rfl rfl ?aO ?aR (fun _ _ h => h) (fun _ h => h.elim) ?aF ?aB ?aS ?aL ?_
                       (case aR => repeat (first | exact (Kd.R_reads' HO165.out).2.2 | (with_reducible refine Kd.C_alloc ?_ _) | (with_reducible refine Kd.C_drewN ?_ _) | (with_reducible refine Kd.C_drew ?_)))
                       (case aB => exact (by repeat (first | (with_reducible first | exact HB.out | apply below_alloc | apply pw_below_drewN | apply below_drew1 | refine below_set ?_ GE146.out) | exact HB.out | exact Below.refl _ _)))
                       (case aF => exact (fun k_ hk => Kd.fresh' (Kd.R_lt (by (with_reducible repeat (first | apply Kd.R_alloc | apply Kd.R_drewN | apply Kd.R_drew)); exact HO165.out)) k_ hk))
                       (case aO => exact (by (with_reducible repeat (first | apply Kd.R_alloc | apply Kd.R_drewN | apply Kd.R_drew)); exact Kd.R_mono HO168.out (fun _ hk => hk.2)))
                       (case aS => exact (below_size (by repeat (first | (with_reducible first | exact HB.out | apply below_alloc | apply pw_below_drewN | apply below_drew1 | refine below_set ?_ GE146.out) | exact HB.out | exact Below.refl _ _))))
                       (case aL => have := LMc38.out; omega)
                       intro v170 w49 ho hb hg hat
                       rw [← Ny169.out] at ho
                       have n0_ := Aside0.mk (Kd.R_over' (by (with_reducible repeat (first | apply Kd.R_alloc | apply Kd.R_drewN | apply Kd.R_drew)); exact HO_53.out) (Kd.R_typed (by (with_reducible repeat (first | apply Kd.R_alloc | apply Kd.R_drewN | apply Kd.R_drew)); exact HO168.out)) (by decide) hg)
                       have n1_ := Aside0.mk (blk_grown (g := gb146) (o := .cells #[.int .i64 ((rd_T50 l3 x45_2).f0), .int .i64 ((rd_T50 l3 x45_2).f1)] 50 (0, 0)) (by (with_reducible repeat (first | refine blk_drewN ?_ _ | refine blk_drew ?_ | refine blk_alloc ?_ _)); exact BK146.out) hg (Kd.R_ne HO168.out BK146.out (by decide)))
                       have n2_ := Aside0.mk (Kd.R_over' (by (with_reducible repeat (first | apply Kd.R_alloc | apply Kd.R_drewN | apply Kd.R_drew)); exact HO154.out) (Kd.R_typed (by (with_reducible repeat (first | apply Kd.R_alloc | apply Kd.R_drewN | apply Kd.R_drew)); exact HO168.out)) (by decide) hg)
                       have n3_ := Aside0.mk (Kd.R_over' (by (with_reducible repeat (first | apply Kd.R_alloc | apply Kd.R_drewN | apply Kd.R_drew)); exact HO161.out) (Kd.R_typed (by (with_reducible repeat (first | apply Kd.R_alloc | apply Kd.R_drewN | apply Kd.R_drew)); exact HO168.out)) (by decide) hg)
                       have n4_ := Aside0.mk (Kd.R_after (ok := (fun _ => True)) (by (with_reducible repeat (first | apply Kd.R_alloc | apply Kd.R_drewN | apply Kd.R_drew)); exact HO165.out) hg hat)
                       have n5_ := Aside0.mk (hb)
                       have n6_ := Aside0.mk (ho)
                       clear HO_53
                       clear BK146
                       clear HO154
                       clear HO161
                       clear HO165
                       (try clear HB)
                       clear HO168
                       have HO_53 := n0_
                       have BK146 := n1_
                       have HO154 := n2_
                       have HO161 := n3_
                       have HO165 := n4_
                       have HB := n5_
                       have HO171 := n6_
                       clear n0_ n1_ n2_ n3_ n4_ n5_ n6_
                       clear ho hb hg hat
                       refine hK.out _ _ trivial (fun hHeld => ?_)
                       clear hK K
                       refine norm_ (a' := ?_) ?_ ?_
                       rotate_left
                       ·show Act.put _ (some 105) _ = _
                        simp only [Act.put, List.setIfInBounds_toArray, List.set_cons_zero, List.set_cons_succ, i64_w, i32_w]
                        rfl
                       refine pure_ (i := 12) (N := some 10) (v := ?_) (a' := ?_) #[true, true, true, true, true, true, true, true, true, true, true, true, true, false] rfl rfl (any_of HT_.out (by kernel_rfl)) (fun _ _ _ h => h) (Or.inl ⟨by rfl, ?_⟩) ?_ ?_
                       rotate_left
                       ·intro w'
                        go_simp
                        with_reducible rfl
                       rotate_left
                       ·simp only [Act.put, List.setIfInBounds_toArray, List.set_cons_zero, List.set_cons_succ, i64_w, i32_w]
                        rfl
                       refine pure_ (i := 13) (N := some 11) (v := ?_) (a' := ?_) #[true, true, true, true, true, true, true, true, true, true, true, true, true, true] rfl rfl (any_of HT_.out (by kernel_rfl)) (fun _ _ _ h => h) (Or.inl ⟨by rfl, ?_⟩) ?_ ?_
                       rotate_left
                       ·intro w'
                        go_simp
                        with_reducible rfl
                       rotate_left
                       ·simp only [Act.put, List.setIfInBounds_toArray, List.set_cons_zero, List.set_cons_succ, i64_w, i32_w]
                        rfl
                       refine done_ (done_of HT_.out (by kernel_rfl)) ?_
                       try go_wp2
                       go_ret2
                       exact ⟨_, by first | rfl | (simp [errW_none, errW_some] <;> rfl) | (simp [*, errW_none, errW_some] <;> rfl), by (with_reducible repeat (first | apply Kd.R_alloc | apply Kd.R_drewN | apply Kd.R_drew)); exact Kd.R_mono HO171.out (fun _ hk => trivial), by repeat (first | (with_reducible first | exact HB.out | apply below_alloc | apply pw_below_drewN | apply below_drew1 | refine below_set ?_ GE146.out) | exact HB.out | exact Below.refl _ _)⟩
                      ·rw [if_neg c38] at H
                       exact absurd H (by simp)
                    ·replace c36 := Bool.eq_false_iff.mpr c36
                     subst c36
                     have H1 : (spec_fuFill.l2 kj25 l0 a1 a2 l3 l4 x12_5 x45_2 l3 (l3.length : Int) x45_2 y148 (y148.length : Int) (wrap64 (x55_3 + 1)) ((rd_T50 l3 x45_2).f0) ((rd_T50 l3 x45_2).f1)) = some (r1, r2) := by rw [if_neg (show ¬ (false = true) by decide)] at H; exact H
                     clear H
                     have H := H1
                     clear H1
                     have H' := Aside0.mk H
                     clear H
                     have hcz51_0 : wc.cell? ⟨gb146, 0, none⟩ = some (.int .i64 ((rd_T50 l3 x45_2).f0)) := (blk_cell BK146.out 0).trans rfl
                     have hcz51_1 : wc.cell? ⟨gb146, 1, none⟩ = some (.int .i64 ((rd_T50 l3 x45_2).f1)) := (blk_cell BK146.out 1).trans rfl
                     have hfz51_0 := blk_frozen BK146.out 0
                     have hfz51_1 := blk_frozen BK146.out 1
                     go_wp2_with (first | ((with_reducible refine gate_callee (f := 65) rfl ?_); refine goesL_ (some 75) rfl rfl Try.func65 (by kernel_rfl) rfl #[.slice A0 l0.length c0, .int .i64 a1, .int .i64 a2, .agg #[.int .i64 ((rd_T50 l3 x45_2).f0), .int .i64 ((rd_T50 l3 x45_2).f1)], .bool (rdOf false y148 x55_3), .int .i64 x12_5, .int .i64 x45_2] rfl (by (try simp only [List.map_toArray, List.map_cons, List.map_nil]); first | done | rfl | (simp only [List.length_drop, List.length_take]; rfl)) ?_; (with_reducible refine (spec_fuPut.calls kj25 _ _ l0 a1 a2 ((rd_T50 l3 x45_2).f0) ((rd_T50 l3 x45_2).f1) (rdOf false y148 x55_3) x12_5 x45_2 t152 true _ ?side1 ?side2 A31.out).mono ?_); (case side1 => repeat (first | exact (Kd.C_below HR0.out HB.out) | exact HR0.out | (with_reducible refine Kd.C_alloc ?_ _) | (with_reducible refine Kd.C_drewN ?_ _) | (with_reducible refine Kd.C_drew ?_))); (case side2 => exact HC0.out); rintro e w52 ⟨v153, rfl, ho0, hb⟩; refine ⟨_, rfl, ?_⟩; have n0_ := Aside0.mk (Kd.R_below (by (with_reducible repeat (first | apply Kd.R_alloc | apply Kd.R_drewN | apply Kd.R_drew)); exact HO_53.out) hb); have n1_ := Aside0.mk (Kd.R_lower ho0 (below_size (by repeat (first | (with_reducible first | exact HB.out | apply below_alloc | apply pw_below_drewN | apply below_drew1 | refine below_set ?_ GE146.out) | exact HB.out | exact Below.refl _ _)))); have n2_ := Aside0.mk (blk_below (g := gb146) (o := .cells #[.int .i64 ((rd_T50 l3 x45_2).f0), .int .i64 ((rd_T50 l3 x45_2).f1)] 50 (0, 0)) (by (with_reducible repeat (first | refine blk_drewN ?_ _ | refine blk_drew ?_ | refine blk_alloc ?_ _)); exact BK146.out) hb); have n3_ := Aside0.mk (below_step (by repeat (first | (with_reducible first | exact HB.out | apply below_alloc | apply pw_below_drewN | apply below_drew1 | refine below_set ?_ GE146.out) | exact HB.out | exact Below.refl _ _)) hb); clear HO_53; clear BK146; clear HB; have HO_53 := n0_; have HO154 := n1_; have BK146 := n2_; have HB := n3_; clear n0_ n1_ n2_ n3_; (try clear hb); (try clear hb2); (try clear hk); (try clear hi); (try clear ho0)) | ((with_reducible refine gate_callee (f := 32) rfl ?_); refine goesL_ (some 86) rfl rfl Try.func32 (by kernel_rfl) rfl #[.slice A4 l4.length c4] rfl (by (try simp only [List.map_toArray, List.map_cons, List.map_nil]); first | done | rfl | (simp only [List.length_drop, List.length_take]; rfl)) ?_; (with_reducible refine (spec_l1Own.calls _ _ l4 t156 _ ?side1 ?side2 A33.out).mono ?_); (case side1 => repeat (first | exact (Kd.C_below HR4.out HB.out) | exact HR4.out | (with_reducible refine Kd.C_alloc ?_ _) | (with_reducible refine Kd.C_drewN ?_ _) | (with_reducible refine Kd.C_drew ?_))); (case side2 => exact HC4.out); rintro e w53 ⟨v157, rfl, ho0, hb⟩; refine ⟨_, rfl, ?_⟩; have n0_ := Aside0.mk (Kd.R_below (by (with_reducible repeat (first | apply Kd.R_alloc | apply Kd.R_drewN | apply Kd.R_drew)); exact HO_53.out) hb); have n1_ := Aside0.mk (Kd.R_elder' (by (with_reducible repeat (first | apply Kd.R_alloc | apply Kd.R_drewN | apply Kd.R_drew)); exact HO154.out) (Kd.R_base ho0) hb); have n2_ := Aside0.mk (Kd.R_lower (Kd.R_new' ho0 (Kd.R_lt (by (with_reducible repeat (first | apply Kd.R_alloc | apply Kd.R_drewN | apply Kd.R_drew)); exact HO154.out))) (below_size (by repeat (first | (with_reducible first | exact HB.out | apply below_alloc | apply pw_below_drewN | apply below_drew1 | refine below_set ?_ GE146.out) | exact HB.out | exact Below.refl _ _)))); have n3_ := Aside0.mk (blk_below (g := gb146) (o := .cells #[.int .i64 ((rd_T50 l3 x45_2).f0), .int .i64 ((rd_T50 l3 x45_2).f1)] 50 (0, 0)) (by (with_reducible repeat (first | refine blk_drewN ?_ _ | refine blk_drew ?_ | refine blk_alloc ?_ _)); exact BK146.out) hb); have n4_ := Aside0.mk (below_step (by repeat (first | (with_reducible first | exact HB.out | apply below_alloc | apply pw_below_drewN | apply below_drew1 | refine below_set ?_ GE146.out) | exact HB.out | exact Below.refl _ _)) hb); clear HO_53; clear HO154; clear BK146; clear HB; have HO_53 := n0_; have HO154 := n1_; have HO158 := n2_; have BK146 := n3_; have HB := n4_; clear n0_ n1_ n2_ n3_ n4_; (try clear hb); (try clear hb2); (try clear hk); (try clear hi); (try clear ho0)) | ((with_reducible refine gate_builtin (b := .append) (xs := #[.tmp 86, .tmp 88]) rfl ?_); at_builtin; refine Kd.R_append (Kd.int .i64) (w0 := w) w.heap.size rfl (.tmp 86) (.tmp 88) 24 3 (.int .i64 0) 8 rfl Try.underlying24 info3 rfl (by decide) (by omega) v157 t156 x45_2 [.int .i64 x45_2] (fun k_ => some k_ ≠ (v153 : Value).ownBlock) (fun _ => False) rfl rfl ?aP (fun _ hk => hk.elim) ?aF ?aO ?aB ?aS ?aL ?_; (case aP => exact rfl); (case aB => exact (by repeat (first | (with_reducible first | exact HB.out | apply below_alloc | apply pw_below_drewN | apply below_drew1 | refine below_set ?_ GE146.out) | exact HB.out | exact Below.refl _ _))); (case aF => exact (fun k_ hk => Kd.fresh' (Kd.R_lt (by (with_reducible repeat (first | apply Kd.R_alloc | apply Kd.R_drewN | apply Kd.R_drew)); exact HO154.out)) k_ hk)); (case aO => exact (by (with_reducible repeat (first | apply Kd.R_alloc | apply Kd.R_drewN | apply Kd.R_drew)); exact Kd.R_mono HO158.out (fun _ hk => hk.2))); (case aS => exact (below_size (by repeat (first | (with_reducible first | exact HB.out | apply below_alloc | apply pw_below_drewN | apply below_drew1 | refine below_set ?_ GE146.out) | exact HB.out | exact Below.refl _ _)))); (case aL => have := LMc34.out; omega); intro v160 w54 ho hb hg hat; rw [← Ny159.out] at ho; have n0_ := Aside0.mk (Kd.R_over' (by (with_reducible repeat (first | apply Kd.R_alloc | apply Kd.R_drewN | apply Kd.R_drew)); exact HO_53.out) (Kd.R_typed (by (with_reducible repeat (first | apply Kd.R_alloc | apply Kd.R_drewN | apply Kd.R_drew)); exact HO158.out)) (by decide) hg); have n1_ := Aside0.mk (blk_grown (g := gb146) (o := .cells #[.int .i64 ((rd_T50 l3 x45_2).f0), .int .i64 ((rd_T50 l3 x45_2).f1)] 50 (0, 0)) (by (with_reducible repeat (first | refine blk_drewN ?_ _ | refine blk_drew ?_ | refine blk_alloc ?_ _)); exact BK146.out) hg (Kd.R_ne HO158.out BK146.out (by decide))); have n2_ := Aside0.mk (Kd.R_after (ok := (fun _ => True)) (by (with_reducible repeat (first | apply Kd.R_alloc | apply Kd.R_drewN | apply Kd.R_drew)); exact HO154.out) hg hat); have n3_ := Aside0.mk (hb); have n4_ := Aside0.mk (ho); clear HO_53; clear BK146; clear HO154; clear HB; clear HO158; have HO_53 := n0_; have BK146 := n1_; have HO154 := n2_; have HB := n3_; have HO161 := n4_; clear n0_ n1_ n2_ n3_ n4_; clear ho hb hg hat; obtain ⟨Ao55, co55, eo55⟩ := Kd.R_slice HO154.out; subst eo55; obtain ⟨Ao56, co56, eo56⟩ := Kd.R_slice HO161.out; subst eo56) | ((with_reducible refine gate_callee (f := 55) rfl ?_); refine goesL_ (some 90) rfl rfl Try.func55 (by kernel_rfl) rfl #[.slice Ao55 t152.length co55, .int .i64 a1, .int .i64 a2, .slice (some ad145) l3.length c3, .slice Ao56 y159.length co56] rfl (by (try simp only [List.map_toArray, List.map_cons, List.map_nil]); first | done | rfl | (simp only [List.length_drop, List.length_take]; rfl)) ?_; (with_reducible refine (ih kj25 (by have := HJ5.out; have := HK2.out; have := HK3.out; have := HJ25.out; omega) _ _ t152 a1 a2 _ _ l3 _ _ y159 t162 false _ ?side1 ?side2 ?side3 ?side4 ?side5 ?side6 A35.out).mono ?_); (case side1 => repeat (first | exact (Kd.R_reads' HO154.out).2.2 | (with_reducible refine Kd.C_alloc ?_ _) | (with_reducible refine Kd.C_drewN ?_ _) | (with_reducible refine Kd.C_drew ?_))); (case side2 => exact (Kd.R_reads' HO154.out).2.1); (case side3 => repeat (first | exact (Kd.C_below HR3.out HB.out) | exact HR3.out | (with_reducible refine Kd.C_alloc ?_ _) | (with_reducible refine Kd.C_drewN ?_ _) | (with_reducible refine Kd.C_drew ?_))); (case side4 => exact HC3.out); (case side5 => repeat (first | exact (Kd.R_reads' HO161.out).2.2 | (with_reducible refine Kd.C_alloc ?_ _) | (with_reducible refine Kd.C_drewN ?_ _) | (with_reducible refine Kd.C_drew ?_))); (case side6 => exact (Kd.R_reads' HO161.out).2.1); rintro e w57 ⟨v164, rfl, ho0, hb⟩; refine ⟨_, rfl, ?_⟩; have n0_ := Aside0.mk (Kd.R_below (by (with_reducible repeat (first | apply Kd.R_alloc | apply Kd.R_drewN | apply Kd.R_drew)); exact HO_53.out) hb); have n1_ := Aside0.mk (Kd.R_below (by (with_reducible repeat (first | apply Kd.R_alloc | apply Kd.R_drewN | apply Kd.R_drew)); exact HO154.out) hb); have n2_ := Aside0.mk (Kd.R_below (by (with_reducible repeat (first | apply Kd.R_alloc | apply Kd.R_drewN | apply Kd.R_drew)); exact HO161.out) hb); have n3_ := Aside0.mk (Kd.R_lower ho0 (below_size (by repeat (first | (with_reducible first | exact HB.out | apply below_alloc | apply pw_below_drewN | apply below_drew1 | refine below_set ?_ GE146.out) | exact HB.out | exact Below.refl _ _)))); have n4_ := Aside0.mk (blk_below (g := gb146) (o := .cells #[.int .i64 ((rd_T50 l3 x45_2).f0), .int .i64 ((rd_T50 l3 x45_2).f1)] 50 (0, 0)) (by (with_reducible repeat (first | refine blk_drewN ?_ _ | refine blk_drew ?_ | refine blk_alloc ?_ _)); exact BK146.out) hb); have n5_ := Aside0.mk (below_step (by repeat (first | (with_reducible first | exact HB.out | apply below_alloc | apply pw_below_drewN | apply below_drew1 | refine below_set ?_ GE146.out) | exact HB.out | exact Below.refl _ _)) hb); clear HO_53; clear HO154; clear HO161; clear BK146; clear HB; have HO_53 := n0_; have HO154 := n1_; have HO161 := n2_; have HO165 := n3_; have BK146 := n4_; have HB := n5_; clear n0_ n1_ n2_ n3_ n4_ n5_; (try clear hb); (try clear hb2); (try clear hk); (try clear hi); (try clear ho0)))
                     go_roundg kj25
                     case measure => have := HJ5.out; have := HK2.out; have := HK3.out; have := HJ25.out; omega
                     case rel => exact ⟨(wrap64 (x55_3 + 1)), (by first | rfl | (simp; done) | (simp [*]; done)), H', ⟨by have := HJ5.out; have := HK2.out; have := HK3.out; have := HJ25.out; omega⟩, ⟨by (with_reducible repeat (first | apply Kd.R_alloc | apply Kd.R_drewN | apply Kd.R_drew)); exact HO_53.out⟩, ⟨by (with_reducible repeat (first | refine blk_drewN ?_ _ | refine blk_drew ?_ | refine blk_alloc ?_ _)); exact BK146.out⟩, ⟨by repeat (first | (with_reducible first | exact HB.out | apply below_alloc | apply pw_below_drewN | apply below_drew1 | refine below_set ?_ GE146.out) | exact HB.out | exact Below.refl _ _)⟩⟩
                   ·rw [if_neg c34] at H
                    exact absurd H (by simp)
                  ·replace c32 := Bool.eq_false_iff.mpr c32
                   subst c32
                   have H1 : (spec_fuFill.l2 kj25 l0 a1 a2 l3 l4 x12_5 x45_2 l3 (l3.length : Int) x45_2 y148 (y148.length : Int) (wrap64 (x55_3 + 1)) ((rd_T50 l3 x45_2).f0) ((rd_T50 l3 x45_2).f1)) = some (r1, r2) := by rw [if_neg (show ¬ (false = true) by decide)] at H; exact H
                   clear H
                   have H := H1
                   clear H1
                   have H' := Aside0.mk H
                   clear H
                   have hcz58_0 : wc.cell? ⟨gb146, 0, none⟩ = some (.int .i64 ((rd_T50 l3 x45_2).f0)) := (blk_cell BK146.out 0).trans rfl
                   have hcz58_1 : wc.cell? ⟨gb146, 1, none⟩ = some (.int .i64 ((rd_T50 l3 x45_2).f1)) := (blk_cell BK146.out 1).trans rfl
                   have hfz58_0 := blk_frozen BK146.out 0
                   have hfz58_1 := blk_frozen BK146.out 1
                   go_wp2_with (first | ((with_reducible refine gate_callee (f := 65) rfl ?_); refine goesL_ (some 75) rfl rfl Try.func65 (by kernel_rfl) rfl #[.slice A0 l0.length c0, .int .i64 a1, .int .i64 a2, .agg #[.int .i64 ((rd_T50 l3 x45_2).f0), .int .i64 ((rd_T50 l3 x45_2).f1)], .bool (rdOf false y148 x55_3), .int .i64 x12_5, .int .i64 x45_2] rfl (by (try simp only [List.map_toArray, List.map_cons, List.map_nil]); first | done | rfl | (simp only [List.length_drop, List.length_take]; rfl)) ?_; (with_reducible refine (spec_fuPut.calls kj25 _ _ l0 a1 a2 ((rd_T50 l3 x45_2).f0) ((rd_T50 l3 x45_2).f1) (rdOf false y148 x55_3) x12_5 x45_2 t152 false _ ?side1 ?side2 A31.out).mono ?_); (case side1 => repeat (first | exact (Kd.C_below HR0.out HB.out) | exact HR0.out | (with_reducible refine Kd.C_alloc ?_ _) | (with_reducible refine Kd.C_drewN ?_ _) | (with_reducible refine Kd.C_drew ?_))); (case side2 => exact HC0.out); rintro e w59 ⟨v153, rfl, ho0, hb⟩; refine ⟨_, rfl, ?_⟩; have n0_ := Aside0.mk (Kd.R_below (by (with_reducible repeat (first | apply Kd.R_alloc | apply Kd.R_drewN | apply Kd.R_drew)); exact HO_53.out) hb); have n1_ := Aside0.mk (Kd.R_lower ho0 (below_size (by repeat (first | (with_reducible first | exact HB.out | apply below_alloc | apply pw_below_drewN | apply below_drew1 | refine below_set ?_ GE146.out) | exact HB.out | exact Below.refl _ _)))); have n2_ := Aside0.mk (blk_below (g := gb146) (o := .cells #[.int .i64 ((rd_T50 l3 x45_2).f0), .int .i64 ((rd_T50 l3 x45_2).f1)] 50 (0, 0)) (by (with_reducible repeat (first | refine blk_drewN ?_ _ | refine blk_drew ?_ | refine blk_alloc ?_ _)); exact BK146.out) hb); have n3_ := Aside0.mk (below_step (by repeat (first | (with_reducible first | exact HB.out | apply below_alloc | apply pw_below_drewN | apply below_drew1 | refine below_set ?_ GE146.out) | exact HB.out | exact Below.refl _ _)) hb); clear HO_53; clear BK146; clear HB; have HO_53 := n0_; have HO154 := n1_; have BK146 := n2_; have HB := n3_; clear n0_ n1_ n2_ n3_; (try clear hb); (try clear hb2); (try clear hk); (try clear hi); (try clear ho0)))
                   go_roundg kj25
                   case measure => have := HJ5.out; have := HK2.out; have := HK3.out; have := HJ25.out; omega
                   case rel => exact ⟨(wrap64 (x55_3 + 1)), (by first | rfl | (simp; done) | (simp [*]; done)), H', ⟨by have := HJ5.out; have := HK2.out; have := HK3.out; have := HJ25.out; omega⟩, ⟨by (with_reducible repeat (first | apply Kd.R_alloc | apply Kd.R_drewN | apply Kd.R_drew)); exact HO_53.out⟩, ⟨by (with_reducible repeat (first | refine blk_drewN ?_ _ | refine blk_drew ?_ | refine blk_alloc ?_ _)); exact BK146.out⟩, ⟨by repeat (first | (with_reducible first | exact HB.out | apply below_alloc | apply pw_below_drewN | apply below_drew1 | refine below_set ?_ GE146.out) | exact HB.out | exact Below.refl _ _)⟩⟩
              ·rw [if_neg c25] at H
               exact absurd H (by simp)
             ·rw [if_neg c24] at H
              exact absurd H (by simp)
            ·rw [if_neg c23] at H
             have c23b0 : decide (x55_3 < (y148.length : Int)) = false := decide_eq_false c23
             clear c23
             have H' := Aside0.mk H
             clear H
             go_wp2
             go_roundg k3
             case measure => have := HJ5.out; have := HK2.out; have := HK3.out; omega
             case rel => exact ⟨(wrap64 (x45_2 + 1)), (by first | rfl | (simp; done) | (simp [*]; done)), H', ⟨by have := HJ5.out; have := HK2.out; have := HK3.out; omega⟩, ⟨by repeat (first | (with_reducible first | exact HB.out | apply below_alloc | apply pw_below_drewN | apply below_drew1 | refine below_set ?_ GE146.out) | exact HB.out | exact Below.refl _ _)⟩⟩
        ·rw [if_neg c13] at H
         exact absurd H (by simp)
       ·rw [if_neg c12] at H
        exact absurd H (by simp)
      ·rw [if_neg c11] at H
       have c11b0 : decide (x45_2 < (l3.length : Int)) = false := decide_eq_false c11
       clear c11
       simp only [Option.some.injEq, Prod.mk.injEq] at H
       obtain ⟨rfl, rfl⟩ := H
       go_wp2
       go_ret2
       exact ⟨_, by first | rfl | (simp [errW_none, errW_some] <;> rfl) | (simp [*, errW_none, errW_some] <;> rfl), by first | exact Kd.R_nil _ _ _ _ _ | exact Kd.N_nil _ _ _ _ _ | exact Kd.V_nil _ _ _ _ _ | exact Kd.Q_nil _ _ _ _ _ | exact Kd.S_nil _ _ _ _ _, by repeat (first | (with_reducible first | exact HB.out | apply below_alloc | apply pw_below_drewN | apply below_drew1) | exact HB.out | exact Below.refl _ _)⟩

end Go.Proofs.Ythpgmjlhakdemaa.PFnExactFillChase
