/- The printed functions of the law FnExactFillChase and their contracts, mended by this session's program (mend.py) where the printed walk stops. No condition. -/
import Derived.Test.YthpgmjlhakdemaaQFnExactFillChasex0
import Derived.Test.YthpgmjlhakdemaaQFnExactFillChasex5
import Derived.Test.YthpgmjlhakdemaaQFnExactFillChasex6
import Derived.Test.YthpgmjlhakdemaaQFnExactFillChasex7
namespace Go.Proofs.Ythpgmjlhakdemaa.PFnExactFillChase
open Go.RowKit Go.Proofs.YthpgmjlhakdemaaW.PrintWords Go.Proofs.YthpgmjlhakdemaaW.PrintLast Go.Proofs.YthpgmjlhakdemaaW.PrintMore
attribute [local go_sem] max2_int min2_int max_two min_two max_three min_three max_four min_four   -- for this text's walks alone
set_option linter.unusedVariables false
set_option linter.unusedSimpArgs false

/-! ### impl_fill: function 45 -/
mutual
def impl_fill.l1 : Nat → List (List Int) → List (S50) → List Bool → List (S66) → Int → Int → Int → Int → Option (Bool × (List (List Int)) × List Bool × (List (S66)))
 | 0, _, _, _, _, _, _, _, _ => none
 | k + 1, x0, x1, x2, x3, x9, x10, x36, x37 => if x37 < x36 then (if 0 ≤ x37 then (if x37 < (x2.length : Int) then (if rdOf false x2 x37 = true then (impl_fill.l1 k x0 x1 x2 x3 x9 x10 x36 (wrap64 (x37 + 1))) else ((some (([false, true] : List Bool) : List Bool)).bind fun y225 => (impl_fill.l2 k x0 x1 x2 x3 x9 x10 x37 x36 x37 y225 (y225.length : Int) 0))) else (none)) else (none)) else (some (false, x0, x2, x3))
def impl_fill.l2 : Nat → List (List Int) → List (S50) → List Bool → List (S66) → Int → Int → Int → Int → Int → List Bool → Int → Int → Option (Bool × (List (List Int)) × List Bool × (List (S66)))
 | 0, _, _, _, _, _, _, _, _, _, _, _, _ => none
 | k + 1, x0, x1, x2, x3, x9, x10, x14, x36, x37, x44, x45, x46 => if x46 < x45 then (if 0 ≤ x46 then (if x46 < (x44.length : Int) then ((impl_isRoom.f k x0 x1 x14 x9 x10 (rdOf false x44 x46)).bind fun t230 => (if t230 = true then ((impl_mark.f k x0 x1 x14 x9 x10 (rdOf false x44 x46) x14).bind fun t231 => (if 0 ≤ x14 then (if x14 < (x2.length : Int) then (if x14 < (x3.length : Int) then ((impl_fill.f k t231 x1 (x2.set (x14 : Int).toNat true) (x3.set (x14 : Int).toNat (⟨x14, x9, x10, rdOf false x44 x46⟩ : S66))).bind fun bt234 => (if bt234.1 = true then (some (true, bt234.2.1, bt234.2.2.1, bt234.2.2.2)) else ((impl_mark.f k bt234.2.1 x1 x14 x9 x10 (rdOf false x44 x46) (-1)).bind fun t238 => (impl_fill.l2 k t238 x1 (bt234.2.2.1.set (x14 : Int).toNat false) bt234.2.2.2 x9 x10 x14 x36 x37 x44 x45 (wrap64 (x46 + 1)))))) else (none)) else (none)) else (none))) else (impl_fill.l2 k x0 x1 x2 x3 x9 x10 x14 x36 x37 x44 x45 (wrap64 (x46 + 1))))) else (none)) else (none)) else (impl_fill.l1 k x0 x1 x2 x3 x9 x10 x36 (wrap64 (x37 + 1)))
def impl_fill.l0 : Nat → List (List Int) → List Bool → List (S66) → List Bool → Int → Int → Option (Bool × (List (List Int)) × List Bool × (List (S66)))
 | 0, _, _, _, _, _, _ => none
 | k + 1, x0, x2, x3, x26, x27, x28 => if x28 < x27 then (if 0 ≤ x28 then (if x28 < (x26.length : Int) then (if rdOf false x26 x28 = true then (impl_fill.l0 k x0 x2 x3 x26 x27 (wrap64 (x28 + 1))) else (some (false, x0, x2, x3))) else (none)) else (none)) else (some (true, x0, x2, x3))
def impl_fill.f : Nat → List (List Int) → List (S50) → List Bool → List (S66) → Option (Bool × (List (List Int)) × List Bool × (List (S66)))
 | 0, _, _, _, _ => none
 | k + 1, l0, l1, l2, l3 => (impl_firstFree.f k l0).bind fun bt220 => (if bt220.2.2 = true then (impl_fill.l1 k l0 l1 l2 l3 bt220.1 bt220.2.1 (l1.length : Int) 0) else (impl_fill.l0 k l0 l2 l3 l2 (l2.length : Int) 0))
end
theorem impl_fill.mono_l : ∀ k, (∀ y0 y1 y2 y3, LeO (impl_fill.f k y0 y1 y2 y3) (impl_fill.f (k + 1) y0 y1 y2 y3)) ∧ (∀ y0 y1 y2 y3 y4 y5 y6 y7, LeO (impl_fill.l1 k y0 y1 y2 y3 y4 y5 y6 y7) (impl_fill.l1 (k + 1) y0 y1 y2 y3 y4 y5 y6 y7)) ∧ (∀ y0 y1 y2 y3 y4 y5 y6 y7 y8 y9 y10 y11, LeO (impl_fill.l2 k y0 y1 y2 y3 y4 y5 y6 y7 y8 y9 y10 y11) (impl_fill.l2 (k + 1) y0 y1 y2 y3 y4 y5 y6 y7 y8 y9 y10 y11)) ∧ (∀ y0 y1 y2 y3 y4 y5, LeO (impl_fill.l0 k y0 y1 y2 y3 y4 y5) (impl_fill.l0 (k + 1) y0 y1 y2 y3 y4 y5))
 | 0 => ⟨fun _ _ _ _ r h => by simp [impl_fill.f] at h, fun _ _ _ _ _ _ _ _ r h => by simp [impl_fill.l1] at h, fun _ _ _ _ _ _ _ _ _ _ _ _ r h => by simp [impl_fill.l2] at h, fun _ _ _ _ _ _ r h => by simp [impl_fill.l0] at h⟩
 | k + 1 => by
  obtain ⟨ih0, ih1, ih2, ih3⟩ := impl_fill.mono_l k
  refine ⟨?_, ?_, ?_, ?_⟩
  ·intro y0 y1 y2 y3
   unfold impl_fill.f
   repeat' first
   | (with_reducible exact ih0 _ _ _ _)
   | (with_reducible exact ih1 _ _ _ _ _ _ _ _)
   | (with_reducible exact ih2 _ _ _ _ _ _ _ _ _ _ _ _)
   | (with_reducible exact ih3 _ _ _ _ _ _)
   | (with_reducible exact impl_firstFree.mono _ _)
   | (with_reducible exact impl_isRoom.mono _ _ _ _ _ _ _)
   | (with_reducible exact impl_mark.mono _ _ _ _ _ _ _ _)
   | (with_reducible exact LeO.refl _)
   | (with_reducible exact LeO.none _)
   | (with_reducible refine LeO.ite ?_ ?_)
   | (with_reducible refine LeO.bind ?_ (fun _ => ?_))
   | exact ih0 _ _ _ _
   | exact ih1 _ _ _ _ _ _ _ _
   | exact ih2 _ _ _ _ _ _ _ _ _ _ _ _
   | exact ih3 _ _ _ _ _ _
   | exact impl_firstFree.mono _ _
   | exact impl_isRoom.mono _ _ _ _ _ _ _
   | exact impl_mark.mono _ _ _ _ _ _ _ _
   | exact LeO.none _
   | refine LeO.ite ?_ ?_
   | refine LeO.bind ?_ (fun _ => ?_)
  ·intro y0 y1 y2 y3 y4 y5 y6 y7
   unfold impl_fill.l1
   repeat' first
   | (with_reducible exact ih0 _ _ _ _)
   | (with_reducible exact ih1 _ _ _ _ _ _ _ _)
   | (with_reducible exact ih2 _ _ _ _ _ _ _ _ _ _ _ _)
   | (with_reducible exact ih3 _ _ _ _ _ _)
   | (with_reducible exact impl_firstFree.mono _ _)
   | (with_reducible exact impl_isRoom.mono _ _ _ _ _ _ _)
   | (with_reducible exact impl_mark.mono _ _ _ _ _ _ _ _)
   | (with_reducible exact LeO.refl _)
   | (with_reducible exact LeO.none _)
   | (with_reducible refine LeO.ite ?_ ?_)
   | (with_reducible refine LeO.bind ?_ (fun _ => ?_))
   | exact ih0 _ _ _ _
   | exact ih1 _ _ _ _ _ _ _ _
   | exact ih2 _ _ _ _ _ _ _ _ _ _ _ _
   | exact ih3 _ _ _ _ _ _
   | exact impl_firstFree.mono _ _
   | exact impl_isRoom.mono _ _ _ _ _ _ _
   | exact impl_mark.mono _ _ _ _ _ _ _ _
   | exact LeO.none _
   | refine LeO.ite ?_ ?_
   | refine LeO.bind ?_ (fun _ => ?_)
  ·intro y0 y1 y2 y3 y4 y5 y6 y7 y8 y9 y10 y11
   unfold impl_fill.l2
   repeat' first
   | (with_reducible exact ih0 _ _ _ _)
   | (with_reducible exact ih1 _ _ _ _ _ _ _ _)
   | (with_reducible exact ih2 _ _ _ _ _ _ _ _ _ _ _ _)
   | (with_reducible exact ih3 _ _ _ _ _ _)
   | (with_reducible exact impl_firstFree.mono _ _)
   | (with_reducible exact impl_isRoom.mono _ _ _ _ _ _ _)
   | (with_reducible exact impl_mark.mono _ _ _ _ _ _ _ _)
   | (with_reducible exact LeO.refl _)
   | (with_reducible exact LeO.none _)
   | (with_reducible refine LeO.ite ?_ ?_)
   | (with_reducible refine LeO.bind ?_ (fun _ => ?_))
   | exact ih0 _ _ _ _
   | exact ih1 _ _ _ _ _ _ _ _
   | exact ih2 _ _ _ _ _ _ _ _ _ _ _ _
   | exact ih3 _ _ _ _ _ _
   | exact impl_firstFree.mono _ _
   | exact impl_isRoom.mono _ _ _ _ _ _ _
   | exact impl_mark.mono _ _ _ _ _ _ _ _
   | exact LeO.none _
   | refine LeO.ite ?_ ?_
   | refine LeO.bind ?_ (fun _ => ?_)
  ·intro y0 y1 y2 y3 y4 y5
   unfold impl_fill.l0
   repeat' first
   | (with_reducible exact ih0 _ _ _ _)
   | (with_reducible exact ih1 _ _ _ _ _ _ _ _)
   | (with_reducible exact ih2 _ _ _ _ _ _ _ _ _ _ _ _)
   | (with_reducible exact ih3 _ _ _ _ _ _)
   | (with_reducible exact impl_firstFree.mono _ _)
   | (with_reducible exact impl_isRoom.mono _ _ _ _ _ _ _)
   | (with_reducible exact impl_mark.mono _ _ _ _ _ _ _ _)
   | (with_reducible exact LeO.refl _)
   | (with_reducible exact LeO.none _)
   | (with_reducible refine LeO.ite ?_ ?_)
   | (with_reducible refine LeO.bind ?_ (fun _ => ?_))
   | exact ih0 _ _ _ _
   | exact ih1 _ _ _ _ _ _ _ _
   | exact ih2 _ _ _ _ _ _ _ _ _ _ _ _
   | exact ih3 _ _ _ _ _ _
   | exact impl_firstFree.mono _ _
   | exact impl_isRoom.mono _ _ _ _ _ _ _
   | exact impl_mark.mono _ _ _ _ _ _ _ _
   | exact LeO.none _
   | refine LeO.ite ?_ ?_
   | refine LeO.bind ?_ (fun _ => ?_)
theorem impl_fill.mono : ∀ a0 a1 a2 a3 k, LeO (impl_fill.f k a0 a1 a2 a3) (impl_fill.f (k + 1) a0 a1 a2 a3) := by
 intro a0 a1 a2 a3 k
 obtain ⟨ih0, ih1, ih2, ih3⟩ := impl_fill.mono_l k
 exact ih0 a0 a1 a2 a3
set_option maxHeartbeats 8000000 in
set_option maxRecDepth 100000 in
theorem impl_fill.calls (k : Nat) : ∀ (P0_ : Nat → Prop) (u9000_ : Value) (l0 : List (List Int)) (A1 : Option Addr) (c1 : Nat) (l1 : List (S50)) (P2_ : Nat → Prop) (u9001_ : Value) (l2 : List Bool) (P3_ : Nat → Prop) (u9002_ : Value) (l3 : List (S66)) (r1 : Bool) (r2 : List (List Int)) (r3 : List Bool) (r4 : List (S66)) (w0 w : World) (hB : Below w0.heap.size w0 w) (ho0 : Kd.S (Kd.slice 3 (Kd.int .i64)) 24 w w0.heap.size P0_ u9000_ l0) (hr1 : ∀ W_, Kept w W_ (fun k_ => P0_ k_ ∨ P2_ k_ ∨ P3_ k_) → Kd.C k50 W_ A1 l1.length l1) (hc1 : l1.length ≤ c1) (ho2 : Kd.R Kd.bool 4 w w0.heap.size P2_ u9001_ l2) (ho3 : Kd.R k66 66 w w0.heap.size P3_ u9002_ l3) (h : impl_fill.f k l0 l1 l2 l3 = some (r1, r2, r3, r4)),
  Calls Try.prog 45 #[u9000_, .slice A1 l1.length c1, u9001_, u9002_] w fun e w' => e = .returned (.bool r1) ∧ Kd.S (Kd.slice 3 (Kd.int .i64)) 24 w' w0.heap.size (fun k_ => ((P0_ k_ ∨ P2_ k_ ∨ P3_ k_) ∨ w.heap.size ≤ k_)) u9000_ r2 ∧ Kd.R Kd.bool 4 w' w0.heap.size (fun k_ => ((P0_ k_ ∨ P2_ k_ ∨ P3_ k_) ∨ w.heap.size ≤ k_)) u9001_ r3 ∧ Kd.R k66 66 w' w0.heap.size (fun k_ => ((P0_ k_ ∨ P2_ k_ ∨ P3_ k_) ∨ w.heap.size ≤ k_)) u9002_ r4 ∧ Below w0.heap.size w0 w' ∧ Kept w w' (fun k_ => P0_ k_ ∨ P2_ k_ ∨ P3_ k_) := by
 induction k using Nat.strongRecOn with
 | _ k ih =>
 intro P0_ u9000_ l0 A1 c1 l1 P2_ u9001_ l2 P3_ u9002_ l3 r1 r2 r3 r4 w0 w hB ho0 hr1 hc1 ho2 ho3 h
 cases k with
 | zero => exact absurd h (by simp [impl_fill.f])
 | succ k =>
 simp only [impl_fill.f] at h
 have hu66 := Try.underlying66
 have HO0 := Aside0.mk (show Kd.S (Kd.slice 3 (Kd.int .i64)) 24 w w0.heap.size (fun k_ => ((P0_ k_ ∨ P2_ k_ ∨ P3_ k_) ∨ w.heap.size ≤ k_)) u9000_ l0 from Kd.S_mono ho0 (fun k_ hk => (.inl (.inl hk))))
 have HR1 := Aside0.mk hr1
 have HC1 := Aside0.mk hc1
 clear hr1 hc1
 have HO2 := Aside0.mk (show Kd.R Kd.bool 4 w w0.heap.size (fun k_ => ((P0_ k_ ∨ P2_ k_ ∨ P3_ k_) ∨ w.heap.size ≤ k_)) u9001_ l2 from Kd.R_mono ho2 (fun k_ hk => (.inl (.inr (.inl hk)))))
 have HO3 := Aside0.mk (show Kd.R k66 66 w w0.heap.size (fun k_ => ((P0_ k_ ∨ P2_ k_ ∨ P3_ k_) ∨ w.heap.size ≤ k_)) u9002_ l3 from Kd.R_mono ho3 (fun k_ hk => (.inl (.inr (.inr hk)))))
 have HK := Aside0.mk (Kept.refl w (fun k_ => P0_ k_ ∨ P2_ k_ ∨ P3_ k_))
 have HW0 := Aside0.mk hB.size
 have HB := Aside0.mk hB
 clear hB
 have H : ((impl_firstFree.f k l0).bind fun bt220 => (if bt220.2.2 = true then (impl_fill.l1 k l0 l1 l2 l3 bt220.1 bt220.2.1 (l1.length : Int) 0) else (impl_fill.l0 k l0 l2 l3 l2 (l2.length : Int) 0))) = some (r1, r2, r3, r4) := h
 clear h
 replace H := Option.bind_eq_some_iff.mp H
 obtain ⟨⟨t220, t221, t222⟩, A50, H⟩ := H
 replace H : (if t222 = true then (impl_fill.l1 k l0 l1 l2 l3 t220 t221 (l1.length : Int) 0) else (impl_fill.l0 k l0 l2 l3 l2 (l2.length : Int) 0)) = some (r1, r2, r3, r4) := H
 have A5 := Aside0.mk A50
 clear A50
 by_cases c6 : t222 = true
 ·subst c6
  have H1 : (impl_fill.l1 k l0 l1 l2 l3 t220 t221 (l1.length : Int) 0) = some (r1, r2, r3, r4) := by rw [if_pos rfl] at H; exact H
  clear H
  have H := H1
  clear H1
  have H' := Aside0.mk H
  clear H
  obtain ⟨Ao7, co7, eo7⟩ := Kd.S_slice HO0.out
  subst eo7
  go_enter Try.func45, Try.ntmps45
  go_wp2_with (first | ((with_reducible refine gate_callee (f := 56) rfl ?_); refine goesL_ (some 20) rfl rfl Try.func56 (by kernel_rfl) rfl #[.slice Ao7 l0.length co7] rfl (by (try simp only [List.map_toArray, List.map_cons, List.map_nil]); first | done | rfl | (simp only [List.length_drop, List.length_take]; rfl)) ?_; (with_reducible refine (impl_firstFree.calls k _ _ l0 t220 t221 true _ ?side1 ?side2 A5.out).mono ?_); (case side1 => repeat (first | exact (Kd.S_reads' HO0.out).2.2 | (with_reducible refine Kd.C_alloc ?_ _) | (with_reducible refine Kd.C_drewN ?_ _) | (with_reducible refine Kd.C_drew ?_))); (case side2 => exact (Kd.S_reads' HO0.out).2.1); rintro e w' ⟨rfl, ⟨nd, rfl⟩⟩; refine ⟨_, rfl, ?_⟩))
  go_loopg [37] k (fun kq v37 w' => ∃ (x0_1 : List (List Int)) (x2_1 : List Bool) (x3_1 : List (S66)) (x37_1 : Int), v37 = .int .i64 x37_1 ∧ Aside0 (impl_fill.l1 kq x0_1 l1 x2_1 x3_1 t220 t221 (l1.length : Int) x37_1 = some (r1, r2, r3, r4)) ∧ Aside0 (kq ≤ k) ∧ Aside0 (Kd.S (Kd.slice 3 (Kd.int .i64)) 24 w' w0.heap.size (fun k_ => ((P0_ k_ ∨ P2_ k_ ∨ P3_ k_) ∨ w.heap.size ≤ k_)) (.slice Ao7 l0.length co7) x0_1) ∧ Aside0 (Kd.R Kd.bool 4 w' w0.heap.size (fun k_ => ((P0_ k_ ∨ P2_ k_ ∨ P3_ k_) ∨ w.heap.size ≤ k_)) u9001_ x2_1) ∧ Aside0 (Kd.R k66 66 w' w0.heap.size (fun k_ => ((P0_ k_ ∨ P2_ k_ ∨ P3_ k_) ∨ w.heap.size ≤ k_)) u9002_ x3_1) ∧ Aside0 (Kept w w' (fun k_ => P0_ k_ ∨ P2_ k_ ∨ P3_ k_)) ∧ Aside0 (Below w0.heap.size w0 w'))
  case atStart => exact ⟨(l0), (l2), (l3), (0), (by first | rfl | (simp; done) | (simp [*]; done)), H', ⟨Nat.le_refl _⟩, ⟨by (with_reducible repeat (first | apply Kd.S_alloc | apply Kd.S_drewN | apply Kd.S_drew)); exact HO0.out⟩, ⟨by (with_reducible repeat (first | apply Kd.R_alloc | apply Kd.R_drewN | apply Kd.R_drew)); exact HO2.out⟩, ⟨by (with_reducible repeat (first | apply Kd.R_alloc | apply Kd.R_drewN | apply Kd.R_drew)); exact HO3.out⟩, ⟨by repeat (first | (with_reducible first | exact HK.out | apply Kept.alloc | apply Kept.drewN | apply Kept.drew) | exact HK.out)⟩, ⟨by repeat (first | (with_reducible first | exact HB.out | apply below_alloc | apply pw_below_drewN | apply below_drew1) | exact HB.out | exact Below.refl _ _)⟩⟩
  case round =>
   clear H'
   (try clear c1); (try clear p2); (try clear c4); (try clear c5); (try clear c6)
   obtain ⟨x0_1, x2_1, x3_1, x37_1, rfl, HA, HK1, HO_0, HO_2, HO_3, HK, HB⟩ := hrel
   have hl0_1 := (Kd.S_reads' HO_0.out).1
   rw [hl0_1] at HO_0
   (try simp only [hl0_1])
   (try simp only [hl0_1] at HO_2)
   (try simp only [hl0_1] at HO_3)
   cases gk with
   | zero => exact absurd HA.out (by simp [impl_fill.l1])
   | succ k1 =>
    have H := HA.out
    clear HA
    simp only [impl_fill.l1] at H
    by_cases c8 : x37_1 < (l1.length : Int)
    ·rw [if_pos c8] at H
     have c8b0 : decide (x37_1 < (l1.length : Int)) = true := decide_eq_true c8
     have c8b0_hl0_1 := c8b0
     try rw [hl0_1] at c8b0_hl0_1
     clear c8
     by_cases c9 : 0 ≤ x37_1
     ·rw [if_pos c9] at H
      have c9b0 : decide (0 ≤ x37_1) = true := decide_eq_true c9
      clear c9
      by_cases c10 : x37_1 < (x2_1.length : Int)
      ·rw [if_pos c10] at H
       have c10b0 : decide (x37_1 < (x2_1.length : Int)) = true := decide_eq_true c10
       have c10b0_hl0_1 := c10b0
       try rw [hl0_1] at c10b0_hl0_1
       clear c10
       obtain ⟨bq11, hbq11⟩ : ∃ b_ : Bool, b_ = (rdOf false x2_1 x37_1) := ⟨_, rfl⟩
       replace H : (if bq11 = true then (impl_fill.l1 k1 x0_1 l1 x2_1 x3_1 t220 t221 (l1.length : Int) (wrap64 (x37_1 + 1))) else ((some (([false, true] : List Bool) : List Bool)).bind fun y225 => (impl_fill.l2 k1 x0_1 l1 x2_1 x3_1 t220 t221 x37_1 (l1.length : Int) x37_1 y225 (y225.length : Int) 0))) = some (r1, r2, r3, r4) := by rw [← hbq11] at H; exact H
       have Nbq11 := Aside0.mk hbq11
       clear hbq11
       by_cases c12 : bq11 = true
       ·subst c12
        have H1 : (impl_fill.l1 k1 x0_1 l1 x2_1 x3_1 t220 t221 (l1.length : Int) (wrap64 (x37_1 + 1))) = some (r1, r2, r3, r4) := by rw [if_pos rfl] at H; exact H
        clear H
        have H := H1
        clear H1
        have H' := Aside0.mk H
        clear H
        obtain ⟨Ao13, co13, eo13⟩ := Kd.R_slice HO_2.out
        subst eo13
        have p224 : 0 ≤ (x37_1 : Int) := of_decide_eq_true (by first | (with_reducible assumption) | assumption)
        have q224 : x37_1 < (x2_1.length : Int) := of_decide_eq_true (by first | (with_reducible assumption) | assumption)
        obtain ⟨ad224, e224, hx224_0⟩ := Kd.at_bool (Kd.R_reads' HO_2.out).2.2 x37_1 p224 q224
        (try rw [← Nbq11.out] at hx224_0)
        cases e224
        replace p224 := eq_true p224
        replace q224 := eq_true q224
        go_wp2
        (try simp only [← hl0_1])
        go_roundg k1
        case measure => have := HK1.out; omega
        case rel => exact ⟨(x0_1), (x2_1), (x3_1), (wrap64 (x37_1 + 1)), (by first | rfl | (simp; done) | (simp [*]; done)), H', ⟨by have := HK1.out; omega⟩, ⟨by (try simp only [hl0_1]); (with_reducible repeat (first | apply Kd.S_alloc | apply Kd.S_drewN | apply Kd.S_drew)); exact HO_0.out⟩, ⟨by (try simp only [hl0_1]); (with_reducible repeat (first | apply Kd.R_alloc | apply Kd.R_drewN | apply Kd.R_drew)); exact HO_2.out⟩, ⟨by (try simp only [hl0_1]); (with_reducible repeat (first | apply Kd.R_alloc | apply Kd.R_drewN | apply Kd.R_drew)); exact HO_3.out⟩, ⟨by repeat (first | (with_reducible first | exact HK.out | apply Kept.alloc | apply Kept.drewN | apply Kept.drew) | exact HK.out)⟩, ⟨by repeat (first | (with_reducible first | exact HB.out | apply below_alloc | apply pw_below_drewN | apply below_drew1) | exact HB.out | exact Below.refl _ _)⟩⟩
       ·replace c12 := Bool.eq_false_iff.mpr c12
        subst c12
        have H1 : ((some (([false, true] : List Bool) : List Bool)).bind fun y225 => (impl_fill.l2 k1 x0_1 l1 x2_1 x3_1 t220 t221 x37_1 (l1.length : Int) x37_1 y225 (y225.length : Int) 0)) = some (r1, r2, r3, r4) := by rw [if_neg (show ¬ (false = true) by decide)] at H; exact H
        clear H
        have H := H1
        clear H1
        obtain ⟨y225, hy225⟩ : ∃ y_ : List Bool, y_ = (([false, true] : List Bool)) := ⟨_, rfl⟩
        replace H : (impl_fill.l2 k1 x0_1 l1 x2_1 x3_1 t220 t221 x37_1 (l1.length : Int) x37_1 y225 (y225.length : Int) 0) = some (r1, r2, r3, r4) := by first | (rw [hy225]; with_reducible exact H) | (have H2_ := (Option.bind_some _ _).symm.trans H; rw [hy225]; with_reducible exact H2_) | (have H2_ := (Option.bind_some _ _).symm.trans H; with_reducible exact H2_) | with_reducible exact H | (rw [hy225]; exact H) | exact H
        have Ny225 := Aside0.mk hy225
        clear hy225
        have H' := Aside0.mk H
        clear H
        obtain ⟨Ao14, co14, eo14⟩ := Kd.R_slice HO_2.out
        subst eo14
        have p224 : 0 ≤ (x37_1 : Int) := of_decide_eq_true (by first | (with_reducible assumption) | assumption)
        have q224 : x37_1 < (x2_1.length : Int) := of_decide_eq_true (by first | (with_reducible assumption) | assumption)
        obtain ⟨ad224, e224, hx224_0⟩ := Kd.at_bool (Kd.R_reads' HO_2.out).2.2 x37_1 p224 q224
        (try rw [← Nbq11.out] at hx224_0)
        cases e224
        obtain ⟨gh224, hgh224⟩ := Kd.R_head HO_2.out
        subst hgh224
        simp only [add_plain] at hx224_0
        replace p224 := eq_true p224
        replace q224 := eq_true q224
        go_wp2_with (first | ((with_reducible refine gate_dst (N := 44) rfl ?_); refine Kd.R_lit Kd.bool _ 4 ?hg (N := 44) ?hd (xs := ([false, true] : List Bool)) (inner := [.bool false, .bool true]) (ok := fun _ => True) (okp := fun _ => True) ?hr ?hp (fun _ hk => hk) trivial (Below.refl _ _) (Nat.le_refl _) (by simp) ?_; (case hd => rfl); (case hg => rfl); (case hr => first | (go_simp; done) | (go_simp; rfl)); (case hp => exact (Reps.one (show Kd.M Kd.bool _ _ _ false [.bool false] from rfl) (Reps.one (show Kd.M Kd.bool _ _ _ true [.bool true] from rfl) (Reps.none _ _)))); intro v226 w15 ho16 hb hg_ hnew_; clear hg_ hnew_; (first | rw [← Ny225.out] at ho16 | (simp only [Int.reduceToNat] at ho16; rw [← Ny225.out] at ho16)); have n0_ := Aside0.mk (Kd.S_below (by (with_reducible repeat (first | apply Kd.S_alloc | apply Kd.S_drewN | apply Kd.S_drew)); exact HO_0.out) hb); have n1_ := Aside0.mk (Kd.R_elder' (by (with_reducible repeat (first | apply Kd.R_alloc | apply Kd.R_drewN | apply Kd.R_drew)); exact HO_2.out) (Kd.R_base ho16) hb); have n2_ := Aside0.mk (Kd.R_below (by (with_reducible repeat (first | apply Kd.R_alloc | apply Kd.R_drewN | apply Kd.R_drew)); exact HO_3.out) hb); have n3_ := Aside0.mk (Kd.R_lower (Kd.R_new' (Kd.R_newM (M := fun k_ => ((P0_ k_ ∨ P2_ k_ ∨ P3_ k_) ∨ w.heap.size ≤ k_)) ho16 (by first | exact HK.out.1 | exact (show Kept w _ (fun k_ => P0_ k_ ∨ P2_ k_ ∨ P3_ k_) from by repeat (first | (with_reducible first | exact HK.out | apply Kept.alloc | apply Kept.drewN | apply Kept.drew) | exact HK.out)).1) (fun k_ h_ => .inr h_)) (Kd.R_lt (by (with_reducible repeat (first | apply Kd.R_alloc | apply Kd.R_drewN | apply Kd.R_drew)); exact HO_2.out))) (below_size (by repeat (first | (with_reducible first | exact HB.out | apply below_alloc | apply pw_below_drewN | apply below_drew1) | exact HB.out | exact Below.refl _ _)))); have n4_ := Aside0.mk (Kept.below (S := (fun k_ => P0_ k_ ∨ P2_ k_ ∨ P3_ k_)) (by repeat (first | (with_reducible first | exact HK.out | apply Kept.alloc | apply Kept.drewN | apply Kept.drew) | exact HK.out)) hb); have n5_ := Aside0.mk (below_step (by repeat (first | (with_reducible first | exact HB.out | apply below_alloc | apply pw_below_drewN | apply below_drew1) | exact HB.out | exact Below.refl _ _)) hb); clear HO_0; clear HO_2; clear HO_3; clear HK; clear HB; have HO_0 := n0_; have HO_2 := n1_; have HO_3 := n2_; have HO227 := n3_; have HK := n4_; have HB := n5_; clear n0_ n1_ n2_ n3_ n4_ n5_; clear hb ho16; obtain ⟨Ao17, co17, eo17⟩ := Kd.R_slice HO227.out; subst eo17))
        go_loopg [46] k1 (fun kq v46 w' => ∃ (x0_2 : List (List Int)) (x2_2 : List Bool) (x3_2 : List (S66)) (x46_2 : Int), v46 = .int .i64 x46_2 ∧ Aside0 (impl_fill.l2 kq x0_2 l1 x2_2 x3_2 t220 t221 x37_1 (l1.length : Int) x37_1 y225 (y225.length : Int) x46_2 = some (r1, r2, r3, r4)) ∧ Aside0 (kq ≤ k1) ∧ Aside0 (Kd.S (Kd.slice 3 (Kd.int .i64)) 24 w' w0.heap.size (fun k_ => ((P0_ k_ ∨ P2_ k_ ∨ P3_ k_) ∨ w.heap.size ≤ k_)) (.slice Ao7 x0_1.length co7) x0_2) ∧ Aside0 (Kd.R Kd.bool 4 w' w0.heap.size (fun k_ => ((P0_ k_ ∨ P2_ k_ ∨ P3_ k_) ∨ w.heap.size ≤ k_) ∧ some k_ ≠ ((.slice Ao17 y225.length co17) : Value).ownBlock) (.slice (some ⟨gh224, 0, none⟩) x2_1.length co14) x2_2) ∧ Aside0 (Kd.R k66 66 w' w0.heap.size (fun k_ => ((P0_ k_ ∨ P2_ k_ ∨ P3_ k_) ∨ w.heap.size ≤ k_)) u9002_ x3_2) ∧ Aside0 (Kd.R Kd.bool 4 w' w0.heap.size (fun k_ => ((P0_ k_ ∨ P2_ k_ ∨ P3_ k_) ∨ w.heap.size ≤ k_) ∧ some k_ ≠ ((.slice (some ⟨gh224, 0, none⟩) x2_1.length co14) : Value).ownBlock) (.slice Ao17 y225.length co17) y225) ∧ Aside0 (Kept w w' (fun k_ => P0_ k_ ∨ P2_ k_ ∨ P3_ k_)) ∧ Aside0 (Below w0.heap.size w0 w'))
        case atStart => exact ⟨(x0_1), (x2_1), (x3_1), (0), (by first | rfl | (simp; done) | (simp [*]; done)), H', ⟨Nat.le_refl _⟩, ⟨by (try simp only [hl0_1]); (with_reducible repeat (first | apply Kd.S_alloc | apply Kd.S_drewN | apply Kd.S_drew)); exact HO_0.out⟩, ⟨by (try simp only [hl0_1]); (with_reducible repeat (first | apply Kd.R_alloc | apply Kd.R_drewN | apply Kd.R_drew)); exact HO_2.out⟩, ⟨by (try simp only [hl0_1]); (with_reducible repeat (first | apply Kd.R_alloc | apply Kd.R_drewN | apply Kd.R_drew)); exact HO_3.out⟩, ⟨by (try simp only [hl0_1]); (with_reducible repeat (first | apply Kd.R_alloc | apply Kd.R_drewN | apply Kd.R_drew)); exact Kd.R_mono HO227.out (fun _ hk => ⟨hk.1.1, hk.2⟩)⟩, ⟨by repeat (first | (with_reducible first | exact HK.out | apply Kept.alloc | apply Kept.drewN | apply Kept.drew) | exact HK.out)⟩, ⟨by repeat (first | (with_reducible first | exact HB.out | apply below_alloc | apply pw_below_drewN | apply below_drew1) | exact HB.out | exact Below.refl _ _)⟩⟩
        case round =>
         clear H'
         (try clear c1); (try clear q1); (try clear p2); (try clear q2); (try clear hx2); (try clear c4); (try clear c5); (try clear c6); (try clear p6); (try clear c8); (try clear c8b0); (try clear c9); (try clear c9b0); (try clear c10); (try clear c10b0); (try clear q11); (try clear c12); (try clear hx224_0); (try clear p2); (try clear p224); (try clear q224)
         obtain ⟨x0_2, x2_2, x3_2, x46_2, rfl, HA, HK2, HO_0, HO_2, HO_3, HO_44, HK, HB⟩ := hrel
         have hl0_2 := (Kd.S_reads' HO_0.out).1
         rw [hl0_2] at HO_0
         (try simp only [hl0_2])
         (try simp only [hl0_2] at HO_2)
         (try simp only [hl0_2] at HO_3)
         (try simp only [hl0_2] at HO_44)
         have hl2_2 := (Kd.R_reads' HO_2.out).1
         rw [hl2_2] at HO_2
         (try simp only [hl2_2])
         (try simp only [hl2_2] at HO_0)
         (try simp only [hl2_2] at HO_3)
         (try simp only [hl2_2] at HO_44)
         cases gk with
         | zero => exact absurd HA.out (by simp [impl_fill.l2])
         | succ k2 =>
          have H := HA.out
          clear HA
          simp only [impl_fill.l2] at H
          by_cases c18 : x46_2 < (y225.length : Int)
          ·rw [if_pos c18] at H
           have c18b0 : decide (x46_2 < (y225.length : Int)) = true := decide_eq_true c18
           have c18b0_hl0_1 := c18b0
           try rw [hl0_1] at c18b0_hl0_1
           have c18b0_hl2_2 := c18b0
           try rw [hl2_2] at c18b0_hl2_2
           clear c18
           by_cases c19 : 0 ≤ x46_2
           ·rw [if_pos c19] at H
            have c19b0 : decide (0 ≤ x46_2) = true := decide_eq_true c19
            clear c19
            by_cases c20 : x46_2 < (y225.length : Int)
            ·rw [if_pos c20] at H
             have c20b0 : decide (x46_2 < (y225.length : Int)) = true := decide_eq_true c20
             have c20b0_hl0_1 := c20b0
             try rw [hl0_1] at c20b0_hl0_1
             have c20b0_hl2_2 := c20b0
             try rw [hl2_2] at c20b0_hl2_2
             clear c20
             replace H := Option.bind_eq_some_iff.mp H
             obtain ⟨t230, A210, H⟩ := H
             replace H : (if t230 = true then ((impl_mark.f k2 x0_2 l1 x37_1 t220 t221 (rdOf false y225 x46_2) x37_1).bind fun t231 => (if 0 ≤ x37_1 then (if x37_1 < (x2_2.length : Int) then (if x37_1 < (x3_2.length : Int) then ((impl_fill.f k2 t231 l1 (x2_2.set (x37_1 : Int).toNat true) (x3_2.set (x37_1 : Int).toNat (⟨x37_1, t220, t221, rdOf false y225 x46_2⟩ : S66))).bind fun bt234 => (if bt234.1 = true then (some (true, bt234.2.1, bt234.2.2.1, bt234.2.2.2)) else ((impl_mark.f k2 bt234.2.1 l1 x37_1 t220 t221 (rdOf false y225 x46_2) (-1)).bind fun t238 => (impl_fill.l2 k2 t238 l1 (bt234.2.2.1.set (x37_1 : Int).toNat false) bt234.2.2.2 t220 t221 x37_1 (l1.length : Int) x37_1 y225 (y225.length : Int) (wrap64 (x46_2 + 1)))))) else (none)) else (none)) else (none))) else (impl_fill.l2 k2 x0_2 l1 x2_2 x3_2 t220 t221 x37_1 (l1.length : Int) x37_1 y225 (y225.length : Int) (wrap64 (x46_2 + 1)))) = some (r1, r2, r3, r4) := H
             have A21 := Aside0.mk A210
             clear A210
             by_cases c22 : t230 = true
             ·subst c22
              have H1 : ((impl_mark.f k2 x0_2 l1 x37_1 t220 t221 (rdOf false y225 x46_2) x37_1).bind fun t231 => (if 0 ≤ x37_1 then (if x37_1 < (x2_2.length : Int) then (if x37_1 < (x3_2.length : Int) then ((impl_fill.f k2 t231 l1 (x2_2.set (x37_1 : Int).toNat true) (x3_2.set (x37_1 : Int).toNat (⟨x37_1, t220, t221, rdOf false y225 x46_2⟩ : S66))).bind fun bt234 => (if bt234.1 = true then (some (true, bt234.2.1, bt234.2.2.1, bt234.2.2.2)) else ((impl_mark.f k2 bt234.2.1 l1 x37_1 t220 t221 (rdOf false y225 x46_2) (-1)).bind fun t238 => (impl_fill.l2 k2 t238 l1 (bt234.2.2.1.set (x37_1 : Int).toNat false) bt234.2.2.2 t220 t221 x37_1 (l1.length : Int) x37_1 y225 (y225.length : Int) (wrap64 (x46_2 + 1)))))) else (none)) else (none)) else (none))) = some (r1, r2, r3, r4) := by rw [if_pos rfl] at H; exact H
              clear H
              have H := H1
              clear H1
              replace H := Option.bind_eq_some_iff.mp H
              obtain ⟨t231, A230, H⟩ := H
              replace H : (if 0 ≤ x37_1 then (if x37_1 < (x2_2.length : Int) then (if x37_1 < (x3_2.length : Int) then ((impl_fill.f k2 t231 l1 (x2_2.set (x37_1 : Int).toNat true) (x3_2.set (x37_1 : Int).toNat (⟨x37_1, t220, t221, rdOf false y225 x46_2⟩ : S66))).bind fun bt234 => (if bt234.1 = true then (some (true, bt234.2.1, bt234.2.2.1, bt234.2.2.2)) else ((impl_mark.f k2 bt234.2.1 l1 x37_1 t220 t221 (rdOf false y225 x46_2) (-1)).bind fun t238 => (impl_fill.l2 k2 t238 l1 (bt234.2.2.1.set (x37_1 : Int).toNat false) bt234.2.2.2 t220 t221 x37_1 (l1.length : Int) x37_1 y225 (y225.length : Int) (wrap64 (x46_2 + 1)))))) else (none)) else (none)) else (none)) = some (r1, r2, r3, r4) := H
              have A23 := Aside0.mk A230
              clear A230
              by_cases c24 : 0 ≤ x37_1
              ·rw [if_pos c24] at H
               have c24b0 : decide (0 ≤ x37_1) = true := decide_eq_true c24
               clear c24
               by_cases c25 : x37_1 < (x2_2.length : Int)
               ·rw [if_pos c25] at H
                have c25b0 : decide (x37_1 < (x2_2.length : Int)) = true := decide_eq_true c25
                have c25b0_hl0_1 := c25b0
                try rw [hl0_1] at c25b0_hl0_1
                have c25b0_hl2_2 := c25b0
                try rw [hl2_2] at c25b0_hl2_2
                clear c25
                obtain ⟨y232, hy232⟩ : ∃ y_ : List Bool, y_ = (x2_2.set (x37_1 : Int).toNat true) := ⟨_, rfl⟩
                replace H : (if x37_1 < (x3_2.length : Int) then ((impl_fill.f k2 t231 l1 y232 (x3_2.set (x37_1 : Int).toNat (⟨x37_1, t220, t221, rdOf false y225 x46_2⟩ : S66))).bind fun bt234 => (if bt234.1 = true then (some (true, bt234.2.1, bt234.2.2.1, bt234.2.2.2)) else ((impl_mark.f k2 bt234.2.1 l1 x37_1 t220 t221 (rdOf false y225 x46_2) (-1)).bind fun t238 => (impl_fill.l2 k2 t238 l1 (bt234.2.2.1.set (x37_1 : Int).toNat false) bt234.2.2.2 t220 t221 x37_1 (l1.length : Int) x37_1 y225 (y225.length : Int) (wrap64 (x46_2 + 1)))))) else (none)) = some (r1, r2, r3, r4) := by first | (rw [hy232]; with_reducible exact H) | (have H2_ := (Option.bind_some _ _).symm.trans H; rw [hy232]; with_reducible exact H2_) | (have H2_ := (Option.bind_some _ _).symm.trans H; with_reducible exact H2_) | with_reducible exact H | (rw [hy232]; exact H) | exact H
                have Ny232 := Aside0.mk hy232
                clear hy232
                by_cases c27 : x37_1 < (x3_2.length : Int)
                ·rw [if_pos c27] at H
                 have c27b0 : decide (x37_1 < (x3_2.length : Int)) = true := decide_eq_true c27
                 have c27b0_hl0_1 := c27b0
                 try rw [hl0_1] at c27b0_hl0_1
                 have c27b0_hl2_2 := c27b0
                 try rw [hl2_2] at c27b0_hl2_2
                 clear c27
                 obtain ⟨y233, hy233⟩ : ∃ y_ : List (S66), y_ = (x3_2.set (x37_1 : Int).toNat (⟨x37_1, t220, t221, rdOf false y225 x46_2⟩ : S66)) := ⟨_, rfl⟩
                 replace H : ((impl_fill.f k2 t231 l1 y232 y233).bind fun bt234 => (if bt234.1 = true then (some (true, bt234.2.1, bt234.2.2.1, bt234.2.2.2)) else ((impl_mark.f k2 bt234.2.1 l1 x37_1 t220 t221 (rdOf false y225 x46_2) (-1)).bind fun t238 => (impl_fill.l2 k2 t238 l1 (bt234.2.2.1.set (x37_1 : Int).toNat false) bt234.2.2.2 t220 t221 x37_1 (l1.length : Int) x37_1 y225 (y225.length : Int) (wrap64 (x46_2 + 1)))))) = some (r1, r2, r3, r4) := by first | (rw [hy233]; with_reducible exact H) | (have H2_ := (Option.bind_some _ _).symm.trans H; rw [hy233]; with_reducible exact H2_) | (have H2_ := (Option.bind_some _ _).symm.trans H; with_reducible exact H2_) | with_reducible exact H | (rw [hy233]; exact H) | exact H
                 have Ny233 := Aside0.mk hy233
                 clear hy233
                 replace H := Option.bind_eq_some_iff.mp H
                 obtain ⟨⟨t234, t235, t236, t237⟩, A290, H⟩ := H
                 replace H : (if t234 = true then (some (true, t235, t236, t237)) else ((impl_mark.f k2 t235 l1 x37_1 t220 t221 (rdOf false y225 x46_2) (-1)).bind fun t238 => (impl_fill.l2 k2 t238 l1 (t236.set (x37_1 : Int).toNat false) t237 t220 t221 x37_1 (l1.length : Int) x37_1 y225 (y225.length : Int) (wrap64 (x46_2 + 1))))) = some (r1, r2, r3, r4) := H
                 have A29 := Aside0.mk A290
                 clear A290
                 by_cases c30 : t234 = true
                 ·subst c30
                  have H1 : (some (true, t235, t236, t237)) = some (r1, r2, r3, r4) := by rw [if_pos rfl] at H; exact H
                  clear H
                  have H := H1
                  clear H1
                  simp only [Option.some.injEq, Prod.mk.injEq] at H
                  obtain ⟨rfl, rfl, rfl, rfl⟩ := H
                  have p228 : 0 ≤ (x46_2 : Int) := of_decide_eq_true (by first | (with_reducible assumption) | assumption)
                  have q228 : x46_2 < (y225.length : Int) := of_decide_eq_true (by first | (with_reducible assumption) | assumption)
                  obtain ⟨ad228, e228, hx228_0⟩ := Kd.at_bool (Kd.R_reads' HO_44.out).2.2 x46_2 p228 q228
                  (try rw [← Nbq11.out] at hx228_0)
                  cases e228
                  replace p228 := eq_true p228
                  replace q228 := eq_true q228
                  go_wp2_with (first | ((with_reducible refine gate_dst (N := 17) rfl ?_); refine box_event ?hg (N := 17) ?hd (cs := #[.int .i64 0, .int .i64 0, .int .i64 0, .bool false]) (t := 66) ?hr ?_; (case hd => rfl); (case hg => rfl); (case hr => first | (go_simp; done) | (go_simp; rfl)); intro gb229 hg w31 hbox hb; have n0_ := Aside0.mk (Kd.S_below (by (with_reducible repeat (first | apply Kd.S_alloc | apply Kd.S_drewN | apply Kd.S_drew)); exact HO_0.out) hb); have n1_ := Aside0.mk (Kd.R_below (by (with_reducible repeat (first | apply Kd.R_alloc | apply Kd.R_drewN | apply Kd.R_drew)); exact HO_2.out) hb); have n2_ := Aside0.mk (Kd.R_below (Kd.R_elderB (by (with_reducible repeat (first | apply Kd.R_alloc | apply Kd.R_drewN | apply Kd.R_drew)); exact HO_3.out) gb229 (Nat.le_of_eq hg.symm)) hb); have n3_ := Aside0.mk (Kd.R_below (by (with_reducible repeat (first | apply Kd.R_alloc | apply Kd.R_drewN | apply Kd.R_drew)); exact HO_44.out) hb); have n4_ := Aside0.mk (Kept.below (S := (fun k_ => P0_ k_ ∨ P2_ k_ ∨ P3_ k_)) (by repeat (first | (with_reducible first | exact HK.out | apply Kept.alloc | apply Kept.drewN | apply Kept.drew) | exact HK.out)) hb); have n5_ := Aside0.mk (below_step (by repeat (first | (with_reducible first | exact HB.out | apply below_alloc | apply pw_below_drewN | apply below_drew1) | exact HB.out | exact Below.refl _ _)) hb); have n6_ := Aside0.mk (hbox); have n7_ := Aside0.mk ((by rw [hg]; exact (by first | exact HK.out.1 | exact (show Kept w _ (fun k_ => P0_ k_ ∨ P2_ k_ ∨ P3_ k_) from by repeat (first | (with_reducible first | exact HK.out | apply Kept.alloc | apply Kept.drewN | apply Kept.drew) | exact HK.out)).1) : w.heap.size ≤ gb229)); have n8_ := Aside0.mk ((by rw [hg]; exact (below_size (by repeat (first | (with_reducible first | exact HB.out | apply below_alloc | apply pw_below_drewN | apply below_drew1) | exact HB.out | exact Below.refl _ _))) : w0.heap.size ≤ gb229)); clear HO_0; clear HO_2; clear HO_3; clear HO_44; clear HK; clear HB; have HO_0 := n0_; have HO_2 := n1_; have HO_3 := n2_; have HO_44 := n3_; have HK := n4_; have HB := n5_; have BK229 := n6_; have GW229 := n7_; have GE229 := n8_; clear n0_ n1_ n2_ n3_ n4_ n5_ n6_ n7_ n8_; clear hb hbox hg; have hcz32_0 : w31.cell? ⟨gb229, 0, none⟩ = some (.int .i64 0) := (blk_cell BK229.out 0).trans rfl; have hcz32_1 : w31.cell? ⟨gb229, 1, none⟩ = some (.int .i64 0) := (blk_cell BK229.out 1).trans rfl; have hcz32_2 : w31.cell? ⟨gb229, 2, none⟩ = some (.int .i64 0) := (blk_cell BK229.out 2).trans rfl; have hcz32_3 : w31.cell? ⟨gb229, 3, none⟩ = some (.bool false) := (blk_cell BK229.out 3).trans rfl; have hfz32_0 := blk_frozen BK229.out 0; have hfz32_1 := blk_frozen BK229.out 1; have hfz32_2 := blk_frozen BK229.out 2; have hfz32_3 := blk_frozen BK229.out 3) | ((with_reducible refine gate_callee (f := 57) rfl ?_); refine goesL_ (some 58) rfl rfl Try.func57 (by kernel_rfl) rfl #[.slice Ao7 x0_2.length co7, .slice A1 l1.length c1, .agg #[.int .i64 x37_1, .int .i64 t220, .int .i64 t221, .bool (rdOf false y225 x46_2)]] rfl (by (try simp only [List.map_toArray, List.map_cons, List.map_nil]); first | done | rfl | (simp only [List.length_drop, List.length_take]; rfl)) ?_; (with_reducible refine (impl_isRoom.calls k2 _ _ x0_2 _ _ l1 x37_1 t220 t221 (rdOf false y225 x46_2) true _ ?side1 ?side2 ?side3 ?side4 A21.out).mono ?_); (case side1 => refine (Kd.S_reads' (e := 24) (base := w0.heap.size) (ok := fun k_ => ((P0_ k_ ∨ P2_ k_ ∨ P3_ k_) ∨ w.heap.size ≤ k_)) (n := x0_2.length) (c := co7) ?_).2.2; exact (by (with_reducible repeat (first | apply Kd.S_alloc | apply Kd.S_drewN | apply Kd.S_drew)); exact (Kd.S_mono (Kd.S_far (p := ⟨gb229, 3, none⟩) (Kd.S_far (p := ⟨gb229, 2, none⟩) (Kd.S_far (p := ⟨gb229, 1, none⟩) (Kd.S_far (p := ⟨gb229, 0, none⟩) (Kd.S_types HO_0.out BK229.out (by decide)) (fun _ hk => hk.2) (.int .i64 x37_1)) (fun _ hk => hk.2) (.int .i64 t220)) (fun _ hk => hk.2) (.int .i64 t221)) (fun _ hk => hk.2) (.bool (rdOf false y225 x46_2))) (fun _ h_ => h_.1)))); (case side2 => exact (Kd.S_reads' HO_0.out).2.1); (case side3 => exact Kd.C_kept_now HR1.out (by repeat (first | (with_reducible first | exact HK.out | apply Kept.alloc | apply Kept.drewN | apply Kept.drew | refine Kept.setCell ?_ (.inr GW229.out) _) | exact HK.out))); (case side4 => exact HC1.out); rintro e w33 ⟨rfl, hb⟩; refine ⟨_, rfl, ?_⟩; have n0_ := Aside0.mk (Kd.S_below (by (with_reducible repeat (first | apply Kd.S_alloc | apply Kd.S_drewN | apply Kd.S_drew)); exact (Kd.S_mono (Kd.S_far (p := ⟨gb229, 3, none⟩) (Kd.S_far (p := ⟨gb229, 2, none⟩) (Kd.S_far (p := ⟨gb229, 1, none⟩) (Kd.S_far (p := ⟨gb229, 0, none⟩) (Kd.S_types HO_0.out BK229.out (by decide)) (fun _ hk => hk.2) (.int .i64 x37_1)) (fun _ hk => hk.2) (.int .i64 t220)) (fun _ hk => hk.2) (.int .i64 t221)) (fun _ hk => hk.2) (.bool (rdOf false y225 x46_2))) (fun _ h_ => h_.1))) hb); have n1_ := Aside0.mk (Kd.R_below (by (with_reducible repeat (first | apply Kd.R_alloc | apply Kd.R_drewN | apply Kd.R_drew)); exact (Kd.R_mono (Kd.R_far (p := ⟨gb229, 3, none⟩) (Kd.R_far (p := ⟨gb229, 2, none⟩) (Kd.R_far (p := ⟨gb229, 1, none⟩) (Kd.R_far (p := ⟨gb229, 0, none⟩) (Kd.R_types HO_2.out BK229.out (by decide)) (fun _ hk => hk.2) (.int .i64 x37_1)) (fun _ hk => hk.2) (.int .i64 t220)) (fun _ hk => hk.2) (.int .i64 t221)) (fun _ hk => hk.2) (.bool (rdOf false y225 x46_2))) (fun _ h_ => h_.1))) hb); have n2_ := Aside0.mk (Kd.R_below (by (with_reducible repeat (first | apply Kd.R_alloc | apply Kd.R_drewN | apply Kd.R_drew)); exact (Kd.R_mono (Kd.R_far (p := ⟨gb229, 3, none⟩) (Kd.R_far (p := ⟨gb229, 2, none⟩) (Kd.R_far (p := ⟨gb229, 1, none⟩) (Kd.R_far (p := ⟨gb229, 0, none⟩) (Kd.R_mono HO_3.out (fun k_ hk => (⟨hk, hk.2⟩ : _ ∧ k_ ≠ gb229))) (fun _ hk => hk.2) (.int .i64 x37_1)) (fun _ hk => hk.2) (.int .i64 t220)) (fun _ hk => hk.2) (.int .i64 t221)) (fun _ hk => hk.2) (.bool (rdOf false y225 x46_2))) (fun _ h_ => h_.1))) hb); have n3_ := Aside0.mk (Kd.R_below (by (with_reducible repeat (first | apply Kd.R_alloc | apply Kd.R_drewN | apply Kd.R_drew)); exact (Kd.R_mono (Kd.R_far (p := ⟨gb229, 3, none⟩) (Kd.R_far (p := ⟨gb229, 2, none⟩) (Kd.R_far (p := ⟨gb229, 1, none⟩) (Kd.R_far (p := ⟨gb229, 0, none⟩) (Kd.R_types HO_44.out BK229.out (by decide)) (fun _ hk => hk.2) (.int .i64 x37_1)) (fun _ hk => hk.2) (.int .i64 t220)) (fun _ hk => hk.2) (.int .i64 t221)) (fun _ hk => hk.2) (.bool (rdOf false y225 x46_2))) (fun _ h_ => h_.1))) hb); have n4_ := Aside0.mk (blk_below (g := gb229) (o := .cells #[.int .i64 x37_1, .int .i64 t220, .int .i64 t221, .bool (rdOf false y225 x46_2)] 66 (0, 0)) (by (with_reducible repeat (first | refine blk_drewN ?_ _ | refine blk_drew ?_ | refine blk_alloc ?_ _)); refine blk_put (cs := #[.int .i64 x37_1, .int .i64 t220, .int .i64 t221, .bool false]) ?_ 3 _ rfl; (with_reducible repeat (first | refine blk_drewN ?_ _ | refine blk_drew ?_ | refine blk_alloc ?_ _)); refine blk_put (cs := #[.int .i64 x37_1, .int .i64 t220, .int .i64 0, .bool false]) ?_ 2 _ rfl; (with_reducible repeat (first | refine blk_drewN ?_ _ | refine blk_drew ?_ | refine blk_alloc ?_ _)); refine blk_put (cs := #[.int .i64 x37_1, .int .i64 0, .int .i64 0, .bool false]) ?_ 1 _ rfl; (with_reducible repeat (first | refine blk_drewN ?_ _ | refine blk_drew ?_ | refine blk_alloc ?_ _)); refine blk_put (cs := #[.int .i64 0, .int .i64 0, .int .i64 0, .bool false]) ?_ 0 _ rfl; (with_reducible repeat (first | refine blk_drewN ?_ _ | refine blk_drew ?_ | refine blk_alloc ?_ _)); exact BK229.out) hb); have n5_ := Aside0.mk (Kept.below (S := (fun k_ => P0_ k_ ∨ P2_ k_ ∨ P3_ k_)) (by repeat (first | (with_reducible first | exact HK.out | apply Kept.alloc | apply Kept.drewN | apply Kept.drew | refine Kept.setCell ?_ (.inr GW229.out) _) | exact HK.out)) hb); have n6_ := Aside0.mk (below_step (by repeat (first | (with_reducible first | exact HB.out | apply below_alloc | apply pw_below_drewN | apply below_drew1 | refine below_set ?_ GE229.out) | exact HB.out | exact Below.refl _ _)) hb); clear HO_0; clear HO_2; clear HO_3; clear HO_44; clear BK229; clear HK; clear HB; have HO_0 := n0_; have HO_2 := n1_; have HO_3 := n2_; have HO_44 := n3_; have BK229 := n4_; have HK := n5_; have HB := n6_; clear n0_ n1_ n2_ n3_ n4_ n5_ n6_; (try clear hb); (try clear hb2); (try clear hk); (try clear hi); have hcz34_0 : w33.cell? ⟨gb229, 0, none⟩ = some (.int .i64 x37_1) := (blk_cell BK229.out 0).trans rfl; have hcz34_1 : w33.cell? ⟨gb229, 1, none⟩ = some (.int .i64 t220) := (blk_cell BK229.out 1).trans rfl; have hcz34_2 : w33.cell? ⟨gb229, 2, none⟩ = some (.int .i64 t221) := (blk_cell BK229.out 2).trans rfl; have hcz34_3 : w33.cell? ⟨gb229, 3, none⟩ = some (.bool (rdOf false y225 x46_2)) := (blk_cell BK229.out 3).trans rfl; have hfz34_0 := blk_frozen BK229.out 0; have hfz34_1 := blk_frozen BK229.out 1; have hfz34_2 := blk_frozen BK229.out 2; have hfz34_3 := blk_frozen BK229.out 3) | ((with_reducible refine gate_callee (f := 58) rfl ?_); refine goesL_ (some 64) rfl rfl Try.func58 (by kernel_rfl) rfl #[.slice Ao7 x0_2.length co7, .slice A1 l1.length c1, .agg #[.int .i64 x37_1, .int .i64 t220, .int .i64 t221, .bool (rdOf false y225 x46_2)], .int .i64 x37_1] rfl (by (try simp only [List.map_toArray, List.map_cons, List.map_nil]); first | done | rfl | (simp only [List.length_drop, List.length_take]; rfl)) ?_; (with_reducible refine (impl_mark.calls k2 ?pS1_ (.slice Ao7 x0_2.length co7) x0_2 _ _ l1 x37_1 t220 t221 (rdOf false y225 x46_2) x37_1 t231 w0 _ ?side1 ?side2 ?side3 ?side4 A23.out).mono ?_); (case side1 => repeat (first | (with_reducible first | exact HB.out | apply below_alloc | apply pw_below_drewN | apply below_drew1 | refine below_set ?_ GE229.out) | exact HB.out | exact Below.refl _ _)); (case side2 => exact Kd.S_bound HO_0.out); (case side3 => exact Kd.C_kept_call HR1.out (by repeat (first | (with_reducible first | exact HK.out | apply Kept.alloc | apply Kept.drewN | apply Kept.drew | refine Kept.setCell ?_ (.inr GW229.out) _) | exact HK.out)) (fun k_ hs_ => (fun e_ => e_.1) hs_)); (case side4 => exact HC1.out); rintro e w35 ⟨rfl, hy0, hb, hkp⟩; refine ⟨_, rfl, ?_⟩; have n0_ := Aside0.mk (Kd.S_mono (ok' := (fun k_ => ((P0_ k_ ∨ P2_ k_ ∨ P3_ k_) ∨ w.heap.size ≤ k_))) hy0 (fun k_ h_ => Or.elim h_ (fun h_ => (fun e_ => e_.1) h_) (fun h_ => .inr (Nat.le_trans (show Kept w _ (fun k_ => P0_ k_ ∨ P2_ k_ ∨ P3_ k_) from by repeat (first | (with_reducible first | exact HK.out | apply Kept.alloc | apply Kept.drewN | apply Kept.drew | refine Kept.setCell ?_ (.inr GW229.out) _) | exact HK.out)).1 h_)))); have n1_ := Aside0.mk (Kd.R_mono (ok' := fun k_ => ((P0_ k_ ∨ P2_ k_ ∨ P3_ k_) ∨ w.heap.size ≤ k_) ∧ some k_ ≠ (.slice (some ad228) y225.length co17 : Value).ownBlock) (Kd.R_keptB (Kd.R_bound (HO_2.out)) hkp (fun k_ hk_ hs_ => (fun e_ => types_no (by decide) hk_.2.2.2 e_.2.2.2) hs_)) (fun k_ hk_ => ⟨hk_.1.1.1, hk_.1.1.2⟩)); have n2_ := Aside0.mk (Kd.R_mono (ok' := fun k_ => ((P0_ k_ ∨ P2_ k_ ∨ P3_ k_) ∨ w.heap.size ≤ k_) ∧ k_ ≠ gb229) (Kd.R_keptB (Kd.R_bound (HO_3.out)) hkp (fun k_ hk_ hs_ => (fun e_ => types_no (by decide) hk_.2.2.2 e_.2.2.2) hs_)) (fun k_ hk_ => ⟨hk_.1.1.1, hk_.1.1.2⟩)); have n3_ := Aside0.mk (Kd.R_mono (ok' := fun k_ => ((P0_ k_ ∨ P2_ k_ ∨ P3_ k_) ∨ w.heap.size ≤ k_) ∧ some k_ ≠ (.slice (some ⟨gh224, 0, none⟩) x2_2.length co14 : Value).ownBlock) (Kd.R_keptB (Kd.R_bound (HO_44.out)) hkp (fun k_ hk_ hs_ => (fun e_ => types_no (by decide) hk_.2.2.2 e_.2.2.2) hs_)) (fun k_ hk_ => ⟨hk_.1.1.1, hk_.1.1.2⟩)); have n4_ := Aside0.mk (blk_kept (by (with_reducible repeat (first | refine blk_drewN ?_ _ | refine blk_drew ?_ | refine blk_alloc ?_ _)); exact BK229.out) hkp (fun hs_ => (fun e_ => box_noS (by (with_reducible repeat (first | refine blk_drewN ?_ _ | refine blk_drew ?_ | refine blk_alloc ?_ _)); exact BK229.out) (by decide) e_.2.2.2) hs_)); have n5_ := Aside0.mk (Kept.then_ (S := (fun k_ => P0_ k_ ∨ P2_ k_ ∨ P3_ k_)) (by repeat (first | (with_reducible first | exact HK.out | apply Kept.alloc | apply Kept.drewN | apply Kept.drew | refine Kept.setCell ?_ (.inr GW229.out) _) | exact HK.out)) hkp (fun k_ hs_ => (fun e_ => e_.1) hs_)); have n6_ := Aside0.mk (hb); clear HO_0; clear HO_2; clear HO_3; clear HO_44; clear BK229; clear HK; clear HB; have HO_0 := n0_; have HO_2 := n1_; have HO_3 := n2_; have HO_44 := n3_; have BK229 := n4_; have HK := n5_; have HB := n6_; clear n0_ n1_ n2_ n3_ n4_ n5_ n6_; (try clear hb); (try clear hkp); (try clear hy0); have hcz36_0 : w35.cell? ⟨gb229, 0, none⟩ = some (.int .i64 x37_1) := (blk_cell BK229.out 0).trans rfl; have hcz36_1 : w35.cell? ⟨gb229, 1, none⟩ = some (.int .i64 t220) := (blk_cell BK229.out 1).trans rfl; have hcz36_2 : w35.cell? ⟨gb229, 2, none⟩ = some (.int .i64 t221) := (blk_cell BK229.out 2).trans rfl; have hcz36_3 : w35.cell? ⟨gb229, 3, none⟩ = some (.bool (rdOf false y225 x46_2)) := (blk_cell BK229.out 3).trans rfl; have hfz36_0 := blk_frozen BK229.out 0; have hfz36_1 := blk_frozen BK229.out 1; have hfz36_2 := blk_frozen BK229.out 2; have hfz36_3 := blk_frozen BK229.out 3))
                  refine start_ (n := 9) (S := fun w' => w'.cell? ⟨gb229, 0, none⟩ = some (.int .i64 x37_1) ∧ w'.cell? ⟨gb229, 1, none⟩ = some (.int .i64 t220) ∧ w'.cell? ⟨gb229, 2, none⟩ = some (.int .i64 t221) ∧ w'.cell? ⟨gb229, 3, none⟩ = some (.bool (rdOf false y225 x46_2))) (ds := []) #[false, false, false, false, false, false, false, false, false] (by kernel_rfl) rfl rfl ⟨(blk_cell BK229.out 0).trans rfl, (blk_cell BK229.out 1).trans rfl, (blk_cell BK229.out 2).trans rfl, (blk_cell BK229.out 3).trans rfl⟩ (fun hHeld => ?_)
                  have n0_ := Aside0.mk (Kd.S_drew HO_0.out)
                  have n1_ := Aside0.mk (Kd.R_drew HO_2.out)
                  have n2_ := Aside0.mk (Kd.R_drew HO_3.out)
                  have n3_ := Aside0.mk (Kd.R_drew HO_44.out)
                  have n4_ := Aside0.mk (blk_drew BK229.out)
                  have n5_ := Aside0.mk (below_drew1 HB.out)
                  have n6_ := Aside0.mk (Kept.drew HK.out)
                  clear HO_0
                  clear HO_2
                  clear HO_3
                  clear HO_44
                  clear BK229
                  clear HB
                  clear HK
                  have HO_0 := n0_
                  have HO_2 := n1_
                  have HO_3 := n2_
                  have HO_44 := n3_
                  have BK229 := n4_
                  have HB := n5_
                  have HK := n6_
                  clear n0_ n1_ n2_ n3_ n4_ n5_ n6_
                  generalize w35.drew = w35d at HO_0 HO_2 HO_3 HO_44 BK229 HB HK hHeld ⊢
                  have p26 : 0 ≤ (x37_1 : Int) := of_decide_eq_true (by first | (with_reducible assumption) | assumption)
                  have q26 : (x37_1 : Int) < ((x2_2.length : Int) : Int) := of_decide_eq_true (by first | (with_reducible assumption) | assumption)
                  obtain ⟨go26, co26, eo26, gb26, gl26, cl26, HG26⟩ := Kd.R_form HO_2.out (by omega)
                  (first | cases eo26 | (injection eo26 with ea_ en_ ec_; (first | subst ea_ | (injection ea_ with ea_; subst ea_)); subst ec_; clear en_))
                  have GB26 := Aside0.mk gb26
                  have GG26 := Aside0.mk HG26
                  clear gb26 gl26 HG26
                  have HMgo26 := Aside0.mk (show ((P0_ gh224 ∨ P2_ gh224 ∨ P3_ gh224) ∨ w.heap.size ≤ gh224) from (HO_2.out.1 _ rfl).1)
                  (first | simp only [add_plain] at hx224_0 | skip)
                  obtain ⟨hx26_0, hf26_0⟩ := Kd.R_celln false HO_2.out (x37_1 : Int) p26 q26
                  replace p26 := eq_true p26
                  replace q26 := eq_true q26
                  obtain ⟨hy37_, hz37_⟩ := Kd.R_celln false HO_2.out (x37_1 : Int) (of_decide_eq_true (by first | (with_reducible assumption) | assumption)) (of_decide_eq_true (by first | (with_reducible assumption) | assumption))
                  have HP37 := Kd.R_putg HO_2.out (x37_1 : Int) true
                  have p28 : 0 ≤ (x37_1 : Int) := of_decide_eq_true (by first | (with_reducible assumption) | assumption)
                  have q28 : (x37_1 : Int) < ((x3_2.length : Int) : Int) := of_decide_eq_true (by first | (with_reducible assumption) | assumption)
                  obtain ⟨go28, co28, eo28, gb28, gl28, cl28, HG28⟩ := Kd.R_form HO_3.out (by omega)
                  (first | cases eo28 | (injection eo28 with ea_ en_ ec_; (first | subst ea_ | (injection ea_ with ea_; subst ea_)); subst ec_; clear en_))
                  have GB28 := Aside0.mk gb28
                  have GG28 := Aside0.mk HG28
                  clear gb28 gl28 HG28
                  have HMgo28 := Aside0.mk (show ((P0_ go28 ∨ P2_ go28 ∨ P3_ go28) ∨ w.heap.size ≤ go28) from (HO_3.out.1 _ rfl).1)
                  replace p28 := eq_true p28
                  replace q28 := eq_true q28
                  refine pure_ (i := 0) (N := some 65) (v := ?_) (a' := ?_) #[true, false, false, false, false, false, false, false, false] rfl rfl (by kernel_rfl) (fun _ _ _ h => h) (Or.inl ⟨by rfl, ?_⟩) ?_ ?_
                  rotate_left
                  ·intro w'
                   go_simp
                   with_reducible rfl
                  rotate_left
                  ·simp only [Act.put, List.setIfInBounds_toArray, List.set_cons_zero, List.set_cons_succ, i64_w, i32_w]
                   rfl
                  refine pure_ (i := 1) (N := some 66) (v := ?_) (a' := ?_) #[true, true, false, false, false, false, false, false, false] rfl rfl (by kernel_rfl) (fun _ _ _ h => h) (Or.inl ⟨by rfl, ?_⟩) ?_ ?_
                  rotate_left
                  ·intro w'
                   go_simp
                   with_reducible rfl
                  rotate_left
                  ·simp only [Act.put, List.setIfInBounds_toArray, List.set_cons_zero, List.set_cons_succ, i64_w, i32_w]
                   rfl
                  refine pure_ (i := 2) (N := some 67) (v := ?_) (a' := ?_) #[true, true, true, false, false, false, false, false, false] rfl rfl (by kernel_rfl) (fun _ _ _ h => h) (Or.inl ⟨by rfl, ?_⟩) ?_ ?_
                  rotate_left
                  ·intro w'
                   go_simp
                   with_reducible rfl
                  rotate_left
                  ·simp only [Act.put, List.setIfInBounds_toArray, List.set_cons_zero, List.set_cons_succ, i64_w, i32_w]
                   rfl
                  refine pure_ (i := 3) (N := some 68) (v := ?_) (a' := ?_) #[true, true, true, true, false, false, false, false, false] rfl rfl (by kernel_rfl) (fun _ _ _ h => h) (Or.inl ⟨by rfl, ?_⟩) ?_ ?_
                  rotate_left
                  ·intro w'
                   go_simp
                   with_reducible rfl
                  rotate_left
                  ·simp only [Act.put, List.setIfInBounds_toArray, List.set_cons_zero, List.set_cons_succ, i64_w, i32_w]
                   rfl
                  refine take_ (i := 4) (N := some 69) (v := ?_) (a' := ?_) #[true, true, true, true, true, false, false, false, false] rfl rfl (by kernel_rfl) (fun _ _ _ h => h) (Or.inl ⟨by rfl, ?_⟩) hHeld ?_ ?_
                  rotate_left
                  ·rintro w' ⟨s0, s1, s2, s3⟩
                   go_simp
                   with_reducible rfl
                  rotate_left
                  ·simp only [Act.put, List.setIfInBounds_toArray, List.set_cons_zero, List.set_cons_succ, i64_w, i32_w]
                   rfl
                  refine pure_ (i := 5) (N := some 70) (v := ?_) (a' := ?_) #[true, true, true, true, true, true, false, false, false] rfl rfl (by kernel_rfl) (fun _ _ _ h => h) (Or.inl ⟨by rfl, ?_⟩) ?_ ?_
                  rotate_left
                  ·intro w'
                   go_simp
                   with_reducible rfl
                  rotate_left
                  ·simp only [Act.put, List.setIfInBounds_toArray, List.set_cons_zero, List.set_cons_succ, i64_w, i32_w]
                   rfl
                  refine one_ (i := 6) (N := none) #[true, true, true, true, true, true, true, false, false] rfl rfl (by kernel_rfl) (by decide) (fun K hK => ?_)
                  refine skip_ (w1 := (w35d.setCell ⟨gh224, (x37_1 : Int).toNat, none⟩ (.bool true))) (by rfl) (by rfl) ?hr6_ ?_
                  (case hr6_ => first | (go_simp; done) | (go_simp; rfl))
                  obtain ⟨w38, hw⟩ : ∃ w_ : World, w_ = (w35d.setCell ⟨gh224, (x37_1 : Int).toNat, none⟩ (.bool true)) := ⟨_, rfl⟩
                  rw [← hw]
                  have hg : w35d.grownBy w38 (some gh224) := (by rw [hw]; exact HP37.2)
                  have hp_ : Kd.R Kd.bool 4 w38 w0.heap.size (fun k_ => ((P0_ k_ ∨ P2_ k_ ∨ P3_ k_) ∨ w.heap.size ≤ k_) ∧ some k_ ≠ (.slice (some ad228) y225.length co17 : Value).ownBlock) (.slice (some ⟨gh224, 0, none⟩) x2_2.length co14) y232 := (by rw [hw, Ny232.out]; first | exact HP37.1 | exact Kd.R_mono HP37.1 (fun _ hk => ⟨hk.2, hk.1⟩))
                  clear HP37
                  have n0_ := Aside0.mk (Kd.S_over' (v := (.slice (some ⟨gh224, 0, none⟩) x2_2.length co14)) (by (with_reducible repeat (first | apply Kd.S_alloc | apply Kd.S_drewN | apply Kd.S_drew)); exact HO_0.out) (Kd.R_typed HO_2.out) (by decide) hg)
                  have n1_ := Aside0.mk (hp_)
                  have n2_ := Aside0.mk (Kd.R_over' (v := (.slice (some ⟨gh224, 0, none⟩) x2_2.length co14)) (by (with_reducible repeat (first | apply Kd.R_alloc | apply Kd.R_drewN | apply Kd.R_drew)); exact HO_3.out) (Kd.R_typed HO_2.out) (by decide) hg)
                  have n3_ := Aside0.mk (Kd.R_after (v := (.slice (some ⟨gh224, 0, none⟩) x2_2.length co14)) (v1 := (.slice (some ⟨gh224, 0, none⟩) x2_2.length co14)) (ok := (fun k_ => ((P0_ k_ ∨ P2_ k_ ∨ P3_ k_) ∨ w.heap.size ≤ k_))) (by (with_reducible repeat (first | apply Kd.R_alloc | apply Kd.R_drewN | apply Kd.R_drew)); exact HO_44.out) hg (.inl rfl))
                  have n4_ := Aside0.mk (blk_grown (g := gb229) (o := .cells #[.int .i64 x37_1, .int .i64 t220, .int .i64 t221, .bool (rdOf false y225 x46_2)] 66 (0, 0)) (by (with_reducible repeat (first | refine blk_drewN ?_ _ | refine blk_drew ?_ | refine blk_alloc ?_ _)); exact BK229.out) hg (Kd.R_ne HO_2.out BK229.out (by decide)))
                  have n5_ := Aside0.mk ((by rw [hw]; exact below_set (HB.out) GB26.out : Below w0.heap.size w0 w38))
                  have n6_ := Aside0.mk (Kept.of_grown (S := (fun k_ => P0_ k_ ∨ P2_ k_ ∨ P3_ k_)) hg (by repeat (first | (with_reducible first | exact HK.out | apply Kept.alloc | apply Kept.drewN | apply Kept.drew | refine Kept.setCell ?_ (.inr GW229.out) _) | exact HK.out)) (fun k_ e_ => (HO_2.out.1 k_ e_).1))
                  clear HO_0
                  clear HO_2
                  clear HO_3
                  clear HO_44
                  clear BK229
                  clear HB
                  clear HK
                  have HO_0 := n0_
                  have HO_2 := n1_
                  have HO_3 := n2_
                  have HO_44 := n3_
                  have BK229 := n4_
                  have HB := n5_
                  have HK := n6_
                  clear n0_ n1_ n2_ n3_ n4_ n5_ n6_
                  clear hg hw hp_
                  replace p28 := of_eq_true p28
                  replace q28 := of_eq_true q28
                  obtain ⟨ce28, hcl28, hM28, hcc28, hfr28⟩ := Kd.R_elem HO_3.out z66 (x37_1 : Int) p28 q28
                  obtain rfl := k66_openM hM28
                  have hx28_0 : w38.cell? ⟨go28, (x37_1 : Int).toNat * 4, none⟩ = some (.int .i64 ((rd_T66 x3_2 x37_1).f0)) := hcc28 0 _ rfl
                  have hx28_1 : w38.cell? ⟨go28, (x37_1 : Int).toNat * 4 + 1, none⟩ = some (.int .i64 ((rd_T66 x3_2 x37_1).f1)) := hcc28 1 _ rfl
                  have hx28_2 : w38.cell? ⟨go28, (x37_1 : Int).toNat * 4 + 2, none⟩ = some (.int .i64 ((rd_T66 x3_2 x37_1).f2)) := hcc28 2 _ rfl
                  have hx28_3 : w38.cell? ⟨go28, (x37_1 : Int).toNat * 4 + 3, none⟩ = some (.bool ((rd_T66 x3_2 x37_1).f3)) := hcc28 3 _ rfl
                  have hf28_0 : w38.frozen? ⟨go28, (x37_1 : Int).toNat * 4, none⟩ = false := hfr28 0
                  have hf28_1 : w38.frozen? ⟨go28, (x37_1 : Int).toNat * 4 + 1, none⟩ = false := hfr28 1
                  have hf28_2 : w38.frozen? ⟨go28, (x37_1 : Int).toNat * 4 + 2, none⟩ = false := hfr28 2
                  have hf28_3 : w38.frozen? ⟨go28, (x37_1 : Int).toNat * 4 + 3, none⟩ = false := hfr28 3
                  (try clear hM28)
                  (try clear hfr28)
                  (try clear hcc28)
                  (try clear hcl28)
                  have HX39 := Aside0.mk (show Kd.R k66 66 w38 w0.heap.size (fun k_ => ((P0_ k_ ∨ P2_ k_ ∨ P3_ k_) ∨ w.heap.size ≤ k_) ∧ k_ ≠ gb229) (.slice (some ⟨go28, 0, none⟩) x3_2.length co28) x3_2 from (by (with_reducible repeat (first | apply Kd.R_alloc | apply Kd.R_drewN | apply Kd.R_drew)); exact HO_3.out))
                  obtain ⟨ce39, hcl39, hM39, hcc39, hfr39⟩ := Kd.R_elem HX39.out z66 (x37_1 : Int) (of_decide_eq_true (by first | (with_reducible assumption) | assumption)) (by have h_ : (x37_1 : Int) < ((x3_2.length : Int) : Int) := of_decide_eq_true (by first | (with_reducible assumption) | assumption); first | exact h_ | (have e_ := (Kd.R_reads' HO_3.out).1; omega) | simpa using h_)
                  obtain rfl := k66_openM hM39
                  have HP39 := Kd.R_seg HX39.out (x37_1 : Int) (of_decide_eq_true (by first | (with_reducible assumption) | assumption)) (by have h_ : (x37_1 : Int) < ((x3_2.length : Int) : Int) := of_decide_eq_true (by first | (with_reducible assumption) | assumption); first | exact h_ | (have e_ := (Kd.R_reads' HO_3.out).1; omega) | simpa using h_) (seg := [.int .i64 x37_1, .int .i64 t220, .int .i64 t221, .bool (rdOf false y225 x46_2)]) (j := 0) hcl39 hcc39 (show 4 ≤ 4 from by decide) (x' := (⟨x37_1, t220, t221, rdOf false y225 x46_2⟩ : S66)) (k66_mkM _ _ _ (⟨x37_1, t220, t221, rdOf false y225 x46_2⟩ : S66) ) (fun _ hk => hk)
                  have hx39_0 := hcc39 0 _ rfl
                  (try simp only [show (k66).sz = 4 from rfl, Nat.mul_one, Nat.add_zero] at hx39_0)
                  have hf39_0 := hfr39 0
                  (try simp only [show (k66).sz = 4 from rfl, Nat.mul_one, Nat.add_zero] at hf39_0)
                  have hx39_1 := hcc39 1 _ rfl
                  (try simp only [show (k66).sz = 4 from rfl, Nat.mul_one, Nat.add_zero] at hx39_1)
                  have hf39_1 := hfr39 1
                  (try simp only [show (k66).sz = 4 from rfl, Nat.mul_one, Nat.add_zero] at hf39_1)
                  have hx39_2 := hcc39 2 _ rfl
                  (try simp only [show (k66).sz = 4 from rfl, Nat.mul_one, Nat.add_zero] at hx39_2)
                  have hf39_2 := hfr39 2
                  (try simp only [show (k66).sz = 4 from rfl, Nat.mul_one, Nat.add_zero] at hf39_2)
                  have hx39_3 := hcc39 3 _ rfl
                  (try simp only [show (k66).sz = 4 from rfl, Nat.mul_one, Nat.add_zero] at hx39_3)
                  have hf39_3 := hfr39 3
                  (try simp only [show (k66).sz = 4 from rfl, Nat.mul_one, Nat.add_zero] at hf39_3)
                  clear hcl39 hcc39 hfr39 hM39
                  replace p28 := eq_true p28
                  replace q28 := eq_true q28
                  refine hK.out _ _ ⟨(blk_cell BK229.out 0).trans rfl, (blk_cell BK229.out 1).trans rfl, (blk_cell BK229.out 2).trans rfl, (blk_cell BK229.out 3).trans rfl⟩ (fun hHeld => ?_)
                  clear hK K
                  refine pure_ (i := 7) (N := some 71) (v := ?_) (a' := ?_) #[true, true, true, true, true, true, true, true, false] rfl rfl (by kernel_rfl) (fun _ _ _ h => h) (Or.inl ⟨by rfl, ?_⟩) ?_ ?_
                  rotate_left
                  ·intro w'
                   go_simp
                   with_reducible rfl
                  rotate_left
                  ·simp only [Act.put, List.setIfInBounds_toArray, List.set_cons_zero, List.set_cons_succ, i64_w, i32_w]
                   rfl
                  refine one_ (i := 8) (N := none) #[true, true, true, true, true, true, true, true, true] rfl rfl (by kernel_rfl) (by decide) (fun K hK => ?_)
                  refine skip_ (w1 := ((((w38.setCell ⟨go28, (x37_1 : Int).toNat * 4, none⟩ (.int .i64 x37_1)).setCell ⟨go28, (x37_1 : Int).toNat * 4 + 1, none⟩ (.int .i64 t220)).setCell ⟨go28, (x37_1 : Int).toNat * 4 + 2, none⟩ (.int .i64 t221)).setCell ⟨go28, (x37_1 : Int).toNat * 4 + 3, none⟩ (.bool (rdOf false y225 x46_2)))) (by rfl) (by rfl) ?hr8_ ?_
                  (case hr8_ => first | (go_simp; done) | (go_simp; rfl))
                  obtain ⟨w40, hw⟩ : ∃ w_ : World, w_ = ((((w38.setCell ⟨go28, (x37_1 : Int).toNat * 4, none⟩ (.int .i64 x37_1)).setCell ⟨go28, (x37_1 : Int).toNat * 4 + 1, none⟩ (.int .i64 t220)).setCell ⟨go28, (x37_1 : Int).toNat * 4 + 2, none⟩ (.int .i64 t221)).setCell ⟨go28, (x37_1 : Int).toNat * 4 + 3, none⟩ (.bool (rdOf false y225 x46_2))) := ⟨_, rfl⟩
                  rw [← hw]
                  have hg : w38.grownBy w40 (some go28) := (by rw [hw]; exact HP39.2)
                  have hp_ : Kd.R k66 66 w40 w0.heap.size (fun k_ => ((P0_ k_ ∨ P2_ k_ ∨ P3_ k_) ∨ w.heap.size ≤ k_) ∧ k_ ≠ gb229) (.slice (some ⟨go28, 0, none⟩) x3_2.length co28) y233 := (by rw [hw, Ny233.out]; first | exact HP39.1 | exact Kd.R_mono HP39.1 (fun _ hk => ⟨hk.2, hk.1⟩))
                  clear HP39
                  have n0_ := Aside0.mk (Kd.S_over' (v := (.slice (some ⟨go28, 0, none⟩) x3_2.length co28)) (by (with_reducible repeat (first | apply Kd.S_alloc | apply Kd.S_drewN | apply Kd.S_drew)); exact HO_0.out) (Kd.R_typed HO_3.out) (by decide) hg)
                  have n1_ := Aside0.mk (Kd.R_over' (v := (.slice (some ⟨go28, 0, none⟩) x3_2.length co28)) (by (with_reducible repeat (first | apply Kd.R_alloc | apply Kd.R_drewN | apply Kd.R_drew)); exact HO_2.out) (Kd.R_typed HO_3.out) (by decide) hg)
                  have n2_ := Aside0.mk (hp_)
                  have n3_ := Aside0.mk (Kd.R_over' (v := (.slice (some ⟨go28, 0, none⟩) x3_2.length co28)) (by (with_reducible repeat (first | apply Kd.R_alloc | apply Kd.R_drewN | apply Kd.R_drew)); exact HO_44.out) (Kd.R_typed HO_3.out) (by decide) hg)
                  have n4_ := Aside0.mk (blk_grown (g := gb229) (o := .cells #[.int .i64 x37_1, .int .i64 t220, .int .i64 t221, .bool (rdOf false y225 x46_2)] 66 (0, 0)) (by (with_reducible repeat (first | refine blk_drewN ?_ _ | refine blk_drew ?_ | refine blk_alloc ?_ _)); exact BK229.out) hg (Kd.R_away HO_3.out (fun _ hk => hk.2)))
                  have n5_ := Aside0.mk ((by rw [hw]; exact below_set (below_set (below_set (below_set (HB.out) GB28.out) GB28.out) GB28.out) GB28.out : Below w0.heap.size w0 w40))
                  have n6_ := Aside0.mk (Kept.of_grown (S := (fun k_ => P0_ k_ ∨ P2_ k_ ∨ P3_ k_)) hg (by repeat (first | (with_reducible first | exact HK.out | apply Kept.alloc | apply Kept.drewN | apply Kept.drew | refine Kept.setCell ?_ (.inr GW229.out) _) | exact HK.out)) (fun k_ e_ => (HO_3.out.1 k_ e_).1))
                  clear HO_0
                  clear HO_2
                  clear HO_3
                  clear HO_44
                  clear BK229
                  clear HB
                  clear HK
                  have HO_0 := n0_
                  have HO_2 := n1_
                  have HO_3 := n2_
                  have HO_44 := n3_
                  have BK229 := n4_
                  have HB := n5_
                  have HK := n6_
                  clear n0_ n1_ n2_ n3_ n4_ n5_ n6_
                  clear hg hw hp_
                  refine hK.out _ _ ⟨(blk_cell BK229.out 0).trans rfl, (blk_cell BK229.out 1).trans rfl, (blk_cell BK229.out 2).trans rfl, (blk_cell BK229.out 3).trans rfl⟩ (fun hHeld => ?_)
                  clear hK K
                  refine done_ (by kernel_rfl) ?_
                  (try simp only [hl0_1, hl0_2, hl2_2])
                  go_wp2_with (first | ((with_reducible refine gate_callee (f := 45) rfl ?_); refine goesL_ (some 76) rfl rfl Try.func45 (by kernel_rfl) rfl #[.slice Ao7 x0_2.length co7, .slice A1 l1.length c1, .slice (some ⟨gh224, 0, none⟩) x2_2.length co14, .slice (some ⟨go28, 0, none⟩) x3_2.length co28] rfl (by (try simp only [List.map_toArray, List.map_cons, List.map_nil]); first | done | rfl | (simp only [List.length_drop, List.length_take]; rfl)) ?_; (with_reducible refine (ih k2 (by have := HK1.out; have := HK2.out; omega) ?pS2_ (.slice Ao7 x0_2.length co7) t231 _ _ l1 (fun k_ => some k_ = (.slice (some ⟨gh224, 0, none⟩) x2_2.length co14 : Value).ownBlock) (.slice (some ⟨gh224, 0, none⟩) x2_2.length co14) y232 (fun k_ => some k_ = (.slice (some ⟨go28, 0, none⟩) x3_2.length co28 : Value).ownBlock) (.slice (some ⟨go28, 0, none⟩) x3_2.length co28) y233 true t235 t236 t237 w0 _ ?side1 ?side2 ?side3 ?side4 ?side5 ?side6 A29.out).mono ?_); (case side1 => repeat (first | (with_reducible first | exact HB.out | apply below_alloc | apply pw_below_drewN | apply below_drew1 | refine below_set ?_ GE229.out) | exact HB.out | exact Below.refl _ _)); (case side2 => exact Kd.S_bound HO_0.out); (case side3 => exact Kd.C_kept_call HR1.out (by repeat (first | (with_reducible first | exact HK.out | apply Kept.alloc | apply Kept.drewN | apply Kept.drew | refine Kept.setCell ?_ (.inr GW229.out) _) | exact HK.out)) (fun k_ hs_ => Or.elim hs_ (fun e_ => (fun e_ => e_.1) e_) (fun e_ => Or.elim e_ (fun e_ => (fun e_ => (HO_2.out.1 k_ e_.symm).1) e_) (fun e_ => (fun e_ => (HO_3.out.1 k_ e_.symm).1) e_)))); (case side4 => exact HC1.out); (case side5 => exact Kd.R_tight rfl HO_2.out); (case side6 => exact Kd.R_tight rfl HO_3.out); rintro e w41 ⟨rfl, hy0, hy1, hy2, hb, hkp⟩; refine ⟨_, rfl, ?_⟩; have n0_ := Aside0.mk (Kd.S_mono (ok' := (fun k_ => ((P0_ k_ ∨ P2_ k_ ∨ P3_ k_) ∨ w.heap.size ≤ k_))) hy0 (fun k_ h_ => Or.elim h_ (fun h_ => Or.elim h_ (fun e_ => (fun e_ => e_.1) e_) (fun e_ => Or.elim e_ (fun e_ => (fun e_ => (HO_2.out.1 k_ e_.symm).1) e_) (fun e_ => (fun e_ => (HO_3.out.1 k_ e_.symm).1) e_))) (fun h_ => .inr (Nat.le_trans (show Kept w _ (fun k_ => P0_ k_ ∨ P2_ k_ ∨ P3_ k_) from by repeat (first | (with_reducible first | exact HK.out | apply Kept.alloc | apply Kept.drewN | apply Kept.drew | refine Kept.setCell ?_ (.inr GW229.out) _) | exact HK.out)).1 h_)))); have n1_ := Aside0.mk (Kd.R_reok rfl hy1 (fun k_ e_ => HO_2.out.1 k_ e_)); have n2_ := Aside0.mk (Kd.R_reok rfl hy2 (fun k_ e_ => HO_3.out.1 k_ e_)); have n3_ := Aside0.mk (Kd.R_mono (ok' := fun k_ => ((P0_ k_ ∨ P2_ k_ ∨ P3_ k_) ∨ w.heap.size ≤ k_) ∧ some k_ ≠ (.slice (some ⟨gh224, 0, none⟩) x2_2.length co14 : Value).ownBlock) (Kd.R_keptB (Kd.R_bound ((Kd.R_apart' HO_44.out (Kd.R_typed HO_3.out) (by decide)))) hkp (fun k_ hk_ hs_ => Or.elim hs_ (fun e_ => (fun e_ => types_no (by decide) hk_.2.2.2 e_.2.2.2) e_) (fun e_ => Or.elim e_ (fun e_ => (hk_.1.1.2) e_) (fun e_ => (hk_.1.2) e_)))) (fun k_ hk_ => ⟨hk_.1.1.1.1, hk_.1.1.1.2⟩)); have n4_ := Aside0.mk (blk_kept (by (with_reducible repeat (first | refine blk_drewN ?_ _ | refine blk_drew ?_ | refine blk_alloc ?_ _)); exact BK229.out) hkp (fun hs_ => Or.elim hs_ (fun e_ => (fun e_ => box_noS (by (with_reducible repeat (first | refine blk_drewN ?_ _ | refine blk_drew ?_ | refine blk_alloc ?_ _)); exact BK229.out) (by decide) e_.2.2.2) e_) (fun e_ => Or.elim e_ (fun e_ => (fun e_ => (Kd.R_ne HO_2.out BK229.out (by decide)) e_) e_) (fun e_ => (fun e_ => (Kd.R_away HO_3.out (fun _ hk => hk.2)) e_) e_)))); have n5_ := Aside0.mk (Kept.then_ (S := (fun k_ => P0_ k_ ∨ P2_ k_ ∨ P3_ k_)) (by repeat (first | (with_reducible first | exact HK.out | apply Kept.alloc | apply Kept.drewN | apply Kept.drew | refine Kept.setCell ?_ (.inr GW229.out) _) | exact HK.out)) hkp (fun k_ hs_ => Or.elim hs_ (fun e_ => (fun e_ => e_.1) e_) (fun e_ => Or.elim e_ (fun e_ => (fun e_ => (HO_2.out.1 k_ e_.symm).1) e_) (fun e_ => (fun e_ => (HO_3.out.1 k_ e_.symm).1) e_)))); have n6_ := Aside0.mk (hb); clear HO_0; clear HO_2; clear HO_3; clear HO_44; clear BK229; clear HK; clear HB; have HO_0 := n0_; have HO_2 := n1_; have HO_3 := n2_; have HO_44 := n3_; have BK229 := n4_; have HK := n5_; have HB := n6_; clear n0_ n1_ n2_ n3_ n4_ n5_ n6_; (try clear hb); (try clear hkp); (try clear hy0); (try clear hy1); (try clear hy2)))
                  go_ret
                  exact ⟨by first | rfl | (simp [errW_none, errW_some] <;> rfl) | (simp [*, errW_none, errW_some] <;> rfl), (by first | exact (by (with_reducible repeat (first | apply Kd.S_alloc | apply Kd.S_drewN | apply Kd.S_drew)); exact HO_0.out) | (simp only [hl0_1, hl0_2, hl2_2]; exact (by (with_reducible repeat (first | apply Kd.S_alloc | apply Kd.S_drewN | apply Kd.S_drew)); exact HO_0.out))), (by first | exact (by (with_reducible repeat (first | apply Kd.R_alloc | apply Kd.R_drewN | apply Kd.R_drew)); exact Kd.R_mono HO_2.out (fun _ hk => hk.1)) | (simp only [hl0_1, hl0_2, hl2_2]; exact (by (with_reducible repeat (first | apply Kd.R_alloc | apply Kd.R_drewN | apply Kd.R_drew)); exact Kd.R_mono HO_2.out (fun _ hk => hk.1)))), (by first | exact (by (with_reducible repeat (first | apply Kd.R_alloc | apply Kd.R_drewN | apply Kd.R_drew)); exact Kd.R_mono HO_3.out (fun _ hk => hk.1)) | (simp only [hl0_1, hl0_2, hl2_2]; exact (by (with_reducible repeat (first | apply Kd.R_alloc | apply Kd.R_drewN | apply Kd.R_drew)); exact Kd.R_mono HO_3.out (fun _ hk => hk.1)))), by repeat (first | (with_reducible first | exact HB.out | apply below_alloc | apply pw_below_drewN | apply below_drew1 | refine below_set ?_ GE229.out) | exact HB.out | exact Below.refl _ _), by repeat (first | (with_reducible first | exact HK.out | apply Kept.alloc | apply Kept.drewN | apply Kept.drew | refine Kept.setCell ?_ (.inr GW229.out) _) | exact HK.out)⟩
                 ·replace c30 := Bool.eq_false_iff.mpr c30
                  subst c30
                  have H1 : ((impl_mark.f k2 t235 l1 x37_1 t220 t221 (rdOf false y225 x46_2) (-1)).bind fun t238 => (impl_fill.l2 k2 t238 l1 (t236.set (x37_1 : Int).toNat false) t237 t220 t221 x37_1 (l1.length : Int) x37_1 y225 (y225.length : Int) (wrap64 (x46_2 + 1)))) = some (r1, r2, r3, r4) := by rw [if_neg (show ¬ (false = true) by decide)] at H; exact H
                  clear H
                  have H := H1
                  clear H1
                  replace H := Option.bind_eq_some_iff.mp H
                  obtain ⟨t238, A420, H⟩ := H
                  replace H : (impl_fill.l2 k2 t238 l1 (t236.set (x37_1 : Int).toNat false) t237 t220 t221 x37_1 (l1.length : Int) x37_1 y225 (y225.length : Int) (wrap64 (x46_2 + 1))) = some (r1, r2, r3, r4) := H
                  have A42 := Aside0.mk A420
                  clear A420
                  obtain ⟨y239, hy239⟩ : ∃ y_ : List Bool, y_ = (t236.set (x37_1 : Int).toNat false) := ⟨_, rfl⟩
                  replace H : (impl_fill.l2 k2 t238 l1 y239 t237 t220 t221 x37_1 (l1.length : Int) x37_1 y225 (y225.length : Int) (wrap64 (x46_2 + 1))) = some (r1, r2, r3, r4) := by first | (rw [hy239]; with_reducible exact H) | (have H2_ := (Option.bind_some _ _).symm.trans H; rw [hy239]; with_reducible exact H2_) | (have H2_ := (Option.bind_some _ _).symm.trans H; with_reducible exact H2_) | with_reducible exact H | (rw [hy239]; exact H) | exact H
                  have Ny239 := Aside0.mk hy239
                  clear hy239
                  have H' := Aside0.mk H
                  clear H
                  have p228 : 0 ≤ (x46_2 : Int) := of_decide_eq_true (by first | (with_reducible assumption) | assumption)
                  have q228 : x46_2 < (y225.length : Int) := of_decide_eq_true (by first | (with_reducible assumption) | assumption)
                  obtain ⟨ad228, e228, hx228_0⟩ := Kd.at_bool (Kd.R_reads' HO_44.out).2.2 x46_2 p228 q228
                  (try rw [← Nbq11.out] at hx228_0)
                  cases e228
                  replace p228 := eq_true p228
                  replace q228 := eq_true q228
                  go_wp2_with (first | ((with_reducible refine gate_dst (N := 17) rfl ?_); refine box_event ?hg (N := 17) ?hd (cs := #[.int .i64 0, .int .i64 0, .int .i64 0, .bool false]) (t := 66) ?hr ?_; (case hd => rfl); (case hg => rfl); (case hr => first | (go_simp; done) | (go_simp; rfl)); intro gb229 hg w44 hbox hb; have n0_ := Aside0.mk (Kd.S_below (by (with_reducible repeat (first | apply Kd.S_alloc | apply Kd.S_drewN | apply Kd.S_drew)); exact HO_0.out) hb); have n1_ := Aside0.mk (Kd.R_below (by (with_reducible repeat (first | apply Kd.R_alloc | apply Kd.R_drewN | apply Kd.R_drew)); exact HO_2.out) hb); have n2_ := Aside0.mk (Kd.R_below (Kd.R_elderB (by (with_reducible repeat (first | apply Kd.R_alloc | apply Kd.R_drewN | apply Kd.R_drew)); exact HO_3.out) gb229 (Nat.le_of_eq hg.symm)) hb); have n3_ := Aside0.mk (Kd.R_below (by (with_reducible repeat (first | apply Kd.R_alloc | apply Kd.R_drewN | apply Kd.R_drew)); exact HO_44.out) hb); have n4_ := Aside0.mk (Kept.below (S := (fun k_ => P0_ k_ ∨ P2_ k_ ∨ P3_ k_)) (by repeat (first | (with_reducible first | exact HK.out | apply Kept.alloc | apply Kept.drewN | apply Kept.drew) | exact HK.out)) hb); have n5_ := Aside0.mk (below_step (by repeat (first | (with_reducible first | exact HB.out | apply below_alloc | apply pw_below_drewN | apply below_drew1) | exact HB.out | exact Below.refl _ _)) hb); have n6_ := Aside0.mk (hbox); have n7_ := Aside0.mk ((by rw [hg]; exact (by first | exact HK.out.1 | exact (show Kept w _ (fun k_ => P0_ k_ ∨ P2_ k_ ∨ P3_ k_) from by repeat (first | (with_reducible first | exact HK.out | apply Kept.alloc | apply Kept.drewN | apply Kept.drew) | exact HK.out)).1) : w.heap.size ≤ gb229)); have n8_ := Aside0.mk ((by rw [hg]; exact (below_size (by repeat (first | (with_reducible first | exact HB.out | apply below_alloc | apply pw_below_drewN | apply below_drew1) | exact HB.out | exact Below.refl _ _))) : w0.heap.size ≤ gb229)); clear HO_0; clear HO_2; clear HO_3; clear HO_44; clear HK; clear HB; have HO_0 := n0_; have HO_2 := n1_; have HO_3 := n2_; have HO_44 := n3_; have HK := n4_; have HB := n5_; have BK229 := n6_; have GW229 := n7_; have GE229 := n8_; clear n0_ n1_ n2_ n3_ n4_ n5_ n6_ n7_ n8_; clear hb hbox hg; have hcz45_0 : w44.cell? ⟨gb229, 0, none⟩ = some (.int .i64 0) := (blk_cell BK229.out 0).trans rfl; have hcz45_1 : w44.cell? ⟨gb229, 1, none⟩ = some (.int .i64 0) := (blk_cell BK229.out 1).trans rfl; have hcz45_2 : w44.cell? ⟨gb229, 2, none⟩ = some (.int .i64 0) := (blk_cell BK229.out 2).trans rfl; have hcz45_3 : w44.cell? ⟨gb229, 3, none⟩ = some (.bool false) := (blk_cell BK229.out 3).trans rfl; have hfz45_0 := blk_frozen BK229.out 0; have hfz45_1 := blk_frozen BK229.out 1; have hfz45_2 := blk_frozen BK229.out 2; have hfz45_3 := blk_frozen BK229.out 3) | ((with_reducible refine gate_callee (f := 57) rfl ?_); refine goesL_ (some 58) rfl rfl Try.func57 (by kernel_rfl) rfl #[.slice Ao7 x0_2.length co7, .slice A1 l1.length c1, .agg #[.int .i64 x37_1, .int .i64 t220, .int .i64 t221, .bool (rdOf false y225 x46_2)]] rfl (by (try simp only [List.map_toArray, List.map_cons, List.map_nil]); first | done | rfl | (simp only [List.length_drop, List.length_take]; rfl)) ?_; (with_reducible refine (impl_isRoom.calls k2 _ _ x0_2 _ _ l1 x37_1 t220 t221 (rdOf false y225 x46_2) true _ ?side1 ?side2 ?side3 ?side4 A21.out).mono ?_); (case side1 => refine (Kd.S_reads' (e := 24) (base := w0.heap.size) (ok := fun k_ => ((P0_ k_ ∨ P2_ k_ ∨ P3_ k_) ∨ w.heap.size ≤ k_)) (n := x0_2.length) (c := co7) ?_).2.2; exact (by (with_reducible repeat (first | apply Kd.S_alloc | apply Kd.S_drewN | apply Kd.S_drew)); exact (Kd.S_mono (Kd.S_far (p := ⟨gb229, 3, none⟩) (Kd.S_far (p := ⟨gb229, 2, none⟩) (Kd.S_far (p := ⟨gb229, 1, none⟩) (Kd.S_far (p := ⟨gb229, 0, none⟩) (Kd.S_types HO_0.out BK229.out (by decide)) (fun _ hk => hk.2) (.int .i64 x37_1)) (fun _ hk => hk.2) (.int .i64 t220)) (fun _ hk => hk.2) (.int .i64 t221)) (fun _ hk => hk.2) (.bool (rdOf false y225 x46_2))) (fun _ h_ => h_.1)))); (case side2 => exact (Kd.S_reads' HO_0.out).2.1); (case side3 => exact Kd.C_kept_now HR1.out (by repeat (first | (with_reducible first | exact HK.out | apply Kept.alloc | apply Kept.drewN | apply Kept.drew | refine Kept.setCell ?_ (.inr GW229.out) _) | exact HK.out))); (case side4 => exact HC1.out); rintro e w46 ⟨rfl, hb⟩; refine ⟨_, rfl, ?_⟩; have n0_ := Aside0.mk (Kd.S_below (by (with_reducible repeat (first | apply Kd.S_alloc | apply Kd.S_drewN | apply Kd.S_drew)); exact (Kd.S_mono (Kd.S_far (p := ⟨gb229, 3, none⟩) (Kd.S_far (p := ⟨gb229, 2, none⟩) (Kd.S_far (p := ⟨gb229, 1, none⟩) (Kd.S_far (p := ⟨gb229, 0, none⟩) (Kd.S_types HO_0.out BK229.out (by decide)) (fun _ hk => hk.2) (.int .i64 x37_1)) (fun _ hk => hk.2) (.int .i64 t220)) (fun _ hk => hk.2) (.int .i64 t221)) (fun _ hk => hk.2) (.bool (rdOf false y225 x46_2))) (fun _ h_ => h_.1))) hb); have n1_ := Aside0.mk (Kd.R_below (by (with_reducible repeat (first | apply Kd.R_alloc | apply Kd.R_drewN | apply Kd.R_drew)); exact (Kd.R_mono (Kd.R_far (p := ⟨gb229, 3, none⟩) (Kd.R_far (p := ⟨gb229, 2, none⟩) (Kd.R_far (p := ⟨gb229, 1, none⟩) (Kd.R_far (p := ⟨gb229, 0, none⟩) (Kd.R_types HO_2.out BK229.out (by decide)) (fun _ hk => hk.2) (.int .i64 x37_1)) (fun _ hk => hk.2) (.int .i64 t220)) (fun _ hk => hk.2) (.int .i64 t221)) (fun _ hk => hk.2) (.bool (rdOf false y225 x46_2))) (fun _ h_ => h_.1))) hb); have n2_ := Aside0.mk (Kd.R_below (by (with_reducible repeat (first | apply Kd.R_alloc | apply Kd.R_drewN | apply Kd.R_drew)); exact (Kd.R_mono (Kd.R_far (p := ⟨gb229, 3, none⟩) (Kd.R_far (p := ⟨gb229, 2, none⟩) (Kd.R_far (p := ⟨gb229, 1, none⟩) (Kd.R_far (p := ⟨gb229, 0, none⟩) (Kd.R_mono HO_3.out (fun k_ hk => (⟨hk, hk.2⟩ : _ ∧ k_ ≠ gb229))) (fun _ hk => hk.2) (.int .i64 x37_1)) (fun _ hk => hk.2) (.int .i64 t220)) (fun _ hk => hk.2) (.int .i64 t221)) (fun _ hk => hk.2) (.bool (rdOf false y225 x46_2))) (fun _ h_ => h_.1))) hb); have n3_ := Aside0.mk (Kd.R_below (by (with_reducible repeat (first | apply Kd.R_alloc | apply Kd.R_drewN | apply Kd.R_drew)); exact (Kd.R_mono (Kd.R_far (p := ⟨gb229, 3, none⟩) (Kd.R_far (p := ⟨gb229, 2, none⟩) (Kd.R_far (p := ⟨gb229, 1, none⟩) (Kd.R_far (p := ⟨gb229, 0, none⟩) (Kd.R_types HO_44.out BK229.out (by decide)) (fun _ hk => hk.2) (.int .i64 x37_1)) (fun _ hk => hk.2) (.int .i64 t220)) (fun _ hk => hk.2) (.int .i64 t221)) (fun _ hk => hk.2) (.bool (rdOf false y225 x46_2))) (fun _ h_ => h_.1))) hb); have n4_ := Aside0.mk (blk_below (g := gb229) (o := .cells #[.int .i64 x37_1, .int .i64 t220, .int .i64 t221, .bool (rdOf false y225 x46_2)] 66 (0, 0)) (by (with_reducible repeat (first | refine blk_drewN ?_ _ | refine blk_drew ?_ | refine blk_alloc ?_ _)); refine blk_put (cs := #[.int .i64 x37_1, .int .i64 t220, .int .i64 t221, .bool false]) ?_ 3 _ rfl; (with_reducible repeat (first | refine blk_drewN ?_ _ | refine blk_drew ?_ | refine blk_alloc ?_ _)); refine blk_put (cs := #[.int .i64 x37_1, .int .i64 t220, .int .i64 0, .bool false]) ?_ 2 _ rfl; (with_reducible repeat (first | refine blk_drewN ?_ _ | refine blk_drew ?_ | refine blk_alloc ?_ _)); refine blk_put (cs := #[.int .i64 x37_1, .int .i64 0, .int .i64 0, .bool false]) ?_ 1 _ rfl; (with_reducible repeat (first | refine blk_drewN ?_ _ | refine blk_drew ?_ | refine blk_alloc ?_ _)); refine blk_put (cs := #[.int .i64 0, .int .i64 0, .int .i64 0, .bool false]) ?_ 0 _ rfl; (with_reducible repeat (first | refine blk_drewN ?_ _ | refine blk_drew ?_ | refine blk_alloc ?_ _)); exact BK229.out) hb); have n5_ := Aside0.mk (Kept.below (S := (fun k_ => P0_ k_ ∨ P2_ k_ ∨ P3_ k_)) (by repeat (first | (with_reducible first | exact HK.out | apply Kept.alloc | apply Kept.drewN | apply Kept.drew | refine Kept.setCell ?_ (.inr GW229.out) _) | exact HK.out)) hb); have n6_ := Aside0.mk (below_step (by repeat (first | (with_reducible first | exact HB.out | apply below_alloc | apply pw_below_drewN | apply below_drew1 | refine below_set ?_ GE229.out) | exact HB.out | exact Below.refl _ _)) hb); clear HO_0; clear HO_2; clear HO_3; clear HO_44; clear BK229; clear HK; clear HB; have HO_0 := n0_; have HO_2 := n1_; have HO_3 := n2_; have HO_44 := n3_; have BK229 := n4_; have HK := n5_; have HB := n6_; clear n0_ n1_ n2_ n3_ n4_ n5_ n6_; (try clear hb); (try clear hb2); (try clear hk); (try clear hi); have hcz47_0 : w46.cell? ⟨gb229, 0, none⟩ = some (.int .i64 x37_1) := (blk_cell BK229.out 0).trans rfl; have hcz47_1 : w46.cell? ⟨gb229, 1, none⟩ = some (.int .i64 t220) := (blk_cell BK229.out 1).trans rfl; have hcz47_2 : w46.cell? ⟨gb229, 2, none⟩ = some (.int .i64 t221) := (blk_cell BK229.out 2).trans rfl; have hcz47_3 : w46.cell? ⟨gb229, 3, none⟩ = some (.bool (rdOf false y225 x46_2)) := (blk_cell BK229.out 3).trans rfl; have hfz47_0 := blk_frozen BK229.out 0; have hfz47_1 := blk_frozen BK229.out 1; have hfz47_2 := blk_frozen BK229.out 2; have hfz47_3 := blk_frozen BK229.out 3) | ((with_reducible refine gate_callee (f := 58) rfl ?_); refine goesL_ (some 64) rfl rfl Try.func58 (by kernel_rfl) rfl #[.slice Ao7 x0_2.length co7, .slice A1 l1.length c1, .agg #[.int .i64 x37_1, .int .i64 t220, .int .i64 t221, .bool (rdOf false y225 x46_2)], .int .i64 x37_1] rfl (by (try simp only [List.map_toArray, List.map_cons, List.map_nil]); first | done | rfl | (simp only [List.length_drop, List.length_take]; rfl)) ?_; (with_reducible refine (impl_mark.calls k2 ?pS3_ (.slice Ao7 x0_2.length co7) x0_2 _ _ l1 x37_1 t220 t221 (rdOf false y225 x46_2) x37_1 t231 w0 _ ?side1 ?side2 ?side3 ?side4 A23.out).mono ?_); (case side1 => repeat (first | (with_reducible first | exact HB.out | apply below_alloc | apply pw_below_drewN | apply below_drew1 | refine below_set ?_ GE229.out) | exact HB.out | exact Below.refl _ _)); (case side2 => exact Kd.S_bound HO_0.out); (case side3 => exact Kd.C_kept_call HR1.out (by repeat (first | (with_reducible first | exact HK.out | apply Kept.alloc | apply Kept.drewN | apply Kept.drew | refine Kept.setCell ?_ (.inr GW229.out) _) | exact HK.out)) (fun k_ hs_ => (fun e_ => e_.1) hs_)); (case side4 => exact HC1.out); rintro e w48 ⟨rfl, hy0, hb, hkp⟩; refine ⟨_, rfl, ?_⟩; have n0_ := Aside0.mk (Kd.S_mono (ok' := (fun k_ => ((P0_ k_ ∨ P2_ k_ ∨ P3_ k_) ∨ w.heap.size ≤ k_))) hy0 (fun k_ h_ => Or.elim h_ (fun h_ => (fun e_ => e_.1) h_) (fun h_ => .inr (Nat.le_trans (show Kept w _ (fun k_ => P0_ k_ ∨ P2_ k_ ∨ P3_ k_) from by repeat (first | (with_reducible first | exact HK.out | apply Kept.alloc | apply Kept.drewN | apply Kept.drew | refine Kept.setCell ?_ (.inr GW229.out) _) | exact HK.out)).1 h_)))); have n1_ := Aside0.mk (Kd.R_mono (ok' := fun k_ => ((P0_ k_ ∨ P2_ k_ ∨ P3_ k_) ∨ w.heap.size ≤ k_) ∧ some k_ ≠ (.slice (some ad228) y225.length co17 : Value).ownBlock) (Kd.R_keptB (Kd.R_bound (HO_2.out)) hkp (fun k_ hk_ hs_ => (fun e_ => types_no (by decide) hk_.2.2.2 e_.2.2.2) hs_)) (fun k_ hk_ => ⟨hk_.1.1.1, hk_.1.1.2⟩)); have n2_ := Aside0.mk (Kd.R_mono (ok' := fun k_ => ((P0_ k_ ∨ P2_ k_ ∨ P3_ k_) ∨ w.heap.size ≤ k_) ∧ k_ ≠ gb229) (Kd.R_keptB (Kd.R_bound (HO_3.out)) hkp (fun k_ hk_ hs_ => (fun e_ => types_no (by decide) hk_.2.2.2 e_.2.2.2) hs_)) (fun k_ hk_ => ⟨hk_.1.1.1, hk_.1.1.2⟩)); have n3_ := Aside0.mk (Kd.R_mono (ok' := fun k_ => ((P0_ k_ ∨ P2_ k_ ∨ P3_ k_) ∨ w.heap.size ≤ k_) ∧ some k_ ≠ (.slice (some ⟨gh224, 0, none⟩) x2_2.length co14 : Value).ownBlock) (Kd.R_keptB (Kd.R_bound (HO_44.out)) hkp (fun k_ hk_ hs_ => (fun e_ => types_no (by decide) hk_.2.2.2 e_.2.2.2) hs_)) (fun k_ hk_ => ⟨hk_.1.1.1, hk_.1.1.2⟩)); have n4_ := Aside0.mk (blk_kept (by (with_reducible repeat (first | refine blk_drewN ?_ _ | refine blk_drew ?_ | refine blk_alloc ?_ _)); exact BK229.out) hkp (fun hs_ => (fun e_ => box_noS (by (with_reducible repeat (first | refine blk_drewN ?_ _ | refine blk_drew ?_ | refine blk_alloc ?_ _)); exact BK229.out) (by decide) e_.2.2.2) hs_)); have n5_ := Aside0.mk (Kept.then_ (S := (fun k_ => P0_ k_ ∨ P2_ k_ ∨ P3_ k_)) (by repeat (first | (with_reducible first | exact HK.out | apply Kept.alloc | apply Kept.drewN | apply Kept.drew | refine Kept.setCell ?_ (.inr GW229.out) _) | exact HK.out)) hkp (fun k_ hs_ => (fun e_ => e_.1) hs_)); have n6_ := Aside0.mk (hb); clear HO_0; clear HO_2; clear HO_3; clear HO_44; clear BK229; clear HK; clear HB; have HO_0 := n0_; have HO_2 := n1_; have HO_3 := n2_; have HO_44 := n3_; have BK229 := n4_; have HK := n5_; have HB := n6_; clear n0_ n1_ n2_ n3_ n4_ n5_ n6_; (try clear hb); (try clear hkp); (try clear hy0); have hcz49_0 : w48.cell? ⟨gb229, 0, none⟩ = some (.int .i64 x37_1) := (blk_cell BK229.out 0).trans rfl; have hcz49_1 : w48.cell? ⟨gb229, 1, none⟩ = some (.int .i64 t220) := (blk_cell BK229.out 1).trans rfl; have hcz49_2 : w48.cell? ⟨gb229, 2, none⟩ = some (.int .i64 t221) := (blk_cell BK229.out 2).trans rfl; have hcz49_3 : w48.cell? ⟨gb229, 3, none⟩ = some (.bool (rdOf false y225 x46_2)) := (blk_cell BK229.out 3).trans rfl; have hfz49_0 := blk_frozen BK229.out 0; have hfz49_1 := blk_frozen BK229.out 1; have hfz49_2 := blk_frozen BK229.out 2; have hfz49_3 := blk_frozen BK229.out 3))
                  refine start_ (n := 9) (S := fun w' => w'.cell? ⟨gb229, 0, none⟩ = some (.int .i64 x37_1) ∧ w'.cell? ⟨gb229, 1, none⟩ = some (.int .i64 t220) ∧ w'.cell? ⟨gb229, 2, none⟩ = some (.int .i64 t221) ∧ w'.cell? ⟨gb229, 3, none⟩ = some (.bool (rdOf false y225 x46_2))) (ds := []) #[false, false, false, false, false, false, false, false, false] (by kernel_rfl) rfl rfl ⟨(blk_cell BK229.out 0).trans rfl, (blk_cell BK229.out 1).trans rfl, (blk_cell BK229.out 2).trans rfl, (blk_cell BK229.out 3).trans rfl⟩ (fun hHeld => ?_)
                  have n0_ := Aside0.mk (Kd.S_drew HO_0.out)
                  have n1_ := Aside0.mk (Kd.R_drew HO_2.out)
                  have n2_ := Aside0.mk (Kd.R_drew HO_3.out)
                  have n3_ := Aside0.mk (Kd.R_drew HO_44.out)
                  have n4_ := Aside0.mk (blk_drew BK229.out)
                  have n5_ := Aside0.mk (below_drew1 HB.out)
                  have n6_ := Aside0.mk (Kept.drew HK.out)
                  clear HO_0
                  clear HO_2
                  clear HO_3
                  clear HO_44
                  clear BK229
                  clear HB
                  clear HK
                  have HO_0 := n0_
                  have HO_2 := n1_
                  have HO_3 := n2_
                  have HO_44 := n3_
                  have BK229 := n4_
                  have HB := n5_
                  have HK := n6_
                  clear n0_ n1_ n2_ n3_ n4_ n5_ n6_
                  generalize w48.drew = w48d at HO_0 HO_2 HO_3 HO_44 BK229 HB HK hHeld ⊢
                  have p26 : 0 ≤ (x37_1 : Int) := of_decide_eq_true (by first | (with_reducible assumption) | assumption)
                  have q26 : (x37_1 : Int) < ((x2_2.length : Int) : Int) := of_decide_eq_true (by first | (with_reducible assumption) | assumption)
                  obtain ⟨go26, co26, eo26, gb26, gl26, cl26, HG26⟩ := Kd.R_form HO_2.out (by omega)
                  (first | cases eo26 | (injection eo26 with ea_ en_ ec_; (first | subst ea_ | (injection ea_ with ea_; subst ea_)); subst ec_; clear en_))
                  have GB26 := Aside0.mk gb26
                  have GG26 := Aside0.mk HG26
                  clear gb26 gl26 HG26
                  have HMgo26 := Aside0.mk (show ((P0_ gh224 ∨ P2_ gh224 ∨ P3_ gh224) ∨ w.heap.size ≤ gh224) from (HO_2.out.1 _ rfl).1)
                  obtain ⟨hx26_0, hf26_0⟩ := Kd.R_celln false HO_2.out (x37_1 : Int) p26 q26
                  replace p26 := eq_true p26
                  replace q26 := eq_true q26
                  obtain ⟨hy50_, hz50_⟩ := Kd.R_celln false HO_2.out (x37_1 : Int) (of_decide_eq_true (by first | (with_reducible assumption) | assumption)) (of_decide_eq_true (by first | (with_reducible assumption) | assumption))
                  have HP50 := Kd.R_putg HO_2.out (x37_1 : Int) true
                  have p28 : 0 ≤ (x37_1 : Int) := of_decide_eq_true (by first | (with_reducible assumption) | assumption)
                  have q28 : (x37_1 : Int) < ((x3_2.length : Int) : Int) := of_decide_eq_true (by first | (with_reducible assumption) | assumption)
                  obtain ⟨go28, co28, eo28, gb28, gl28, cl28, HG28⟩ := Kd.R_form HO_3.out (by omega)
                  (first | cases eo28 | (injection eo28 with ea_ en_ ec_; (first | subst ea_ | (injection ea_ with ea_; subst ea_)); subst ec_; clear en_))
                  have GB28 := Aside0.mk gb28
                  have GG28 := Aside0.mk HG28
                  clear gb28 gl28 HG28
                  have HMgo28 := Aside0.mk (show ((P0_ go28 ∨ P2_ go28 ∨ P3_ go28) ∨ w.heap.size ≤ go28) from (HO_3.out.1 _ rfl).1)
                  replace p28 := eq_true p28
                  replace q28 := eq_true q28
                  refine pure_ (i := 0) (N := some 65) (v := ?_) (a' := ?_) #[true, false, false, false, false, false, false, false, false] rfl rfl (by kernel_rfl) (fun _ _ _ h => h) (Or.inl ⟨by rfl, ?_⟩) ?_ ?_
                  rotate_left
                  ·intro w'
                   go_simp
                   with_reducible rfl
                  rotate_left
                  ·simp only [Act.put, List.setIfInBounds_toArray, List.set_cons_zero, List.set_cons_succ, i64_w, i32_w]
                   rfl
                  refine pure_ (i := 1) (N := some 66) (v := ?_) (a' := ?_) #[true, true, false, false, false, false, false, false, false] rfl rfl (by kernel_rfl) (fun _ _ _ h => h) (Or.inl ⟨by rfl, ?_⟩) ?_ ?_
                  rotate_left
                  ·intro w'
                   go_simp
                   with_reducible rfl
                  rotate_left
                  ·simp only [Act.put, List.setIfInBounds_toArray, List.set_cons_zero, List.set_cons_succ, i64_w, i32_w]
                   rfl
                  refine pure_ (i := 2) (N := some 67) (v := ?_) (a' := ?_) #[true, true, true, false, false, false, false, false, false] rfl rfl (by kernel_rfl) (fun _ _ _ h => h) (Or.inl ⟨by rfl, ?_⟩) ?_ ?_
                  rotate_left
                  ·intro w'
                   go_simp
                   with_reducible rfl
                  rotate_left
                  ·simp only [Act.put, List.setIfInBounds_toArray, List.set_cons_zero, List.set_cons_succ, i64_w, i32_w]
                   rfl
                  refine pure_ (i := 3) (N := some 68) (v := ?_) (a' := ?_) #[true, true, true, true, false, false, false, false, false] rfl rfl (by kernel_rfl) (fun _ _ _ h => h) (Or.inl ⟨by rfl, ?_⟩) ?_ ?_
                  rotate_left
                  ·intro w'
                   go_simp
                   with_reducible rfl
                  rotate_left
                  ·simp only [Act.put, List.setIfInBounds_toArray, List.set_cons_zero, List.set_cons_succ, i64_w, i32_w]
                   rfl
                  refine take_ (i := 4) (N := some 69) (v := ?_) (a' := ?_) #[true, true, true, true, true, false, false, false, false] rfl rfl (by kernel_rfl) (fun _ _ _ h => h) (Or.inl ⟨by rfl, ?_⟩) hHeld ?_ ?_
                  rotate_left
                  ·rintro w' ⟨s0, s1, s2, s3⟩
                   go_simp
                   with_reducible rfl
                  rotate_left
                  ·simp only [Act.put, List.setIfInBounds_toArray, List.set_cons_zero, List.set_cons_succ, i64_w, i32_w]
                   rfl
                  refine pure_ (i := 5) (N := some 70) (v := ?_) (a' := ?_) #[true, true, true, true, true, true, false, false, false] rfl rfl (by kernel_rfl) (fun _ _ _ h => h) (Or.inl ⟨by rfl, ?_⟩) ?_ ?_
                  rotate_left
                  ·intro w'
                   go_simp
                   with_reducible rfl
                  rotate_left
                  ·simp only [Act.put, List.setIfInBounds_toArray, List.set_cons_zero, List.set_cons_succ, i64_w, i32_w]
                   rfl
                  refine one_ (i := 6) (N := none) #[true, true, true, true, true, true, true, false, false] rfl rfl (by kernel_rfl) (by decide) (fun K hK => ?_)
                  refine skip_ (w1 := (w48d.setCell ⟨gh224, (x37_1 : Int).toNat, none⟩ (.bool true))) (by rfl) (by rfl) ?hr6_ ?_
                  (case hr6_ => first | (go_simp; done) | (go_simp; rfl))
                  obtain ⟨w51, hw⟩ : ∃ w_ : World, w_ = (w48d.setCell ⟨gh224, (x37_1 : Int).toNat, none⟩ (.bool true)) := ⟨_, rfl⟩
                  rw [← hw]
                  have hg : w48d.grownBy w51 (some gh224) := (by rw [hw]; exact HP50.2)
                  have hp_ : Kd.R Kd.bool 4 w51 w0.heap.size (fun k_ => ((P0_ k_ ∨ P2_ k_ ∨ P3_ k_) ∨ w.heap.size ≤ k_) ∧ some k_ ≠ (.slice (some ad228) y225.length co17 : Value).ownBlock) (.slice (some ⟨gh224, 0, none⟩) x2_2.length co14) y232 := (by rw [hw, Ny232.out]; first | exact HP50.1 | exact Kd.R_mono HP50.1 (fun _ hk => ⟨hk.2, hk.1⟩))
                  clear HP50
                  have n0_ := Aside0.mk (Kd.S_over' (v := (.slice (some ⟨gh224, 0, none⟩) x2_2.length co14)) (by (with_reducible repeat (first | apply Kd.S_alloc | apply Kd.S_drewN | apply Kd.S_drew)); exact HO_0.out) (Kd.R_typed HO_2.out) (by decide) hg)
                  have n1_ := Aside0.mk (hp_)
                  have n2_ := Aside0.mk (Kd.R_over' (v := (.slice (some ⟨gh224, 0, none⟩) x2_2.length co14)) (by (with_reducible repeat (first | apply Kd.R_alloc | apply Kd.R_drewN | apply Kd.R_drew)); exact HO_3.out) (Kd.R_typed HO_2.out) (by decide) hg)
                  have n3_ := Aside0.mk (Kd.R_after (v := (.slice (some ⟨gh224, 0, none⟩) x2_2.length co14)) (v1 := (.slice (some ⟨gh224, 0, none⟩) x2_2.length co14)) (ok := (fun k_ => ((P0_ k_ ∨ P2_ k_ ∨ P3_ k_) ∨ w.heap.size ≤ k_))) (by (with_reducible repeat (first | apply Kd.R_alloc | apply Kd.R_drewN | apply Kd.R_drew)); exact HO_44.out) hg (.inl rfl))
                  have n4_ := Aside0.mk (blk_grown (g := gb229) (o := .cells #[.int .i64 x37_1, .int .i64 t220, .int .i64 t221, .bool (rdOf false y225 x46_2)] 66 (0, 0)) (by (with_reducible repeat (first | refine blk_drewN ?_ _ | refine blk_drew ?_ | refine blk_alloc ?_ _)); exact BK229.out) hg (Kd.R_ne HO_2.out BK229.out (by decide)))
                  have n5_ := Aside0.mk ((by rw [hw]; exact below_set (HB.out) GB26.out : Below w0.heap.size w0 w51))
                  have n6_ := Aside0.mk (Kept.of_grown (S := (fun k_ => P0_ k_ ∨ P2_ k_ ∨ P3_ k_)) hg (by repeat (first | (with_reducible first | exact HK.out | apply Kept.alloc | apply Kept.drewN | apply Kept.drew | refine Kept.setCell ?_ (.inr GW229.out) _) | exact HK.out)) (fun k_ e_ => (HO_2.out.1 k_ e_).1))
                  clear HO_0
                  clear HO_2
                  clear HO_3
                  clear HO_44
                  clear BK229
                  clear HB
                  clear HK
                  have HO_0 := n0_
                  have HO_2 := n1_
                  have HO_3 := n2_
                  have HO_44 := n3_
                  have BK229 := n4_
                  have HB := n5_
                  have HK := n6_
                  clear n0_ n1_ n2_ n3_ n4_ n5_ n6_
                  clear hg hw hp_
                  replace p28 := of_eq_true p28
                  replace q28 := of_eq_true q28
                  obtain ⟨ce28, hcl28, hM28, hcc28, hfr28⟩ := Kd.R_elem HO_3.out z66 (x37_1 : Int) p28 q28
                  obtain rfl := k66_openM hM28
                  have hx28_0 : w51.cell? ⟨go28, (x37_1 : Int).toNat * 4, none⟩ = some (.int .i64 ((rd_T66 x3_2 x37_1).f0)) := hcc28 0 _ rfl
                  have hx28_1 : w51.cell? ⟨go28, (x37_1 : Int).toNat * 4 + 1, none⟩ = some (.int .i64 ((rd_T66 x3_2 x37_1).f1)) := hcc28 1 _ rfl
                  have hx28_2 : w51.cell? ⟨go28, (x37_1 : Int).toNat * 4 + 2, none⟩ = some (.int .i64 ((rd_T66 x3_2 x37_1).f2)) := hcc28 2 _ rfl
                  have hx28_3 : w51.cell? ⟨go28, (x37_1 : Int).toNat * 4 + 3, none⟩ = some (.bool ((rd_T66 x3_2 x37_1).f3)) := hcc28 3 _ rfl
                  have hf28_0 : w51.frozen? ⟨go28, (x37_1 : Int).toNat * 4, none⟩ = false := hfr28 0
                  have hf28_1 : w51.frozen? ⟨go28, (x37_1 : Int).toNat * 4 + 1, none⟩ = false := hfr28 1
                  have hf28_2 : w51.frozen? ⟨go28, (x37_1 : Int).toNat * 4 + 2, none⟩ = false := hfr28 2
                  have hf28_3 : w51.frozen? ⟨go28, (x37_1 : Int).toNat * 4 + 3, none⟩ = false := hfr28 3
                  (try clear hM28)
                  (try clear hfr28)
                  (try clear hcc28)
                  (try clear hcl28)
                  have HX52 := Aside0.mk (show Kd.R k66 66 w51 w0.heap.size (fun k_ => ((P0_ k_ ∨ P2_ k_ ∨ P3_ k_) ∨ w.heap.size ≤ k_) ∧ k_ ≠ gb229) (.slice (some ⟨go28, 0, none⟩) x3_2.length co28) x3_2 from (by (with_reducible repeat (first | apply Kd.R_alloc | apply Kd.R_drewN | apply Kd.R_drew)); exact HO_3.out))
                  obtain ⟨ce52, hcl52, hM52, hcc52, hfr52⟩ := Kd.R_elem HX52.out z66 (x37_1 : Int) (of_decide_eq_true (by first | (with_reducible assumption) | assumption)) (by have h_ : (x37_1 : Int) < ((x3_2.length : Int) : Int) := of_decide_eq_true (by first | (with_reducible assumption) | assumption); first | exact h_ | (have e_ := (Kd.R_reads' HO_3.out).1; omega) | simpa using h_)
                  obtain rfl := k66_openM hM52
                  have HP52 := Kd.R_seg HX52.out (x37_1 : Int) (of_decide_eq_true (by first | (with_reducible assumption) | assumption)) (by have h_ : (x37_1 : Int) < ((x3_2.length : Int) : Int) := of_decide_eq_true (by first | (with_reducible assumption) | assumption); first | exact h_ | (have e_ := (Kd.R_reads' HO_3.out).1; omega) | simpa using h_) (seg := [.int .i64 x37_1, .int .i64 t220, .int .i64 t221, .bool (rdOf false y225 x46_2)]) (j := 0) hcl52 hcc52 (show 4 ≤ 4 from by decide) (x' := (⟨x37_1, t220, t221, rdOf false y225 x46_2⟩ : S66)) (k66_mkM _ _ _ (⟨x37_1, t220, t221, rdOf false y225 x46_2⟩ : S66) ) (fun _ hk => hk)
                  have hx52_0 := hcc52 0 _ rfl
                  (try simp only [show (k66).sz = 4 from rfl, Nat.mul_one, Nat.add_zero] at hx52_0)
                  have hf52_0 := hfr52 0
                  (try simp only [show (k66).sz = 4 from rfl, Nat.mul_one, Nat.add_zero] at hf52_0)
                  have hx52_1 := hcc52 1 _ rfl
                  (try simp only [show (k66).sz = 4 from rfl, Nat.mul_one, Nat.add_zero] at hx52_1)
                  have hf52_1 := hfr52 1
                  (try simp only [show (k66).sz = 4 from rfl, Nat.mul_one, Nat.add_zero] at hf52_1)
                  have hx52_2 := hcc52 2 _ rfl
                  (try simp only [show (k66).sz = 4 from rfl, Nat.mul_one, Nat.add_zero] at hx52_2)
                  have hf52_2 := hfr52 2
                  (try simp only [show (k66).sz = 4 from rfl, Nat.mul_one, Nat.add_zero] at hf52_2)
                  have hx52_3 := hcc52 3 _ rfl
                  (try simp only [show (k66).sz = 4 from rfl, Nat.mul_one, Nat.add_zero] at hx52_3)
                  have hf52_3 := hfr52 3
                  (try simp only [show (k66).sz = 4 from rfl, Nat.mul_one, Nat.add_zero] at hf52_3)
                  clear hcl52 hcc52 hfr52 hM52
                  replace p28 := eq_true p28
                  replace q28 := eq_true q28
                  refine hK.out _ _ ⟨(blk_cell BK229.out 0).trans rfl, (blk_cell BK229.out 1).trans rfl, (blk_cell BK229.out 2).trans rfl, (blk_cell BK229.out 3).trans rfl⟩ (fun hHeld => ?_)
                  clear hK K
                  refine pure_ (i := 7) (N := some 71) (v := ?_) (a' := ?_) #[true, true, true, true, true, true, true, true, false] rfl rfl (by kernel_rfl) (fun _ _ _ h => h) (Or.inl ⟨by rfl, ?_⟩) ?_ ?_
                  rotate_left
                  ·intro w'
                   go_simp
                   with_reducible rfl
                  rotate_left
                  ·simp only [Act.put, List.setIfInBounds_toArray, List.set_cons_zero, List.set_cons_succ, i64_w, i32_w]
                   rfl
                  refine one_ (i := 8) (N := none) #[true, true, true, true, true, true, true, true, true] rfl rfl (by kernel_rfl) (by decide) (fun K hK => ?_)
                  refine skip_ (w1 := ((((w51.setCell ⟨go28, (x37_1 : Int).toNat * 4, none⟩ (.int .i64 x37_1)).setCell ⟨go28, (x37_1 : Int).toNat * 4 + 1, none⟩ (.int .i64 t220)).setCell ⟨go28, (x37_1 : Int).toNat * 4 + 2, none⟩ (.int .i64 t221)).setCell ⟨go28, (x37_1 : Int).toNat * 4 + 3, none⟩ (.bool (rdOf false y225 x46_2)))) (by rfl) (by rfl) ?hr8_ ?_
                  (case hr8_ => first | (go_simp; done) | (go_simp; rfl))
                  obtain ⟨w53, hw⟩ : ∃ w_ : World, w_ = ((((w51.setCell ⟨go28, (x37_1 : Int).toNat * 4, none⟩ (.int .i64 x37_1)).setCell ⟨go28, (x37_1 : Int).toNat * 4 + 1, none⟩ (.int .i64 t220)).setCell ⟨go28, (x37_1 : Int).toNat * 4 + 2, none⟩ (.int .i64 t221)).setCell ⟨go28, (x37_1 : Int).toNat * 4 + 3, none⟩ (.bool (rdOf false y225 x46_2))) := ⟨_, rfl⟩
                  rw [← hw]
                  have hg : w51.grownBy w53 (some go28) := (by rw [hw]; exact HP52.2)
                  have hp_ : Kd.R k66 66 w53 w0.heap.size (fun k_ => ((P0_ k_ ∨ P2_ k_ ∨ P3_ k_) ∨ w.heap.size ≤ k_) ∧ k_ ≠ gb229) (.slice (some ⟨go28, 0, none⟩) x3_2.length co28) y233 := (by rw [hw, Ny233.out]; first | exact HP52.1 | exact Kd.R_mono HP52.1 (fun _ hk => ⟨hk.2, hk.1⟩))
                  clear HP52
                  have n0_ := Aside0.mk (Kd.S_over' (v := (.slice (some ⟨go28, 0, none⟩) x3_2.length co28)) (by (with_reducible repeat (first | apply Kd.S_alloc | apply Kd.S_drewN | apply Kd.S_drew)); exact HO_0.out) (Kd.R_typed HO_3.out) (by decide) hg)
                  have n1_ := Aside0.mk (Kd.R_over' (v := (.slice (some ⟨go28, 0, none⟩) x3_2.length co28)) (by (with_reducible repeat (first | apply Kd.R_alloc | apply Kd.R_drewN | apply Kd.R_drew)); exact HO_2.out) (Kd.R_typed HO_3.out) (by decide) hg)
                  have n2_ := Aside0.mk (hp_)
                  have n3_ := Aside0.mk (Kd.R_over' (v := (.slice (some ⟨go28, 0, none⟩) x3_2.length co28)) (by (with_reducible repeat (first | apply Kd.R_alloc | apply Kd.R_drewN | apply Kd.R_drew)); exact HO_44.out) (Kd.R_typed HO_3.out) (by decide) hg)
                  have n4_ := Aside0.mk (blk_grown (g := gb229) (o := .cells #[.int .i64 x37_1, .int .i64 t220, .int .i64 t221, .bool (rdOf false y225 x46_2)] 66 (0, 0)) (by (with_reducible repeat (first | refine blk_drewN ?_ _ | refine blk_drew ?_ | refine blk_alloc ?_ _)); exact BK229.out) hg (Kd.R_away HO_3.out (fun _ hk => hk.2)))
                  have n5_ := Aside0.mk ((by rw [hw]; exact below_set (below_set (below_set (below_set (HB.out) GB28.out) GB28.out) GB28.out) GB28.out : Below w0.heap.size w0 w53))
                  have n6_ := Aside0.mk (Kept.of_grown (S := (fun k_ => P0_ k_ ∨ P2_ k_ ∨ P3_ k_)) hg (by repeat (first | (with_reducible first | exact HK.out | apply Kept.alloc | apply Kept.drewN | apply Kept.drew | refine Kept.setCell ?_ (.inr GW229.out) _) | exact HK.out)) (fun k_ e_ => (HO_3.out.1 k_ e_).1))
                  clear HO_0
                  clear HO_2
                  clear HO_3
                  clear HO_44
                  clear BK229
                  clear HB
                  clear HK
                  have HO_0 := n0_
                  have HO_2 := n1_
                  have HO_3 := n2_
                  have HO_44 := n3_
                  have BK229 := n4_
                  have HB := n5_
                  have HK := n6_
                  clear n0_ n1_ n2_ n3_ n4_ n5_ n6_
                  clear hg hw hp_
                  refine hK.out _ _ ⟨(blk_cell BK229.out 0).trans rfl, (blk_cell BK229.out 1).trans rfl, (blk_cell BK229.out 2).trans rfl, (blk_cell BK229.out 3).trans rfl⟩ (fun hHeld => ?_)
                  clear hK K
                  refine done_ (by kernel_rfl) ?_
                  (try simp only [hl0_1, hl0_2, hl2_2])
                  go_wp2_with (first | ((with_reducible refine gate_callee (f := 45) rfl ?_); refine goesL_ (some 76) rfl rfl Try.func45 (by kernel_rfl) rfl #[.slice Ao7 x0_2.length co7, .slice A1 l1.length c1, .slice (some ⟨gh224, 0, none⟩) x2_2.length co14, .slice (some ⟨go28, 0, none⟩) x3_2.length co28] rfl (by (try simp only [List.map_toArray, List.map_cons, List.map_nil]); first | done | rfl | (simp only [List.length_drop, List.length_take]; rfl)) ?_; (with_reducible refine (ih k2 (by have := HK1.out; have := HK2.out; omega) ?pS4_ (.slice Ao7 x0_2.length co7) t231 _ _ l1 (fun k_ => some k_ = (.slice (some ⟨gh224, 0, none⟩) x2_2.length co14 : Value).ownBlock) (.slice (some ⟨gh224, 0, none⟩) x2_2.length co14) y232 (fun k_ => some k_ = (.slice (some ⟨go28, 0, none⟩) x3_2.length co28 : Value).ownBlock) (.slice (some ⟨go28, 0, none⟩) x3_2.length co28) y233 false t235 t236 t237 w0 _ ?side1 ?side2 ?side3 ?side4 ?side5 ?side6 A29.out).mono ?_); (case side1 => repeat (first | (with_reducible first | exact HB.out | apply below_alloc | apply pw_below_drewN | apply below_drew1 | refine below_set ?_ GE229.out) | exact HB.out | exact Below.refl _ _)); (case side2 => exact Kd.S_bound HO_0.out); (case side3 => exact Kd.C_kept_call HR1.out (by repeat (first | (with_reducible first | exact HK.out | apply Kept.alloc | apply Kept.drewN | apply Kept.drew | refine Kept.setCell ?_ (.inr GW229.out) _) | exact HK.out)) (fun k_ hs_ => Or.elim hs_ (fun e_ => (fun e_ => e_.1) e_) (fun e_ => Or.elim e_ (fun e_ => (fun e_ => (HO_2.out.1 k_ e_.symm).1) e_) (fun e_ => (fun e_ => (HO_3.out.1 k_ e_.symm).1) e_)))); (case side4 => exact HC1.out); (case side5 => exact Kd.R_tight rfl HO_2.out); (case side6 => exact Kd.R_tight rfl HO_3.out); rintro e w54 ⟨rfl, hy0, hy1, hy2, hb, hkp⟩; refine ⟨_, rfl, ?_⟩; have n0_ := Aside0.mk (Kd.S_mono (ok' := (fun k_ => ((P0_ k_ ∨ P2_ k_ ∨ P3_ k_) ∨ w.heap.size ≤ k_))) hy0 (fun k_ h_ => Or.elim h_ (fun h_ => Or.elim h_ (fun e_ => (fun e_ => e_.1) e_) (fun e_ => Or.elim e_ (fun e_ => (fun e_ => (HO_2.out.1 k_ e_.symm).1) e_) (fun e_ => (fun e_ => (HO_3.out.1 k_ e_.symm).1) e_))) (fun h_ => .inr (Nat.le_trans (show Kept w _ (fun k_ => P0_ k_ ∨ P2_ k_ ∨ P3_ k_) from by repeat (first | (with_reducible first | exact HK.out | apply Kept.alloc | apply Kept.drewN | apply Kept.drew | refine Kept.setCell ?_ (.inr GW229.out) _) | exact HK.out)).1 h_)))); have n1_ := Aside0.mk (Kd.R_reok rfl hy1 (fun k_ e_ => HO_2.out.1 k_ e_)); have n2_ := Aside0.mk (Kd.R_reok rfl hy2 (fun k_ e_ => HO_3.out.1 k_ e_)); have n3_ := Aside0.mk (Kd.R_mono (ok' := fun k_ => ((P0_ k_ ∨ P2_ k_ ∨ P3_ k_) ∨ w.heap.size ≤ k_) ∧ some k_ ≠ (.slice (some ⟨gh224, 0, none⟩) x2_2.length co14 : Value).ownBlock) (Kd.R_keptB (Kd.R_bound ((Kd.R_apart' HO_44.out (Kd.R_typed HO_3.out) (by decide)))) hkp (fun k_ hk_ hs_ => Or.elim hs_ (fun e_ => (fun e_ => types_no (by decide) hk_.2.2.2 e_.2.2.2) e_) (fun e_ => Or.elim e_ (fun e_ => (hk_.1.1.2) e_) (fun e_ => (hk_.1.2) e_)))) (fun k_ hk_ => ⟨hk_.1.1.1.1, hk_.1.1.1.2⟩)); have n4_ := Aside0.mk (blk_kept (by (with_reducible repeat (first | refine blk_drewN ?_ _ | refine blk_drew ?_ | refine blk_alloc ?_ _)); exact BK229.out) hkp (fun hs_ => Or.elim hs_ (fun e_ => (fun e_ => box_noS (by (with_reducible repeat (first | refine blk_drewN ?_ _ | refine blk_drew ?_ | refine blk_alloc ?_ _)); exact BK229.out) (by decide) e_.2.2.2) e_) (fun e_ => Or.elim e_ (fun e_ => (fun e_ => (Kd.R_ne HO_2.out BK229.out (by decide)) e_) e_) (fun e_ => (fun e_ => (Kd.R_away HO_3.out (fun _ hk => hk.2)) e_) e_)))); have n5_ := Aside0.mk (Kept.then_ (S := (fun k_ => P0_ k_ ∨ P2_ k_ ∨ P3_ k_)) (by repeat (first | (with_reducible first | exact HK.out | apply Kept.alloc | apply Kept.drewN | apply Kept.drew | refine Kept.setCell ?_ (.inr GW229.out) _) | exact HK.out)) hkp (fun k_ hs_ => Or.elim hs_ (fun e_ => (fun e_ => e_.1) e_) (fun e_ => Or.elim e_ (fun e_ => (fun e_ => (HO_2.out.1 k_ e_.symm).1) e_) (fun e_ => (fun e_ => (HO_3.out.1 k_ e_.symm).1) e_)))); have n6_ := Aside0.mk (hb); clear HO_0; clear HO_2; clear HO_3; clear HO_44; clear BK229; clear HK; clear HB; have HO_0 := n0_; have HO_2 := n1_; have HO_3 := n2_; have HO_44 := n3_; have BK229 := n4_; have HK := n5_; have HB := n6_; clear n0_ n1_ n2_ n3_ n4_ n5_ n6_; (try clear hb); (try clear hkp); (try clear hy0); (try clear hy1); (try clear hy2); have hcz55_0 : w54.cell? ⟨gb229, 0, none⟩ = some (.int .i64 x37_1) := (blk_cell BK229.out 0).trans rfl; have hcz55_1 : w54.cell? ⟨gb229, 1, none⟩ = some (.int .i64 t220) := (blk_cell BK229.out 1).trans rfl; have hcz55_2 : w54.cell? ⟨gb229, 2, none⟩ = some (.int .i64 t221) := (blk_cell BK229.out 2).trans rfl; have hcz55_3 : w54.cell? ⟨gb229, 3, none⟩ = some (.bool (rdOf false y225 x46_2)) := (blk_cell BK229.out 3).trans rfl; have hfz55_0 := blk_frozen BK229.out 0; have hfz55_1 := blk_frozen BK229.out 1; have hfz55_2 := blk_frozen BK229.out 2; have hfz55_3 := blk_frozen BK229.out 3) | ((with_reducible refine gate_callee (f := 58) rfl ?_); refine goesL_ (some 80) rfl rfl Try.func58 (by kernel_rfl) rfl #[.slice Ao7 x0_2.length co7, .slice A1 l1.length c1, .agg #[.int .i64 x37_1, .int .i64 t220, .int .i64 t221, .bool (rdOf false y225 x46_2)], .int .i64 (-1)] rfl (by (try simp only [List.map_toArray, List.map_cons, List.map_nil]); first | done | rfl | (simp only [List.length_drop, List.length_take]; rfl)) ?_; (with_reducible refine (impl_mark.calls k2 ?pS5_ (.slice Ao7 x0_2.length co7) t235 _ _ l1 x37_1 t220 t221 (rdOf false y225 x46_2) (-1) t238 w0 _ ?side1 ?side2 ?side3 ?side4 A42.out).mono ?_); (case side1 => repeat (first | (with_reducible first | exact HB.out | apply below_alloc | apply pw_below_drewN | apply below_drew1 | refine below_set ?_ GE229.out) | exact HB.out | exact Below.refl _ _)); (case side2 => exact Kd.S_bound HO_0.out); (case side3 => exact Kd.C_kept_call HR1.out (by repeat (first | (with_reducible first | exact HK.out | apply Kept.alloc | apply Kept.drewN | apply Kept.drew | refine Kept.setCell ?_ (.inr GW229.out) _) | exact HK.out)) (fun k_ hs_ => (fun e_ => e_.1) hs_)); (case side4 => exact HC1.out); rintro e w56 ⟨rfl, hy0, hb, hkp⟩; refine ⟨_, rfl, ?_⟩; have n0_ := Aside0.mk (Kd.S_mono (ok' := (fun k_ => ((P0_ k_ ∨ P2_ k_ ∨ P3_ k_) ∨ w.heap.size ≤ k_))) hy0 (fun k_ h_ => Or.elim h_ (fun h_ => (fun e_ => e_.1) h_) (fun h_ => .inr (Nat.le_trans (show Kept w _ (fun k_ => P0_ k_ ∨ P2_ k_ ∨ P3_ k_) from by repeat (first | (with_reducible first | exact HK.out | apply Kept.alloc | apply Kept.drewN | apply Kept.drew | refine Kept.setCell ?_ (.inr GW229.out) _) | exact HK.out)).1 h_)))); have n1_ := Aside0.mk (Kd.R_mono (ok' := fun k_ => ((P0_ k_ ∨ P2_ k_ ∨ P3_ k_) ∨ w.heap.size ≤ k_) ∧ some k_ ≠ (.slice (some ad228) y225.length co17 : Value).ownBlock) (Kd.R_keptB (Kd.R_bound (HO_2.out)) hkp (fun k_ hk_ hs_ => (fun e_ => types_no (by decide) hk_.2.2.2 e_.2.2.2) hs_)) (fun k_ hk_ => ⟨hk_.1.1.1, hk_.1.1.2⟩)); have n2_ := Aside0.mk (Kd.R_mono (ok' := fun k_ => ((P0_ k_ ∨ P2_ k_ ∨ P3_ k_) ∨ w.heap.size ≤ k_) ∧ k_ ≠ gb229) (Kd.R_keptB (Kd.R_bound (HO_3.out)) hkp (fun k_ hk_ hs_ => (fun e_ => types_no (by decide) hk_.2.2.2 e_.2.2.2) hs_)) (fun k_ hk_ => ⟨hk_.1.1.1, hk_.1.1.2⟩)); have n3_ := Aside0.mk (Kd.R_mono (ok' := fun k_ => ((P0_ k_ ∨ P2_ k_ ∨ P3_ k_) ∨ w.heap.size ≤ k_) ∧ some k_ ≠ (.slice (some ⟨gh224, 0, none⟩) x2_2.length co14 : Value).ownBlock) (Kd.R_keptB (Kd.R_bound (HO_44.out)) hkp (fun k_ hk_ hs_ => (fun e_ => types_no (by decide) hk_.2.2.2 e_.2.2.2) hs_)) (fun k_ hk_ => ⟨hk_.1.1.1, hk_.1.1.2⟩)); have n4_ := Aside0.mk (blk_kept (by (with_reducible repeat (first | refine blk_drewN ?_ _ | refine blk_drew ?_ | refine blk_alloc ?_ _)); exact BK229.out) hkp (fun hs_ => (fun e_ => box_noS (by (with_reducible repeat (first | refine blk_drewN ?_ _ | refine blk_drew ?_ | refine blk_alloc ?_ _)); exact BK229.out) (by decide) e_.2.2.2) hs_)); have n5_ := Aside0.mk (Kept.then_ (S := (fun k_ => P0_ k_ ∨ P2_ k_ ∨ P3_ k_)) (by repeat (first | (with_reducible first | exact HK.out | apply Kept.alloc | apply Kept.drewN | apply Kept.drew | refine Kept.setCell ?_ (.inr GW229.out) _) | exact HK.out)) hkp (fun k_ hs_ => (fun e_ => e_.1) hs_)); have n6_ := Aside0.mk (hb); clear HO_0; clear HO_2; clear HO_3; clear HO_44; clear BK229; clear HK; clear HB; have HO_0 := n0_; have HO_2 := n1_; have HO_3 := n2_; have HO_44 := n3_; have BK229 := n4_; have HK := n5_; have HB := n6_; clear n0_ n1_ n2_ n3_ n4_ n5_ n6_; (try clear hb); (try clear hkp); (try clear hy0); have p43 : 0 ≤ (x37_1 : Int) := of_decide_eq_true (by first | (with_reducible assumption) | assumption); have q43 : (x37_1 : Int) < ((x2_2.length : Int) : Int) := of_decide_eq_true (by first | (with_reducible assumption) | assumption); obtain ⟨hx43_0, hf43_0⟩ := Kd.R_celln false HO_2.out (x37_1 : Int) p43 q43; replace p43 := eq_true p43; replace q43 := eq_true q43; obtain ⟨hy57_, hz57_⟩ := Kd.R_celln false HO_2.out (x37_1 : Int) (of_decide_eq_true (by first | (with_reducible assumption) | assumption)) (of_decide_eq_true (by first | (with_reducible assumption) | assumption)); have HP57 := Kd.R_putg HO_2.out (x37_1 : Int) false) | ((with_reducible refine gate_store (t := 4) (p := 83) rfl ?_); refine store_event (t := 4) (p := 83) (v := ?vo_w58) (w1 := (w56.setCell ⟨gh224, (x37_1 : Int).toNat, none⟩ (.bool false))) ?hg ?ho ?hn ?hr ?_; (case ho => rfl); (case hg => rfl); (case hn => rfl); (case hr => first | (go_simp; done) | (go_simp; rfl)); intro w58 hw; have hg : w56.grownBy w58 (some gh224) := (by rw [hw]; exact HP57.2); have hp_ : Kd.R Kd.bool 4 w58 w0.heap.size (fun k_ => ((P0_ k_ ∨ P2_ k_ ∨ P3_ k_) ∨ w.heap.size ≤ k_) ∧ some k_ ≠ (.slice (some ad228) y225.length co17 : Value).ownBlock) (.slice (some ⟨gh224, 0, none⟩) x2_2.length co14) y239 := (by rw [hw, Ny239.out]; first | exact HP57.1 | exact Kd.R_mono HP57.1 (fun _ hk => ⟨hk.2, hk.1⟩)); clear HP57; have n0_ := Aside0.mk (Kd.S_over' (v := (.slice (some ⟨gh224, 0, none⟩) x2_2.length co14)) (by (with_reducible repeat (first | apply Kd.S_alloc | apply Kd.S_drewN | apply Kd.S_drew)); exact HO_0.out) (Kd.R_typed HO_2.out) (by decide) hg); have n1_ := Aside0.mk (hp_); have n2_ := Aside0.mk (Kd.R_over' (v := (.slice (some ⟨gh224, 0, none⟩) x2_2.length co14)) (by (with_reducible repeat (first | apply Kd.R_alloc | apply Kd.R_drewN | apply Kd.R_drew)); exact HO_3.out) (Kd.R_typed HO_2.out) (by decide) hg); have n3_ := Aside0.mk (Kd.R_after (v := (.slice (some ⟨gh224, 0, none⟩) x2_2.length co14)) (v1 := (.slice (some ⟨gh224, 0, none⟩) x2_2.length co14)) (ok := (fun k_ => ((P0_ k_ ∨ P2_ k_ ∨ P3_ k_) ∨ w.heap.size ≤ k_))) (by (with_reducible repeat (first | apply Kd.R_alloc | apply Kd.R_drewN | apply Kd.R_drew)); exact HO_44.out) hg (.inl rfl)); have n4_ := Aside0.mk (blk_grown (g := gb229) (o := .cells #[.int .i64 x37_1, .int .i64 t220, .int .i64 t221, .bool (rdOf false y225 x46_2)] 66 (0, 0)) (by (with_reducible repeat (first | refine blk_drewN ?_ _ | refine blk_drew ?_ | refine blk_alloc ?_ _)); exact BK229.out) hg (Kd.R_ne HO_2.out BK229.out (by decide))); have n5_ := Aside0.mk ((by rw [hw]; exact below_set (HB.out) GB26.out : Below w0.heap.size w0 w58)); have n6_ := Aside0.mk (Kept.of_grown (S := (fun k_ => P0_ k_ ∨ P2_ k_ ∨ P3_ k_)) hg (by repeat (first | (with_reducible first | exact HK.out | apply Kept.alloc | apply Kept.drewN | apply Kept.drew | refine Kept.setCell ?_ (.inr GW229.out) _) | exact HK.out)) (fun k_ e_ => (HO_2.out.1 k_ e_).1)); clear HO_0; clear HO_2; clear HO_3; clear HO_44; clear BK229; clear HB; clear HK; have HO_0 := n0_; have HO_2 := n1_; have HO_3 := n2_; have HO_44 := n3_; have BK229 := n4_; have HB := n5_; have HK := n6_; clear n0_ n1_ n2_ n3_ n4_ n5_ n6_; clear hg hw hp_))
                  (try simp only [← hl0_2, ← hl2_2])
                  go_roundg k2
                  case measure => have := HK1.out; have := HK2.out; omega
                  case rel => exact ⟨(t238), (y239), (t237), (wrap64 (x46_2 + 1)), (by first | rfl | (simp; done) | (simp [*]; done)), H', ⟨by have := HK1.out; have := HK2.out; omega⟩, ⟨by (try simp only [hl0_1]); (try simp only [hl0_2]); (try simp only [hl2_2]); (with_reducible repeat (first | apply Kd.S_alloc | apply Kd.S_drewN | apply Kd.S_drew)); exact HO_0.out⟩, ⟨by (try simp only [hl0_1]); (try simp only [hl0_2]); (try simp only [hl2_2]); (with_reducible repeat (first | apply Kd.R_alloc | apply Kd.R_drewN | apply Kd.R_drew)); exact HO_2.out⟩, ⟨by (try simp only [hl0_1]); (try simp only [hl0_2]); (try simp only [hl2_2]); (with_reducible repeat (first | apply Kd.R_alloc | apply Kd.R_drewN | apply Kd.R_drew)); exact Kd.R_mono HO_3.out (fun _ hk => hk.1)⟩, ⟨by (try simp only [hl0_1]); (try simp only [hl0_2]); (try simp only [hl2_2]); (with_reducible repeat (first | apply Kd.R_alloc | apply Kd.R_drewN | apply Kd.R_drew)); exact HO_44.out⟩, ⟨by repeat (first | (with_reducible first | exact HK.out | apply Kept.alloc | apply Kept.drewN | apply Kept.drew | refine Kept.setCell ?_ (.inr GW229.out) _) | exact HK.out)⟩, ⟨by repeat (first | (with_reducible first | exact HB.out | apply below_alloc | apply pw_below_drewN | apply below_drew1 | refine below_set ?_ GE229.out) | exact HB.out | exact Below.refl _ _)⟩⟩
                ·rw [if_neg c27] at H
                 exact absurd H (by simp)
               ·rw [if_neg c25] at H
                exact absurd H (by simp)
              ·rw [if_neg c24] at H
               exact absurd H (by simp)
             ·replace c22 := Bool.eq_false_iff.mpr c22
              subst c22
              have H1 : (impl_fill.l2 k2 x0_2 l1 x2_2 x3_2 t220 t221 x37_1 (l1.length : Int) x37_1 y225 (y225.length : Int) (wrap64 (x46_2 + 1))) = some (r1, r2, r3, r4) := by rw [if_neg (show ¬ (false = true) by decide)] at H; exact H
              clear H
              have H := H1
              clear H1
              have H' := Aside0.mk H
              clear H
              have p228 : 0 ≤ (x46_2 : Int) := of_decide_eq_true (by first | (with_reducible assumption) | assumption)
              have q228 : x46_2 < (y225.length : Int) := of_decide_eq_true (by first | (with_reducible assumption) | assumption)
              obtain ⟨ad228, e228, hx228_0⟩ := Kd.at_bool (Kd.R_reads' HO_44.out).2.2 x46_2 p228 q228
              (try rw [← Nbq11.out] at hx228_0)
              cases e228
              replace p228 := eq_true p228
              replace q228 := eq_true q228
              go_wp2_with (first | ((with_reducible refine gate_dst (N := 17) rfl ?_); refine box_event ?hg (N := 17) ?hd (cs := #[.int .i64 0, .int .i64 0, .int .i64 0, .bool false]) (t := 66) ?hr ?_; (case hd => rfl); (case hg => rfl); (case hr => first | (go_simp; done) | (go_simp; rfl)); intro gb229 hg w59 hbox hb; have n0_ := Aside0.mk (Kd.S_below (by (with_reducible repeat (first | apply Kd.S_alloc | apply Kd.S_drewN | apply Kd.S_drew)); exact HO_0.out) hb); have n1_ := Aside0.mk (Kd.R_below (by (with_reducible repeat (first | apply Kd.R_alloc | apply Kd.R_drewN | apply Kd.R_drew)); exact HO_2.out) hb); have n2_ := Aside0.mk (Kd.R_below (Kd.R_elderB (by (with_reducible repeat (first | apply Kd.R_alloc | apply Kd.R_drewN | apply Kd.R_drew)); exact HO_3.out) gb229 (Nat.le_of_eq hg.symm)) hb); have n3_ := Aside0.mk (Kd.R_below (by (with_reducible repeat (first | apply Kd.R_alloc | apply Kd.R_drewN | apply Kd.R_drew)); exact HO_44.out) hb); have n4_ := Aside0.mk (Kept.below (S := (fun k_ => P0_ k_ ∨ P2_ k_ ∨ P3_ k_)) (by repeat (first | (with_reducible first | exact HK.out | apply Kept.alloc | apply Kept.drewN | apply Kept.drew) | exact HK.out)) hb); have n5_ := Aside0.mk (below_step (by repeat (first | (with_reducible first | exact HB.out | apply below_alloc | apply pw_below_drewN | apply below_drew1) | exact HB.out | exact Below.refl _ _)) hb); have n6_ := Aside0.mk (hbox); have n7_ := Aside0.mk ((by rw [hg]; exact (by first | exact HK.out.1 | exact (show Kept w _ (fun k_ => P0_ k_ ∨ P2_ k_ ∨ P3_ k_) from by repeat (first | (with_reducible first | exact HK.out | apply Kept.alloc | apply Kept.drewN | apply Kept.drew) | exact HK.out)).1) : w.heap.size ≤ gb229)); have n8_ := Aside0.mk ((by rw [hg]; exact (below_size (by repeat (first | (with_reducible first | exact HB.out | apply below_alloc | apply pw_below_drewN | apply below_drew1) | exact HB.out | exact Below.refl _ _))) : w0.heap.size ≤ gb229)); clear HO_0; clear HO_2; clear HO_3; clear HO_44; clear HK; clear HB; have HO_0 := n0_; have HO_2 := n1_; have HO_3 := n2_; have HO_44 := n3_; have HK := n4_; have HB := n5_; have BK229 := n6_; have GW229 := n7_; have GE229 := n8_; clear n0_ n1_ n2_ n3_ n4_ n5_ n6_ n7_ n8_; clear hb hbox hg; have hcz60_0 : w59.cell? ⟨gb229, 0, none⟩ = some (.int .i64 0) := (blk_cell BK229.out 0).trans rfl; have hcz60_1 : w59.cell? ⟨gb229, 1, none⟩ = some (.int .i64 0) := (blk_cell BK229.out 1).trans rfl; have hcz60_2 : w59.cell? ⟨gb229, 2, none⟩ = some (.int .i64 0) := (blk_cell BK229.out 2).trans rfl; have hcz60_3 : w59.cell? ⟨gb229, 3, none⟩ = some (.bool false) := (blk_cell BK229.out 3).trans rfl; have hfz60_0 := blk_frozen BK229.out 0; have hfz60_1 := blk_frozen BK229.out 1; have hfz60_2 := blk_frozen BK229.out 2; have hfz60_3 := blk_frozen BK229.out 3) | ((with_reducible refine gate_callee (f := 57) rfl ?_); refine goesL_ (some 58) rfl rfl Try.func57 (by kernel_rfl) rfl #[.slice Ao7 x0_2.length co7, .slice A1 l1.length c1, .agg #[.int .i64 x37_1, .int .i64 t220, .int .i64 t221, .bool (rdOf false y225 x46_2)]] rfl (by (try simp only [List.map_toArray, List.map_cons, List.map_nil]); first | done | rfl | (simp only [List.length_drop, List.length_take]; rfl)) ?_; (with_reducible refine (impl_isRoom.calls k2 _ _ x0_2 _ _ l1 x37_1 t220 t221 (rdOf false y225 x46_2) false _ ?side1 ?side2 ?side3 ?side4 A21.out).mono ?_); (case side1 => refine (Kd.S_reads' (e := 24) (base := w0.heap.size) (ok := fun k_ => ((P0_ k_ ∨ P2_ k_ ∨ P3_ k_) ∨ w.heap.size ≤ k_)) (n := x0_2.length) (c := co7) ?_).2.2; exact (by (with_reducible repeat (first | apply Kd.S_alloc | apply Kd.S_drewN | apply Kd.S_drew)); exact (Kd.S_mono (Kd.S_far (p := ⟨gb229, 3, none⟩) (Kd.S_far (p := ⟨gb229, 2, none⟩) (Kd.S_far (p := ⟨gb229, 1, none⟩) (Kd.S_far (p := ⟨gb229, 0, none⟩) (Kd.S_types HO_0.out BK229.out (by decide)) (fun _ hk => hk.2) (.int .i64 x37_1)) (fun _ hk => hk.2) (.int .i64 t220)) (fun _ hk => hk.2) (.int .i64 t221)) (fun _ hk => hk.2) (.bool (rdOf false y225 x46_2))) (fun _ h_ => h_.1)))); (case side2 => exact (Kd.S_reads' HO_0.out).2.1); (case side3 => exact Kd.C_kept_now HR1.out (by repeat (first | (with_reducible first | exact HK.out | apply Kept.alloc | apply Kept.drewN | apply Kept.drew | refine Kept.setCell ?_ (.inr GW229.out) _) | exact HK.out))); (case side4 => exact HC1.out); rintro e w61 ⟨rfl, hb⟩; refine ⟨_, rfl, ?_⟩; have n0_ := Aside0.mk (Kd.S_below (by (with_reducible repeat (first | apply Kd.S_alloc | apply Kd.S_drewN | apply Kd.S_drew)); exact (Kd.S_mono (Kd.S_far (p := ⟨gb229, 3, none⟩) (Kd.S_far (p := ⟨gb229, 2, none⟩) (Kd.S_far (p := ⟨gb229, 1, none⟩) (Kd.S_far (p := ⟨gb229, 0, none⟩) (Kd.S_types HO_0.out BK229.out (by decide)) (fun _ hk => hk.2) (.int .i64 x37_1)) (fun _ hk => hk.2) (.int .i64 t220)) (fun _ hk => hk.2) (.int .i64 t221)) (fun _ hk => hk.2) (.bool (rdOf false y225 x46_2))) (fun _ h_ => h_.1))) hb); have n1_ := Aside0.mk (Kd.R_below (by (with_reducible repeat (first | apply Kd.R_alloc | apply Kd.R_drewN | apply Kd.R_drew)); exact (Kd.R_mono (Kd.R_far (p := ⟨gb229, 3, none⟩) (Kd.R_far (p := ⟨gb229, 2, none⟩) (Kd.R_far (p := ⟨gb229, 1, none⟩) (Kd.R_far (p := ⟨gb229, 0, none⟩) (Kd.R_types HO_2.out BK229.out (by decide)) (fun _ hk => hk.2) (.int .i64 x37_1)) (fun _ hk => hk.2) (.int .i64 t220)) (fun _ hk => hk.2) (.int .i64 t221)) (fun _ hk => hk.2) (.bool (rdOf false y225 x46_2))) (fun _ h_ => h_.1))) hb); have n2_ := Aside0.mk (Kd.R_below (by (with_reducible repeat (first | apply Kd.R_alloc | apply Kd.R_drewN | apply Kd.R_drew)); exact (Kd.R_mono (Kd.R_far (p := ⟨gb229, 3, none⟩) (Kd.R_far (p := ⟨gb229, 2, none⟩) (Kd.R_far (p := ⟨gb229, 1, none⟩) (Kd.R_far (p := ⟨gb229, 0, none⟩) (Kd.R_mono HO_3.out (fun k_ hk => (⟨hk, hk.2⟩ : _ ∧ k_ ≠ gb229))) (fun _ hk => hk.2) (.int .i64 x37_1)) (fun _ hk => hk.2) (.int .i64 t220)) (fun _ hk => hk.2) (.int .i64 t221)) (fun _ hk => hk.2) (.bool (rdOf false y225 x46_2))) (fun _ h_ => h_.1))) hb); have n3_ := Aside0.mk (Kd.R_below (by (with_reducible repeat (first | apply Kd.R_alloc | apply Kd.R_drewN | apply Kd.R_drew)); exact (Kd.R_mono (Kd.R_far (p := ⟨gb229, 3, none⟩) (Kd.R_far (p := ⟨gb229, 2, none⟩) (Kd.R_far (p := ⟨gb229, 1, none⟩) (Kd.R_far (p := ⟨gb229, 0, none⟩) (Kd.R_types HO_44.out BK229.out (by decide)) (fun _ hk => hk.2) (.int .i64 x37_1)) (fun _ hk => hk.2) (.int .i64 t220)) (fun _ hk => hk.2) (.int .i64 t221)) (fun _ hk => hk.2) (.bool (rdOf false y225 x46_2))) (fun _ h_ => h_.1))) hb); have n4_ := Aside0.mk (blk_below (g := gb229) (o := .cells #[.int .i64 x37_1, .int .i64 t220, .int .i64 t221, .bool (rdOf false y225 x46_2)] 66 (0, 0)) (by (with_reducible repeat (first | refine blk_drewN ?_ _ | refine blk_drew ?_ | refine blk_alloc ?_ _)); refine blk_put (cs := #[.int .i64 x37_1, .int .i64 t220, .int .i64 t221, .bool false]) ?_ 3 _ rfl; (with_reducible repeat (first | refine blk_drewN ?_ _ | refine blk_drew ?_ | refine blk_alloc ?_ _)); refine blk_put (cs := #[.int .i64 x37_1, .int .i64 t220, .int .i64 0, .bool false]) ?_ 2 _ rfl; (with_reducible repeat (first | refine blk_drewN ?_ _ | refine blk_drew ?_ | refine blk_alloc ?_ _)); refine blk_put (cs := #[.int .i64 x37_1, .int .i64 0, .int .i64 0, .bool false]) ?_ 1 _ rfl; (with_reducible repeat (first | refine blk_drewN ?_ _ | refine blk_drew ?_ | refine blk_alloc ?_ _)); refine blk_put (cs := #[.int .i64 0, .int .i64 0, .int .i64 0, .bool false]) ?_ 0 _ rfl; (with_reducible repeat (first | refine blk_drewN ?_ _ | refine blk_drew ?_ | refine blk_alloc ?_ _)); exact BK229.out) hb); have n5_ := Aside0.mk (Kept.below (S := (fun k_ => P0_ k_ ∨ P2_ k_ ∨ P3_ k_)) (by repeat (first | (with_reducible first | exact HK.out | apply Kept.alloc | apply Kept.drewN | apply Kept.drew | refine Kept.setCell ?_ (.inr GW229.out) _) | exact HK.out)) hb); have n6_ := Aside0.mk (below_step (by repeat (first | (with_reducible first | exact HB.out | apply below_alloc | apply pw_below_drewN | apply below_drew1 | refine below_set ?_ GE229.out) | exact HB.out | exact Below.refl _ _)) hb); clear HO_0; clear HO_2; clear HO_3; clear HO_44; clear BK229; clear HK; clear HB; have HO_0 := n0_; have HO_2 := n1_; have HO_3 := n2_; have HO_44 := n3_; have BK229 := n4_; have HK := n5_; have HB := n6_; clear n0_ n1_ n2_ n3_ n4_ n5_ n6_; (try clear hb); (try clear hb2); (try clear hk); (try clear hi)))
              (try simp only [← hl0_2, ← hl2_2])
              go_roundg k2
              case measure => have := HK1.out; have := HK2.out; omega
              case rel => exact ⟨(x0_2), (x2_2), (x3_2), (wrap64 (x46_2 + 1)), (by first | rfl | (simp; done) | (simp [*]; done)), H', ⟨by have := HK1.out; have := HK2.out; omega⟩, ⟨by (try simp only [hl0_1]); (try simp only [hl0_2]); (try simp only [hl2_2]); (with_reducible repeat (first | apply Kd.S_alloc | apply Kd.S_drewN | apply Kd.S_drew)); exact HO_0.out⟩, ⟨by (try simp only [hl0_1]); (try simp only [hl0_2]); (try simp only [hl2_2]); (with_reducible repeat (first | apply Kd.R_alloc | apply Kd.R_drewN | apply Kd.R_drew)); exact HO_2.out⟩, ⟨by (try simp only [hl0_1]); (try simp only [hl0_2]); (try simp only [hl2_2]); (with_reducible repeat (first | apply Kd.R_alloc | apply Kd.R_drewN | apply Kd.R_drew)); exact Kd.R_mono HO_3.out (fun _ hk => hk.1)⟩, ⟨by (try simp only [hl0_1]); (try simp only [hl0_2]); (try simp only [hl2_2]); (with_reducible repeat (first | apply Kd.R_alloc | apply Kd.R_drewN | apply Kd.R_drew)); exact HO_44.out⟩, ⟨by repeat (first | (with_reducible first | exact HK.out | apply Kept.alloc | apply Kept.drewN | apply Kept.drew | refine Kept.setCell ?_ (.inr GW229.out) _) | exact HK.out)⟩, ⟨by repeat (first | (with_reducible first | exact HB.out | apply below_alloc | apply pw_below_drewN | apply below_drew1 | refine below_set ?_ GE229.out) | exact HB.out | exact Below.refl _ _)⟩⟩
            ·rw [if_neg c20] at H
             exact absurd H (by simp)
           ·rw [if_neg c19] at H
            exact absurd H (by simp)
          ·rw [if_neg c18] at H
           have c18b0 : decide (x46_2 < (y225.length : Int)) = false := decide_eq_false c18
           have c18b0_hl0_1 := c18b0
           try rw [hl0_1] at c18b0_hl0_1
           have c18b0_hl2_2 := c18b0
           try rw [hl2_2] at c18b0_hl2_2
           clear c18
           have H' := Aside0.mk H
           clear H
           go_wp2
           (try simp only [← hl0_1, ← hl0_2, ← hl2_2])
           go_roundg k2
           case measure => have := HK1.out; have := HK2.out; omega
           case rel => exact ⟨(x0_2), (x2_2), (x3_2), (wrap64 (x37_1 + 1)), (by first | rfl | (simp; done) | (simp [*]; done)), H', ⟨by have := HK1.out; have := HK2.out; omega⟩, ⟨by (try simp only [hl0_1]); (try simp only [hl0_2]); (try simp only [hl2_2]); (with_reducible repeat (first | apply Kd.S_alloc | apply Kd.S_drewN | apply Kd.S_drew)); exact HO_0.out⟩, ⟨by (try simp only [hl0_1]); (try simp only [hl0_2]); (try simp only [hl2_2]); (with_reducible repeat (first | apply Kd.R_alloc | apply Kd.R_drewN | apply Kd.R_drew)); exact Kd.R_mono HO_2.out (fun _ hk => hk.1)⟩, ⟨by (try simp only [hl0_1]); (try simp only [hl0_2]); (try simp only [hl2_2]); (with_reducible repeat (first | apply Kd.R_alloc | apply Kd.R_drewN | apply Kd.R_drew)); exact HO_3.out⟩, ⟨by repeat (first | (with_reducible first | exact HK.out | apply Kept.alloc | apply Kept.drewN | apply Kept.drew) | exact HK.out)⟩, ⟨by repeat (first | (with_reducible first | exact HB.out | apply below_alloc | apply pw_below_drewN | apply below_drew1) | exact HB.out | exact Below.refl _ _)⟩⟩
      ·rw [if_neg c10] at H
       exact absurd H (by simp)
     ·rw [if_neg c9] at H
      exact absurd H (by simp)
    ·rw [if_neg c8] at H
     have c8b0 : decide (x37_1 < (l1.length : Int)) = false := decide_eq_false c8
     have c8b0_hl0_1 := c8b0
     try rw [hl0_1] at c8b0_hl0_1
     clear c8
     simp only [Option.some.injEq, Prod.mk.injEq] at H
     obtain ⟨rfl, rfl, rfl, rfl⟩ := H
     go_wp2
     go_ret
     exact ⟨by first | rfl | (simp [errW_none, errW_some] <;> rfl) | (simp [*, errW_none, errW_some] <;> rfl), (by first | exact (by (with_reducible repeat (first | apply Kd.S_alloc | apply Kd.S_drewN | apply Kd.S_drew)); exact HO_0.out) | (simp only [hl0_1]; exact (by (with_reducible repeat (first | apply Kd.S_alloc | apply Kd.S_drewN | apply Kd.S_drew)); exact HO_0.out))), (by first | exact (by (with_reducible repeat (first | apply Kd.R_alloc | apply Kd.R_drewN | apply Kd.R_drew)); exact HO_2.out) | (simp only [hl0_1]; exact (by (with_reducible repeat (first | apply Kd.R_alloc | apply Kd.R_drewN | apply Kd.R_drew)); exact HO_2.out))), (by first | exact (by (with_reducible repeat (first | apply Kd.R_alloc | apply Kd.R_drewN | apply Kd.R_drew)); exact HO_3.out) | (simp only [hl0_1]; exact (by (with_reducible repeat (first | apply Kd.R_alloc | apply Kd.R_drewN | apply Kd.R_drew)); exact HO_3.out))), by repeat (first | (with_reducible first | exact HB.out | apply below_alloc | apply pw_below_drewN | apply below_drew1) | exact HB.out | exact Below.refl _ _), by repeat (first | (with_reducible first | exact HK.out | apply Kept.alloc | apply Kept.drewN | apply Kept.drew) | exact HK.out)⟩
 ·replace c6 := Bool.eq_false_iff.mpr c6
  subst c6
  have H1 : (impl_fill.l0 k l0 l2 l3 l2 (l2.length : Int) 0) = some (r1, r2, r3, r4) := by rw [if_neg (show ¬ (false = true) by decide)] at H; exact H
  clear H
  have H := H1
  clear H1
  have H' := Aside0.mk H
  clear H
  obtain ⟨Ao62, co62, eo62⟩ := Kd.S_slice HO0.out
  subst eo62
  go_enter Try.func45, Try.ntmps45
  go_wp2_with (first | ((with_reducible refine gate_callee (f := 56) rfl ?_); refine goesL_ (some 20) rfl rfl Try.func56 (by kernel_rfl) rfl #[.slice Ao62 l0.length co62] rfl (by (try simp only [List.map_toArray, List.map_cons, List.map_nil]); first | done | rfl | (simp only [List.length_drop, List.length_take]; rfl)) ?_; (with_reducible refine (impl_firstFree.calls k _ _ l0 t220 t221 false _ ?side1 ?side2 A5.out).mono ?_); (case side1 => repeat (first | exact (Kd.S_reads' HO0.out).2.2 | (with_reducible refine Kd.C_alloc ?_ _) | (with_reducible refine Kd.C_drewN ?_ _) | (with_reducible refine Kd.C_drew ?_))); (case side2 => exact (Kd.S_reads' HO0.out).2.1); rintro e w' ⟨rfl, ⟨nd, rfl⟩⟩; refine ⟨_, rfl, ?_⟩; obtain ⟨Ao63, co63, eo63⟩ := Kd.R_slice HO2.out; subst eo63))
  go_loopg [28] k (fun kq v28 w' => ∃ (x28_1 : Int), v28 = .int .i64 x28_1 ∧ Aside0 (impl_fill.l0 kq l0 l2 l3 l2 (l2.length : Int) x28_1 = some (r1, r2, r3, r4)) ∧ Aside0 (kq ≤ k) ∧ Aside0 (Kd.S (Kd.slice 3 (Kd.int .i64)) 24 w' w0.heap.size (fun k_ => ((P0_ k_ ∨ P2_ k_ ∨ P3_ k_) ∨ w.heap.size ≤ k_)) (.slice Ao62 l0.length co62) l0) ∧ Aside0 (Kd.R Kd.bool 4 w' w0.heap.size (fun k_ => ((P0_ k_ ∨ P2_ k_ ∨ P3_ k_) ∨ w.heap.size ≤ k_)) (.slice Ao63 l2.length co63) l2) ∧ Aside0 (Kd.R k66 66 w' w0.heap.size (fun k_ => ((P0_ k_ ∨ P2_ k_ ∨ P3_ k_) ∨ w.heap.size ≤ k_)) u9002_ l3) ∧ Aside0 (Kd.R Kd.bool 4 w' w0.heap.size (fun k_ => ((P0_ k_ ∨ P2_ k_ ∨ P3_ k_) ∨ w.heap.size ≤ k_)) (.slice Ao63 l2.length co63) l2) ∧ Aside0 (Kept w w' (fun k_ => P0_ k_ ∨ P2_ k_ ∨ P3_ k_)) ∧ Aside0 (Below w0.heap.size w0 w'))
  case atStart => exact ⟨(0), (by first | rfl | (simp; done) | (simp [*]; done)), H', ⟨Nat.le_refl _⟩, ⟨by (with_reducible repeat (first | apply Kd.S_alloc | apply Kd.S_drewN | apply Kd.S_drew)); exact HO0.out⟩, ⟨by (with_reducible repeat (first | apply Kd.R_alloc | apply Kd.R_drewN | apply Kd.R_drew)); exact HO2.out⟩, ⟨by (with_reducible repeat (first | apply Kd.R_alloc | apply Kd.R_drewN | apply Kd.R_drew)); exact HO3.out⟩, ⟨by (with_reducible repeat (first | apply Kd.R_alloc | apply Kd.R_drewN | apply Kd.R_drew)); exact HO2.out⟩, ⟨by repeat (first | (with_reducible first | exact HK.out | apply Kept.alloc | apply Kept.drewN | apply Kept.drew) | exact HK.out)⟩, ⟨by repeat (first | (with_reducible first | exact HB.out | apply below_alloc | apply pw_below_drewN | apply below_drew1) | exact HB.out | exact Below.refl _ _)⟩⟩
  case round =>
   clear H'
   (try clear c1); (try clear q1); (try clear c2); (try clear p2); (try clear q2); (try clear hx2); (try clear c3); (try clear hx3); (try clear c4); (try clear p4); (try clear q4); (try clear hx4); (try clear hf4); (try clear c5); (try clear hx5); (try clear hf5); (try clear c6); (try clear p6); (try clear c8); (try clear c8b0); (try clear c9); (try clear c9b0); (try clear c10); (try clear c10b0); (try clear q11); (try clear c12); (try clear c18); (try clear c18b0); (try clear c19); (try clear c19b0); (try clear c20); (try clear c20b0); (try clear c22); (try clear p22); (try clear q22); (try clear hx22); (try clear c24); (try clear c24b0); (try clear c25); (try clear c25b0); (try clear p26); (try clear q26); (try clear hx26); (try clear hf26); (try clear c27); (try clear c27b0); (try clear c28); (try clear p28); (try clear q28); (try clear hx28); (try clear hf28); (try clear c30); (try clear c39); (try clear hx39); (try clear hf39); (try clear p43); (try clear q43); (try clear hx43); (try clear hf43); (try clear c45); (try clear c52); (try clear hx52); (try clear hf52); (try clear c56); (try clear c57); (try clear c58); (try clear hcz32_0); (try clear hcz32_1); (try clear hcz32_2); (try clear hcz32_3); (try clear hcz34_0); (try clear hcz34_1); (try clear hcz34_2); (try clear hcz34_3); (try clear hcz36_0); (try clear hcz36_1); (try clear hcz36_2); (try clear hcz36_3); (try clear hcz45_0); (try clear hcz45_1); (try clear hcz45_2); (try clear hcz45_3); (try clear hcz47_0); (try clear hcz47_1); (try clear hcz47_2); (try clear hcz47_3); (try clear hcz49_0); (try clear hcz49_1); (try clear hcz49_2); (try clear hcz49_3); (try clear hcz55_0); (try clear hcz55_1); (try clear hcz55_2); (try clear hcz55_3); (try clear hcz60_0); (try clear hcz60_1); (try clear hcz60_2); (try clear hcz60_3); (try clear hfz32_0); (try clear hfz32_1); (try clear hfz32_2); (try clear hfz32_3); (try clear hfz34_0); (try clear hfz34_1); (try clear hfz34_2); (try clear hfz34_3); (try clear hfz36_0); (try clear hfz36_1); (try clear hfz36_2); (try clear hfz36_3); (try clear hfz45_0); (try clear hfz45_1); (try clear hfz45_2); (try clear hfz45_3); (try clear hfz47_0); (try clear hfz47_1); (try clear hfz47_2); (try clear hfz47_3); (try clear hfz49_0); (try clear hfz49_1); (try clear hfz49_2); (try clear hfz49_3); (try clear hfz55_0); (try clear hfz55_1); (try clear hfz55_2); (try clear hfz55_3); (try clear hfz60_0); (try clear hfz60_1); (try clear hfz60_2); (try clear hfz60_3); (try clear hx224_0); (try clear hx228_0); (try clear hx26_0); (try clear hx28_0); (try clear hx28_1); (try clear hx28_2); (try clear hx28_3); (try clear hx39_0); (try clear hx39_1); (try clear hx39_2); (try clear hx39_3); (try clear hx43_0); (try clear hx52_0); (try clear hx52_1); (try clear hx52_2); (try clear hx52_3); (try clear p2); (try clear p224); (try clear p228); (try clear p26); (try clear p28); (try clear p43); (try clear p6); (try clear q1); (try clear q11); (try clear q2); (try clear q224); (try clear q228); (try clear q26); (try clear q28); (try clear q43)
   obtain ⟨x28_1, rfl, HA, HK1, HO_0, HO_2, HO_3, HO_26, HK, HB⟩ := hrel
   cases gk with
   | zero => exact absurd HA.out (by simp [impl_fill.l0])
   | succ k1 =>
    have H := HA.out
    clear HA
    simp only [impl_fill.l0] at H
    by_cases c64 : x28_1 < (l2.length : Int)
    ·rw [if_pos c64] at H
     have c64b0 : decide (x28_1 < (l2.length : Int)) = true := decide_eq_true c64
     clear c64
     by_cases c65 : 0 ≤ x28_1
     ·rw [if_pos c65] at H
      have c65b0 : decide (0 ≤ x28_1) = true := decide_eq_true c65
      clear c65
      by_cases c66 : x28_1 < (l2.length : Int)
      ·rw [if_pos c66] at H
       have c66b0 : decide (x28_1 < (l2.length : Int)) = true := decide_eq_true c66
       clear c66
       obtain ⟨bq67, hbq67⟩ : ∃ b_ : Bool, b_ = (rdOf false l2 x28_1) := ⟨_, rfl⟩
       replace H : (if bq67 = true then (impl_fill.l0 k1 l0 l2 l3 l2 (l2.length : Int) (wrap64 (x28_1 + 1))) else (some (false, l0, l2, l3))) = some (r1, r2, r3, r4) := by rw [← hbq67] at H; exact H
       have Nbq67 := Aside0.mk hbq67
       clear hbq67
       by_cases c68 : bq67 = true
       ·subst c68
        have H1 : (impl_fill.l0 k1 l0 l2 l3 l2 (l2.length : Int) (wrap64 (x28_1 + 1))) = some (r1, r2, r3, r4) := by rw [if_pos rfl] at H; exact H
        clear H
        have H := H1
        clear H1
        have H' := Aside0.mk H
        clear H
        have p223 : 0 ≤ (x28_1 : Int) := of_decide_eq_true (by first | (with_reducible assumption) | assumption)
        have q223 : x28_1 < (l2.length : Int) := of_decide_eq_true (by first | (with_reducible assumption) | assumption)
        obtain ⟨ad223, e223, hx223_0⟩ := Kd.at_bool (Kd.R_reads' HO_26.out).2.2 x28_1 p223 q223
        (try rw [← Nbq67.out] at hx223_0)
        cases e223
        replace p223 := eq_true p223
        replace q223 := eq_true q223
        go_wp2
        go_roundg k1
        case measure => have := HK1.out; omega
        case rel => exact ⟨(wrap64 (x28_1 + 1)), (by first | rfl | (simp; done) | (simp [*]; done)), H', ⟨by have := HK1.out; omega⟩, ⟨by (with_reducible repeat (first | apply Kd.S_alloc | apply Kd.S_drewN | apply Kd.S_drew)); exact HO_0.out⟩, ⟨by (with_reducible repeat (first | apply Kd.R_alloc | apply Kd.R_drewN | apply Kd.R_drew)); exact HO_2.out⟩, ⟨by (with_reducible repeat (first | apply Kd.R_alloc | apply Kd.R_drewN | apply Kd.R_drew)); exact HO_3.out⟩, ⟨by (with_reducible repeat (first | apply Kd.R_alloc | apply Kd.R_drewN | apply Kd.R_drew)); exact HO_26.out⟩, ⟨by repeat (first | (with_reducible first | exact HK.out | apply Kept.alloc | apply Kept.drewN | apply Kept.drew) | exact HK.out)⟩, ⟨by repeat (first | (with_reducible first | exact HB.out | apply below_alloc | apply pw_below_drewN | apply below_drew1) | exact HB.out | exact Below.refl _ _)⟩⟩
       ·replace c68 := Bool.eq_false_iff.mpr c68
        subst c68
        have H1 : (some (false, l0, l2, l3)) = some (r1, r2, r3, r4) := by rw [if_neg (show ¬ (false = true) by decide)] at H; exact H
        clear H
        have H := H1
        clear H1
        simp only [Option.some.injEq, Prod.mk.injEq] at H
        obtain ⟨rfl, rfl, rfl, rfl⟩ := H
        have p223 : 0 ≤ (x28_1 : Int) := of_decide_eq_true (by first | (with_reducible assumption) | assumption)
        have q223 : x28_1 < (l2.length : Int) := of_decide_eq_true (by first | (with_reducible assumption) | assumption)
        obtain ⟨ad223, e223, hx223_0⟩ := Kd.at_bool (Kd.R_reads' HO_26.out).2.2 x28_1 p223 q223
        (try rw [← Nbq67.out] at hx223_0)
        cases e223
        replace p223 := eq_true p223
        replace q223 := eq_true q223
        go_wp2
        go_ret
        exact ⟨by first | rfl | (simp [errW_none, errW_some] <;> rfl) | (simp [*, errW_none, errW_some] <;> rfl), by (with_reducible repeat (first | apply Kd.S_alloc | apply Kd.S_drewN | apply Kd.S_drew)); exact HO_0.out, by (with_reducible repeat (first | apply Kd.R_alloc | apply Kd.R_drewN | apply Kd.R_drew)); exact HO_2.out, by (with_reducible repeat (first | apply Kd.R_alloc | apply Kd.R_drewN | apply Kd.R_drew)); exact HO_3.out, by repeat (first | (with_reducible first | exact HB.out | apply below_alloc | apply pw_below_drewN | apply below_drew1) | exact HB.out | exact Below.refl _ _), by repeat (first | (with_reducible first | exact HK.out | apply Kept.alloc | apply Kept.drewN | apply Kept.drew) | exact HK.out)⟩
      ·rw [if_neg c66] at H
       exact absurd H (by simp)
     ·rw [if_neg c65] at H
      exact absurd H (by simp)
    ·rw [if_neg c64] at H
     have c64b0 : decide (x28_1 < (l2.length : Int)) = false := decide_eq_false c64
     clear c64
     simp only [Option.some.injEq, Prod.mk.injEq] at H
     obtain ⟨rfl, rfl, rfl, rfl⟩ := H
     go_wp2
     go_ret
     exact ⟨by first | rfl | (simp [errW_none, errW_some] <;> rfl) | (simp [*, errW_none, errW_some] <;> rfl), by (with_reducible repeat (first | apply Kd.S_alloc | apply Kd.S_drewN | apply Kd.S_drew)); exact HO_0.out, by (with_reducible repeat (first | apply Kd.R_alloc | apply Kd.R_drewN | apply Kd.R_drew)); exact HO_2.out, by (with_reducible repeat (first | apply Kd.R_alloc | apply Kd.R_drewN | apply Kd.R_drew)); exact HO_3.out, by repeat (first | (with_reducible first | exact HB.out | apply below_alloc | apply pw_below_drewN | apply below_drew1) | exact HB.out | exact Below.refl _ _), by repeat (first | (with_reducible first | exact HK.out | apply Kept.alloc | apply Kept.drewN | apply Kept.drew) | exact HK.out)⟩

/-! ### impl_emptyChase: function 46 -/
mutual
def impl_emptyChase.l0 : Nat → Int → Int → List (List Int) → Int → Option ((List (List Int)))
 | 0, _, _, _, _ => none
 | k + 1, x0, x1, x5, x6 => if x6 < x1 then (impl_emptyChase.l1 k x0 x1 x5 x6 (([] : List Int)) 0) else (some x5)
def impl_emptyChase.l1 : Nat → Int → Int → List (List Int) → Int → List Int → Int → Option ((List (List Int)))
 | 0, _, _, _, _, _, _ => none
 | k + 1, x0, x1, x5, x6, x7, x8 => if x8 < x0 then (if x7.length < 17592186044416 then (impl_emptyChase.l1 k x0 x1 x5 x6 (x7 ++ [(-1)]) (wrap64 (x8 + 1))) else (none)) else (if x5.length < 5864062014805 then (impl_emptyChase.l0 k x0 x1 (x5 ++ [x7]) (wrap64 (x6 + 1))) else (none))
end
def impl_emptyChase.f (k : Nat) (a0 : Int) (a1 : Int) : Option ((List (List Int))) := impl_emptyChase.l0 k a0 a1 (([] : List (List Int))) 0
theorem impl_emptyChase.mono_l : ∀ k, (∀ y0 y1 y2 y3, LeO (impl_emptyChase.l0 k y0 y1 y2 y3) (impl_emptyChase.l0 (k + 1) y0 y1 y2 y3)) ∧ (∀ y0 y1 y2 y3 y4 y5, LeO (impl_emptyChase.l1 k y0 y1 y2 y3 y4 y5) (impl_emptyChase.l1 (k + 1) y0 y1 y2 y3 y4 y5))
 | 0 => ⟨fun _ _ _ _ r h => by simp [impl_emptyChase.l0] at h, fun _ _ _ _ _ _ r h => by simp [impl_emptyChase.l1] at h⟩
 | k + 1 => by
  obtain ⟨ih0, ih1⟩ := impl_emptyChase.mono_l k
  refine ⟨?_, ?_⟩
  ·intro y0 y1 y2 y3
   unfold impl_emptyChase.l0
   repeat' first
   | (with_reducible exact ih0 _ _ _ _)
   | (with_reducible exact ih1 _ _ _ _ _ _)
   | (with_reducible exact LeO.refl _)
   | (with_reducible exact LeO.none _)
   | (with_reducible refine LeO.ite ?_ ?_)
   | (with_reducible refine LeO.bind ?_ (fun _ => ?_))
   | exact ih0 _ _ _ _
   | exact ih1 _ _ _ _ _ _
   | exact LeO.none _
   | refine LeO.ite ?_ ?_
   | refine LeO.bind ?_ (fun _ => ?_)
  ·intro y0 y1 y2 y3 y4 y5
   unfold impl_emptyChase.l1
   repeat' first
   | (with_reducible exact ih0 _ _ _ _)
   | (with_reducible exact ih1 _ _ _ _ _ _)
   | (with_reducible exact LeO.refl _)
   | (with_reducible exact LeO.none _)
   | (with_reducible refine LeO.ite ?_ ?_)
   | (with_reducible refine LeO.bind ?_ (fun _ => ?_))
   | exact ih0 _ _ _ _
   | exact ih1 _ _ _ _ _ _
   | exact LeO.none _
   | refine LeO.ite ?_ ?_
   | refine LeO.bind ?_ (fun _ => ?_)
theorem impl_emptyChase.mono : ∀ a0 a1 k, LeO (impl_emptyChase.f k a0 a1) (impl_emptyChase.f (k + 1) a0 a1) := by
 intro a0 a1 k
 obtain ⟨ih0, ih1⟩ := impl_emptyChase.mono_l k
 unfold impl_emptyChase.f
 repeat' first
   | (with_reducible exact ih0 _ _ _ _)
   | (with_reducible exact ih1 _ _ _ _ _ _)
   | (with_reducible exact LeO.refl _)
   | (with_reducible exact LeO.none _)
   | (with_reducible refine LeO.ite ?_ ?_)
   | (with_reducible refine LeO.bind ?_ (fun _ => ?_))
   | exact ih0 _ _ _ _
   | exact ih1 _ _ _ _ _ _
   | exact LeO.none _
   | refine LeO.ite ?_ ?_
   | refine LeO.bind ?_ (fun _ => ?_)
set_option maxHeartbeats 8000000 in
set_option maxRecDepth 100000 in
theorem impl_emptyChase.calls (k : Nat) (a0 : Int) (a1 : Int) (r : List (List Int)) (w : World) (h : impl_emptyChase.f k a0 a1 = some r) :
  Calls Try.prog 46 #[.int .i64 a0, .int .i64 a1] w fun e w' => ∃ v0_ : Value, e = .returned (v0_) ∧ Kd.S (Kd.slice 3 (Kd.int .i64)) 24 w' w.heap.size (fun _ => True) v0_ r ∧ Below w.heap.size w w' := by
 have HB := Aside0.mk (Below.refl w.heap.size w)
 have H : (impl_emptyChase.l0 k a0 a1 (([] : List (List Int))) 0) = some r := h
 clear h
 obtain ⟨y240, hy240⟩ : ∃ y_ : List (List Int), y_ = (([] : List (List Int))) := ⟨_, rfl⟩
 replace H : (impl_emptyChase.l0 k a0 a1 y240 0) = some r := by first | (rw [hy240]; with_reducible exact H) | (have H2_ := (Option.bind_some _ _).symm.trans H; rw [hy240]; with_reducible exact H2_) | (have H2_ := (Option.bind_some _ _).symm.trans H; with_reducible exact H2_) | with_reducible exact H | (rw [hy240]; exact H) | exact H
 have Ny240 := Aside0.mk hy240
 clear hy240
 have H' := Aside0.mk H
 clear H
 go_enter Try.func46, Try.ntmps46
 go_wp2_with (first | ((with_reducible refine gate_dst (N := 9) rfl ?_); refine Kd.S_lit (Kd.slice 3 (Kd.int .i64)) _ 24 ?hg (N := 9) ?hd (xs := ([] : List (List Int))) (inner := []) (ok := fun _ => True) (okp := fun _ => True) ?hr ?hp (fun _ hk => hk) trivial (Below.refl _ _) (Nat.le_refl _) (by simp) ?_; (case hd => rfl); (case hg => rfl); (case hr => first | (go_simp; done) | (go_simp; rfl)); (case hp => exact (Reps.none _ _)); intro v241 w3 ho4 hb hg_ hnew_; clear hg_ hnew_; (first | rw [← Ny240.out] at ho4 | (simp only [Int.reduceToNat] at ho4; rw [← Ny240.out] at ho4)); have n0_ := Aside0.mk (Kd.S_lower ho4 (below_size (by repeat (first | (with_reducible first | exact HB.out | apply below_alloc | apply pw_below_drewN | apply below_drew1) | exact HB.out | exact Below.refl _ _)))); have n1_ := Aside0.mk (below_step (by repeat (first | (with_reducible first | exact HB.out | apply below_alloc | apply pw_below_drewN | apply below_drew1) | exact HB.out | exact Below.refl _ _)) hb); clear HB; have HO242 := n0_; have HB := n1_; clear n0_ n1_; clear hb ho4))
 go_loopg [5, 6] k (fun kq v5 v6 w' => ∃ (x5_1 : List (List Int)) (x6_1 : Int), v6 = .int .i64 x6_1 ∧ Aside0 (impl_emptyChase.l0 kq a0 a1 x5_1 x6_1 = some r) ∧ Aside0 (kq ≤ k) ∧ Aside0 (Kd.S (Kd.slice 3 (Kd.int .i64)) 24 w' w.heap.size (fun _ => True) v5 x5_1) ∧ Aside0 (Below w.heap.size w w'))
 case atStart => exact ⟨(y240), (0), (by first | rfl | (simp; done) | (simp [*]; done)), H', ⟨Nat.le_refl _⟩, ⟨by (with_reducible repeat (first | apply Kd.S_alloc | apply Kd.S_drewN | apply Kd.S_drew)); exact HO242.out⟩, ⟨by repeat (first | (with_reducible first | exact HB.out | apply below_alloc | apply pw_below_drewN | apply below_drew1) | exact HB.out | exact Below.refl _ _)⟩⟩
 case round =>
  clear H'
  (try clear p2); (try clear c4)
  obtain ⟨x5_1, x6_1, rfl, HA, HK1, HO_5, HB⟩ := hrel
  cases gk with
  | zero => exact absurd HA.out (by simp [impl_emptyChase.l0])
  | succ k1 =>
   have H := HA.out
   clear HA
   simp only [impl_emptyChase.l0] at H
   by_cases c5 : x6_1 < a1
   ·rw [if_pos c5] at H
    have c5b0 : decide (x6_1 < a1) = true := decide_eq_true c5
    clear c5
    obtain ⟨y243, hy243⟩ : ∃ y_ : List Int, y_ = (([] : List Int)) := ⟨_, rfl⟩
    replace H : (impl_emptyChase.l1 k1 a0 a1 x5_1 x6_1 y243 0) = some r := by first | (rw [hy243]; with_reducible exact H) | (have H2_ := (Option.bind_some _ _).symm.trans H; rw [hy243]; with_reducible exact H2_) | (have H2_ := (Option.bind_some _ _).symm.trans H; with_reducible exact H2_) | with_reducible exact H | (rw [hy243]; exact H) | exact H
    have Ny243 := Aside0.mk hy243
    clear hy243
    have H' := Aside0.mk H
    clear H
    go_wp2_with (first | ((with_reducible refine gate_dst (N := 15) rfl ?_); refine Kd.R_lit (Kd.int .i64) _ 3 ?hg (N := 15) ?hd (xs := ([] : List Int)) (inner := []) (ok := fun _ => True) (okp := fun _ => True) ?hr ?hp (fun _ hk => hk) trivial (Below.refl _ _) (Nat.le_refl _) (by simp) ?_; (case hd => rfl); (case hg => rfl); (case hr => first | (go_simp; done) | (go_simp; rfl)); (case hp => exact (Reps.none _ _)); intro v244 w6 ho7 hb hg_ hnew_; clear hg_ hnew_; (first | rw [← Ny243.out] at ho7 | (simp only [Int.reduceToNat] at ho7; rw [← Ny243.out] at ho7)); have n0_ := Aside0.mk (Kd.S_elder' (by (with_reducible repeat (first | apply Kd.S_alloc | apply Kd.S_drewN | apply Kd.S_drew)); exact HO_5.out) (Kd.R_base ho7) hb); have n1_ := Aside0.mk (Kd.R_lower ho7 (below_size (by repeat (first | (with_reducible first | exact HB.out | apply below_alloc | apply pw_below_drewN | apply below_drew1) | exact HB.out | exact Below.refl _ _)))); have n2_ := Aside0.mk (below_step (by repeat (first | (with_reducible first | exact HB.out | apply below_alloc | apply pw_below_drewN | apply below_drew1) | exact HB.out | exact Below.refl _ _)) hb); clear HO_5; clear HB; have HO_5 := n0_; have HO245 := n1_; have HB := n2_; clear n0_ n1_ n2_; clear hb ho7))
    go_loopg [7, 8] k1 (fun kq v7 v8 w' => ∃ (x7_2 : List Int) (x8_2 : Int), v8 = .int .i64 x8_2 ∧ Aside0 (impl_emptyChase.l1 kq a0 a1 x5_1 x6_1 x7_2 x8_2 = some r) ∧ Aside0 (kq ≤ k1) ∧ Aside0 (Kd.S (Kd.slice 3 (Kd.int .i64)) 24 w' w.heap.size (fun k_ => some k_ ≠ (v7 : Value).ownBlock) u5 x5_1) ∧ Aside0 (Kd.R (Kd.int .i64) 3 w' w.heap.size (fun _ => True) v7 x7_2) ∧ Aside0 (Below w.heap.size w w'))
    case atStart => exact ⟨(y243), (0), (by first | rfl | (simp; done) | (simp [*]; done)), H', ⟨Nat.le_refl _⟩, ⟨by (with_reducible repeat (first | apply Kd.S_alloc | apply Kd.S_drewN | apply Kd.S_drew)); exact Kd.S_mono HO_5.out (fun _ hk => hk.2)⟩, ⟨by (with_reducible repeat (first | apply Kd.R_alloc | apply Kd.R_drewN | apply Kd.R_drew)); exact HO245.out⟩, ⟨by repeat (first | (with_reducible first | exact HB.out | apply below_alloc | apply pw_below_drewN | apply below_drew1) | exact HB.out | exact Below.refl _ _)⟩⟩
    case round =>
     clear H'
     (try clear p2); (try clear c4); (try clear c5); (try clear c5b0); (try clear p2)
     obtain ⟨x7_2, x8_2, rfl, HA, HK2, HO_5, HO_7, HB⟩ := hrel
     cases gk with
     | zero => exact absurd HA.out (by simp [impl_emptyChase.l1])
     | succ k2 =>
      have H := HA.out
      clear HA
      simp only [impl_emptyChase.l1] at H
      by_cases c8 : x8_2 < a0
      ·rw [if_pos c8] at H
       have c8b0 : decide (x8_2 < a0) = true := decide_eq_true c8
       clear c8
       by_cases c9 : x7_2.length < 17592186044416
       ·rw [if_pos c9] at H
        have LMc9 := Aside0.mk c9
        clear c9
        obtain ⟨y246, hy246⟩ : ∃ y_ : List Int, y_ = (x7_2 ++ [(-1)]) := ⟨_, rfl⟩
        replace H : (impl_emptyChase.l1 k2 a0 a1 x5_1 x6_1 y246 (wrap64 (x8_2 + 1))) = some r := by first | (rw [hy246]; with_reducible exact H) | (have H2_ := (Option.bind_some _ _).symm.trans H; rw [hy246]; with_reducible exact H2_) | (have H2_ := (Option.bind_some _ _).symm.trans H; with_reducible exact H2_) | with_reducible exact H | (rw [hy246]; exact H) | exact H
        have Ny246 := Aside0.mk hy246
        clear hy246
        have H' := Aside0.mk H
        clear H
        go_wp2_with (first | ((with_reducible refine gate_builtin (b := .append) (xs := #[.tmp 21, .tmp 22]) rfl ?_); at_builtin; refine Kd.R_append (Kd.int .i64) (w0 := w) w.heap.size rfl (.tmp 21) (.tmp 22) 24 3 (.int .i64 0) 8 rfl Try.underlying24 info3 rfl (by decide) (by omega) u7 x7_2 (-1) [.int .i64 (-1)] (fun _ => True) (fun _ => False) rfl rfl ?aP (fun _ hk => hk.elim) ?aF ?aO ?aB ?aS ?aL ?_; (case aP => exact rfl); (case aB => exact (by repeat (first | (with_reducible first | exact HB.out | apply below_alloc | apply pw_below_drewN | apply below_drew1) | exact HB.out | exact Below.refl _ _))); (case aF => exact (fun _ _ => trivial)); (case aO => exact (by (with_reducible repeat (first | apply Kd.R_alloc | apply Kd.R_drewN | apply Kd.R_drew)); exact HO_7.out)); (case aS => exact (below_size (by repeat (first | (with_reducible first | exact HB.out | apply below_alloc | apply pw_below_drewN | apply below_drew1) | exact HB.out | exact Below.refl _ _)))); (case aL => have := LMc9.out; omega); intro v247 w10 ho hb hg hat; rw [← Ny246.out] at ho; have n0_ := Aside0.mk (Kd.S_after (ok := (fun _ => True)) (by (with_reducible repeat (first | apply Kd.S_alloc | apply Kd.S_drewN | apply Kd.S_drew)); exact Kd.S_mono HO_5.out (fun _ hk => ⟨trivial, hk⟩)) hg hat); have n1_ := Aside0.mk (hb); have n2_ := Aside0.mk (ho); clear HO_5; clear HB; clear HO_7; have HO_5 := n0_; have HB := n1_; have HO248 := n2_; clear n0_ n1_ n2_; clear ho hb hg hat))
        go_roundg k2
        case measure => have := HK1.out; have := HK2.out; omega
        case rel => exact ⟨(y246), (wrap64 (x8_2 + 1)), (by first | rfl | (simp; done) | (simp [*]; done)), H', ⟨by have := HK1.out; have := HK2.out; omega⟩, ⟨by (with_reducible repeat (first | apply Kd.S_alloc | apply Kd.S_drewN | apply Kd.S_drew)); exact Kd.S_mono HO_5.out (fun _ hk => hk.2)⟩, ⟨by (with_reducible repeat (first | apply Kd.R_alloc | apply Kd.R_drewN | apply Kd.R_drew)); exact HO248.out⟩, ⟨by repeat (first | (with_reducible first | exact HB.out | apply below_alloc | apply pw_below_drewN | apply below_drew1) | exact HB.out | exact Below.refl _ _)⟩⟩
       ·rw [if_neg c9] at H
        exact absurd H (by simp)
      ·rw [if_neg c8] at H
       have c8b0 : decide (x8_2 < a0) = false := decide_eq_false c8
       clear c8
       by_cases c11 : x5_1.length < 5864062014805
       ·rw [if_pos c11] at H
        have LMc11 := Aside0.mk c11
        clear c11
        obtain ⟨y249, hy249⟩ : ∃ y_ : List (List Int), y_ = (x5_1 ++ [x7_2]) := ⟨_, rfl⟩
        replace H : (impl_emptyChase.l0 k2 a0 a1 y249 (wrap64 (x6_1 + 1))) = some r := by first | (rw [hy249]; with_reducible exact H) | (have H2_ := (Option.bind_some _ _).symm.trans H; rw [hy249]; with_reducible exact H2_) | (have H2_ := (Option.bind_some _ _).symm.trans H; with_reducible exact H2_) | with_reducible exact H | (rw [hy249]; exact H) | exact H
        have Ny249 := Aside0.mk hy249
        clear hy249
        have H' := Aside0.mk H
        clear H
        obtain ⟨Ao13, co13, eo13⟩ := Kd.R_slice HO_7.out
        subst eo13
        go_wp2_with (first | ((with_reducible refine gate_builtin (b := .append) (xs := #[.tmp 24, .tmp 26]) rfl ?_); at_builtin; refine Kd.S_append (Kd.slice 3 (Kd.int .i64)) (w0 := w) w.heap.size rfl (.tmp 24) (.tmp 26) 61 24 (.slice none 0 0) 24 rfl Try.underlying61 info24 rfl (by decide) (by omega) u5 x5_1 x7_2 [.slice Ao13 x7_2.length co13] (fun _ => True) (fun k_ => some k_ = (.slice Ao13 x7_2.length co13 : Value).ownBlock) rfl rfl ?aP (fun k_ hk_ => ((Kd.R_mono (ok' := fun k_ => ((fun _ => True)) k_ ∧ some k_ ≠ (u5 : Value).ownBlock) (Kd.R_apart' (HO_7.out) (Kd.S_typed HO_5.out) (by decide)) (fun k_ hk => ⟨trivial, hk.2⟩))).1 k_ hk_.symm) ?aF ?aO ?aB ?aS ?aL ?_; (case aP => exact Kd.M_row (Kd.R_mono (Kd.R_tight rfl (Kd.R_mono (ok' := fun k_ => ((fun _ => True)) k_ ∧ some k_ ≠ (u5 : Value).ownBlock) (Kd.R_apart' (HO_7.out) (Kd.S_typed HO_5.out) (by decide)) (fun k_ hk => ⟨trivial, hk.2⟩))) (fun _ h_ => h_))); (case aB => exact (by repeat (first | (with_reducible first | exact HB.out | apply below_alloc | apply pw_below_drewN | apply below_drew1) | exact HB.out | exact Below.refl _ _))); (case aF => exact (fun _ _ => trivial)); (case aO => exact (by (with_reducible repeat (first | apply Kd.S_alloc | apply Kd.S_drewN | apply Kd.S_drew)); exact Kd.S_mono HO_5.out (fun k_ hk => ⟨trivial, fun e_ => hk e_⟩))); (case aS => exact (below_size (by repeat (first | (with_reducible first | exact HB.out | apply below_alloc | apply pw_below_drewN | apply below_drew1) | exact HB.out | exact Below.refl _ _)))); (case aL => have := LMc11.out; omega); intro v250 w12 ho hb hg hat; rw [← Ny249.out] at ho; have n0_ := Aside0.mk (hb); have n1_ := Aside0.mk (ho); clear HB; clear HO_5; clear HO_7; have HB := n0_; have HO251 := n1_; clear n0_ n1_; clear ho hb hg hat))
        go_roundg k2
        case measure => have := HK1.out; have := HK2.out; omega
        case rel => exact ⟨(y249), (wrap64 (x6_1 + 1)), (by first | rfl | (simp; done) | (simp [*]; done)), H', ⟨by have := HK1.out; have := HK2.out; omega⟩, ⟨by (with_reducible repeat (first | apply Kd.S_alloc | apply Kd.S_drewN | apply Kd.S_drew)); exact HO251.out⟩, ⟨by repeat (first | (with_reducible first | exact HB.out | apply below_alloc | apply pw_below_drewN | apply below_drew1) | exact HB.out | exact Below.refl _ _)⟩⟩
       ·rw [if_neg c11] at H
        exact absurd H (by simp)
   ·rw [if_neg c5] at H
    have c5b0 : decide (x6_1 < a1) = false := decide_eq_false c5
    clear c5
    obtain rfl := Option.some.inj H
    go_wp2
    go_ret
    exact ⟨_, by first | rfl | (simp [errW_none, errW_some] <;> rfl) | (simp [*, errW_none, errW_some] <;> rfl), by (with_reducible repeat (first | apply Kd.S_alloc | apply Kd.S_drewN | apply Kd.S_drew)); exact HO_5.out, by repeat (first | (with_reducible first | exact HB.out | apply below_alloc | apply pw_below_drewN | apply below_drew1) | exact HB.out | exact Below.refl _ _)⟩

end Go.Proofs.Ythpgmjlhakdemaa.PFnExactFillChase
