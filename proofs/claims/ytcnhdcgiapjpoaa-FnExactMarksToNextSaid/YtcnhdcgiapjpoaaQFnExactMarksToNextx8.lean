/- The printed functions of the law FnExactMarksToNext and their contracts, mended by this session's program (mend.py) where the printed walk stops. No condition. -/
import Derived.Test.YtcnhdcgiapjpoaaQFnExactMarksToNextx0
import Derived.Test.YtcnhdcgiapjpoaaQFnExactMarksToNextx6
import Derived.Test.YtcnhdcgiapjpoaaQFnExactMarksToNextx7
namespace Go.Proofs.Ytcnhdcgiapjpoaa.PFnExactMarksToNext
open Go.RowKit Go.Proofs.YtcnhdcgiapjpoaaW.PrintWords Go.Proofs.YtcnhdcgiapjpoaaW.PrintLast Go.Proofs.YtcnhdcgiapjpoaaW.PrintMore
attribute [local go_sem] max2_int min2_int max_two min_two max_three min_three max_four min_four   -- for this text's walks alone
set_option linter.unusedVariables false
set_option linter.unusedSimpArgs false

/-! ### impl_AreMarks: function 77 -/
mutual
def impl_AreMarks.l0 : Nat → List ByteArray → List (S68) → List (S68) → Int → Int → Option (Bool)
 | 0, _, _, _, _, _ => none
 | k + 1, x0, x1, x8, x9, x10 => if x10 < x9 then (if 0 ≤ x10 then (if x10 < (x8.length : Int) then ((impl_isMarkAlone.f k ((rd_T68 x8 x10).f0) ((rd_T68 x8 x10).f1) ((rd_T68 x8 x10).f2) ((rd_T68 x8 x10).f3)).bind fun t208 => (if t208 = true then (impl_AreMarks.j1 k x0 x1 x8 x9 x10 (decide (((rd_T68 x8 x10).f0) ≥ (x0.length : Int))) ((rd_T68 x8 x10).f0) ((rd_T68 x8 x10).f1) ((rd_T68 x8 x10).f2) ((rd_T68 x8 x10).f3)) else (impl_AreMarks.j1 k x0 x1 x8 x9 x10 true ((rd_T68 x8 x10).f0) ((rd_T68 x8 x10).f1) ((rd_T68 x8 x10).f2) ((rd_T68 x8 x10).f3)))) else (none)) else (none)) else ((impl_IsProof.f k x0).bind fun t205 => (if t205 = true then (some (decide ((x1.length : Int) ≤ 20))) else (some false)))
def impl_AreMarks.j1 : Nat → List ByteArray → List (S68) → List (S68) → Int → Int → Bool → Int → Int → Int → ByteArray → Option (Bool)
 | 0, _, _, _, _, _, _, _, _, _, _ => none
 | k + 1, x0, x1, x8, x9, x10, x23, x208000, x208001, x208002, x208003 => if x23 = true then (some false) else (if 0 ≤ x208000 then (if x208000 < (x0.length : Int) then (if x208001 > ((rdOf ByteArray.empty x0 x208000).size : Int) then (some false) else (if x208001 = ((rdOf ByteArray.empty x0 x208000).size : Int) then (if x208002 = 1 then (some false) else (if x208002 = 3 then (some false) else (impl_AreMarks.l0 k x0 x1 x8 x9 (wrap64 (x10 + 1))))) else (impl_AreMarks.l0 k x0 x1 x8 x9 (wrap64 (x10 + 1))))) else (none)) else (none))
end
def impl_AreMarks.f (k : Nat) (l0 : List ByteArray) (l1 : List (S68)) : Option (Bool) := impl_AreMarks.l0 k l0 l1 l1 (l1.length : Int) 0
theorem impl_AreMarks.mono_l : ∀ k, (∀ y0 y1 y2 y3 y4, LeO (impl_AreMarks.l0 k y0 y1 y2 y3 y4) (impl_AreMarks.l0 (k + 1) y0 y1 y2 y3 y4)) ∧ (∀ y0 y1 y2 y3 y4 y5 y6 y7 y8 y9, LeO (impl_AreMarks.j1 k y0 y1 y2 y3 y4 y5 y6 y7 y8 y9) (impl_AreMarks.j1 (k + 1) y0 y1 y2 y3 y4 y5 y6 y7 y8 y9))
 | 0 => ⟨fun _ _ _ _ _ r h => by simp [impl_AreMarks.l0] at h, fun _ _ _ _ _ _ _ _ _ _ r h => by simp [impl_AreMarks.j1] at h⟩
 | k + 1 => by
  obtain ⟨ih0, ih1⟩ := impl_AreMarks.mono_l k
  refine ⟨?_, ?_⟩
  ·intro y0 y1 y2 y3 y4
   unfold impl_AreMarks.l0
   repeat' first
   | (with_reducible exact ih0 _ _ _ _ _)
   | (with_reducible exact ih1 _ _ _ _ _ _ _ _ _ _)
   | (with_reducible exact impl_IsProof.mono _ _)
   | (with_reducible exact impl_isMarkAlone.mono _ _ _ _ _)
   | (with_reducible exact LeO.refl _)
   | (with_reducible exact LeO.none _)
   | (with_reducible refine LeO.ite ?_ ?_)
   | (with_reducible refine LeO.bind ?_ (fun _ => ?_))
   | exact ih0 _ _ _ _ _
   | exact ih1 _ _ _ _ _ _ _ _ _ _
   | exact impl_IsProof.mono _ _
   | exact impl_isMarkAlone.mono _ _ _ _ _
   | exact LeO.none _
   | refine LeO.ite ?_ ?_
   | refine LeO.bind ?_ (fun _ => ?_)
  ·intro y0 y1 y2 y3 y4 y5 y6 y7 y8 y9
   unfold impl_AreMarks.j1
   repeat' first
   | (with_reducible exact ih0 _ _ _ _ _)
   | (with_reducible exact ih1 _ _ _ _ _ _ _ _ _ _)
   | (with_reducible exact impl_IsProof.mono _ _)
   | (with_reducible exact impl_isMarkAlone.mono _ _ _ _ _)
   | (with_reducible exact LeO.refl _)
   | (with_reducible exact LeO.none _)
   | (with_reducible refine LeO.ite ?_ ?_)
   | (with_reducible refine LeO.bind ?_ (fun _ => ?_))
   | exact ih0 _ _ _ _ _
   | exact ih1 _ _ _ _ _ _ _ _ _ _
   | exact impl_IsProof.mono _ _
   | exact impl_isMarkAlone.mono _ _ _ _ _
   | exact LeO.none _
   | refine LeO.ite ?_ ?_
   | refine LeO.bind ?_ (fun _ => ?_)
theorem impl_AreMarks.mono : ∀ a0 a1 k, LeO (impl_AreMarks.f k a0 a1) (impl_AreMarks.f (k + 1) a0 a1) := by
 intro a0 a1 k
 obtain ⟨ih0, ih1⟩ := impl_AreMarks.mono_l k
 unfold impl_AreMarks.f
 repeat' first
   | (with_reducible exact ih0 _ _ _ _ _)
   | (with_reducible exact ih1 _ _ _ _ _ _ _ _ _ _)
   | (with_reducible exact impl_IsProof.mono _ _)
   | (with_reducible exact impl_isMarkAlone.mono _ _ _ _ _)
   | (with_reducible exact LeO.refl _)
   | (with_reducible exact LeO.none _)
   | (with_reducible refine LeO.ite ?_ ?_)
   | (with_reducible refine LeO.bind ?_ (fun _ => ?_))
   | exact ih0 _ _ _ _ _
   | exact ih1 _ _ _ _ _ _ _ _ _ _
   | exact impl_IsProof.mono _ _
   | exact impl_isMarkAlone.mono _ _ _ _ _
   | exact LeO.none _
   | refine LeO.ite ?_ ?_
   | refine LeO.bind ?_ (fun _ => ?_)
set_option maxHeartbeats 8000000 in
set_option maxRecDepth 100000 in
theorem impl_AreMarks.calls (k : Nat) (A0 : Option Addr) (c0 : Nat) (l0 : List ByteArray) (A1 : Option Addr) (c1 : Nat) (l1 : List (S68)) (r : Bool) (w : World) (hr0 : Kd.C Kd.string w A0 l0.length l0) (hc0 : l0.length ≤ c0) (hr1 : Kd.C k68 w A1 l1.length l1) (hc1 : l1.length ≤ c1) (h : impl_AreMarks.f k l0 l1 = some r) :
  Calls Try.prog 77 #[.slice A0 l0.length c0, .slice A1 l1.length c1] w fun e w' => e = .returned (.bool r) ∧ Below w.heap.size w w' := by
 have hu68 := Try.underlying68
 have HR0 := Aside0.mk hr0
 have HC0 := Aside0.mk hc0
 clear hr0 hc0
 have HR1 := Aside0.mk hr1
 have HC1 := Aside0.mk hc1
 clear hr1 hc1
 have HB := Aside0.mk (Below.refl w.heap.size w)
 have H : (impl_AreMarks.l0 k l0 l1 l1 (l1.length : Int) 0) = some r := h
 clear h
 have H' := Aside0.mk H
 clear H
 go_enter Try.func77, Try.ntmps77
 go_wp2
 go_loopg [10] k (fun kq v10 w' => ∃ (x10_1 : Int), v10 = .int .i64 x10_1 ∧ Aside0 (impl_AreMarks.l0 kq l0 l1 l1 (l1.length : Int) x10_1 = some r) ∧ Aside0 (kq ≤ k) ∧ Aside0 (Below w.heap.size w w'))
 case atStart => exact ⟨(0), (by first | rfl | (simp; done) | (simp [*]; done)), H', ⟨Nat.le_refl _⟩, ⟨by repeat (first | (with_reducible first | exact HB.out | apply below_alloc | apply pw_below_drewN | apply below_drew1) | exact HB.out | exact Below.refl _ _)⟩⟩
 case round =>
  clear H'
  (try clear c1); (try clear p2)
  obtain ⟨x10_1, rfl, HA, HK1, HB⟩ := hrel
  cases gk with
  | zero => exact absurd HA.out (by simp [impl_AreMarks.l0])
  | succ k1 =>
   have H := HA.out
   clear HA
   simp only [impl_AreMarks.l0] at H
   by_cases c3 : x10_1 < (l1.length : Int)
   ·rw [if_pos c3] at H
    have c3b0 : decide (x10_1 < (l1.length : Int)) = true := decide_eq_true c3
    clear c3
    by_cases c4 : 0 ≤ x10_1
    ·rw [if_pos c4] at H
     have c4b0 : decide (0 ≤ x10_1) = true := decide_eq_true c4
     clear c4
     by_cases c5 : x10_1 < (l1.length : Int)
     ·rw [if_pos c5] at H
      have c5b0 : decide (x10_1 < (l1.length : Int)) = true := decide_eq_true c5
      clear c5
      have HC6 := Aside0.mk H
      clear H
      have p206 : 0 ≤ (x10_1 : Int) := of_decide_eq_true (by first | (with_reducible assumption) | assumption)
      have q206 : x10_1 < (l1.length : Int) := of_decide_eq_true (by first | (with_reducible assumption) | assumption)
      obtain ⟨ad206, e206, hx206_0, hx206_1, hx206_2, hx206_3⟩ := at_T68 HR1.out x10_1 p206 q206
      cases e206
      replace hx206_0 := (HB.out.cell (World.block_lt_of_cell? w _ hx206_0)).trans hx206_0
      replace hx206_1 := (HB.out.cell (World.block_lt_of_cell? w _ hx206_1)).trans hx206_1
      replace hx206_2 := (HB.out.cell (World.block_lt_of_cell? w _ hx206_2)).trans hx206_2
      replace hx206_3 := (HB.out.cell (World.block_lt_of_cell? w _ hx206_3)).trans hx206_3
      replace p206 := eq_true p206
      replace q206 := eq_true q206
      go_upto_region 4 with (first | ((with_reducible refine gate_dst (N := 6) rfl ?_); (try (refine gate_guard (by rfl) ?_; dsimp only)); refine box_event ?hg (N := 6) ?hd (cs := #[.int .i64 0, .int .i64 0, .int .i64 0, .string (⟨#[]⟩ : ByteArray)]) (t := 68) ?hr ?_; (case hd => rfl); (case hg => rfl); (case hr => first | (go_simp; done) | (go_simp; rfl)); intro gb207 hg w7 hbox hb; have n0_ := Aside0.mk (below_step (by repeat (first | (with_reducible first | exact HB.out | apply below_alloc | apply pw_below_drewN | apply below_drew1) | exact HB.out | exact Below.refl _ _)) hb); have n1_ := Aside0.mk (hbox); have n2_ := Aside0.mk ((by rw [hg]; exact (below_size (by repeat (first | (with_reducible first | exact HB.out | apply below_alloc | apply pw_below_drewN | apply below_drew1) | exact HB.out | exact Below.refl _ _))) : w.heap.size ≤ gb207)); have n3_ := Aside0.mk ((by rw [hg]; exact (below_size (by repeat (first | (with_reducible first | exact HB.out | apply below_alloc | apply pw_below_drewN | apply below_drew1) | exact HB.out | exact Below.refl _ _))) : w.heap.size ≤ gb207)); clear HB; have HB := n0_; have BK207 := n1_; have GW207 := n2_; have GE207 := n3_; clear n0_ n1_ n2_ n3_; clear hb hbox hg; have hcz8_0 : w7.cell? ⟨gb207, 0, none⟩ = some (.int .i64 0) := (blk_cell BK207.out 0).trans rfl; have hcz8_1 : w7.cell? ⟨gb207, 1, none⟩ = some (.int .i64 0) := (blk_cell BK207.out 1).trans rfl; have hcz8_2 : w7.cell? ⟨gb207, 2, none⟩ = some (.int .i64 0) := (blk_cell BK207.out 2).trans rfl; have hcz8_3 : w7.cell? ⟨gb207, 3, none⟩ = some (.string (⟨#[]⟩ : ByteArray)) := (blk_cell BK207.out 3).trans rfl; have hfz8_0 := blk_frozen BK207.out 0; have hfz8_1 := blk_frozen BK207.out 1; have hfz8_2 := blk_frozen BK207.out 2; have hfz8_3 := blk_frozen BK207.out 3))
      (try simp only [Act.put, List.setIfInBounds_toArray, List.set_cons_zero, List.set_cons_succ])
      go_cut [23] (fun v23 wc => ∃ (kq : Nat) (x23_5 : Bool), v23 = .bool x23_5 ∧ Aside0 (impl_AreMarks.j1 kq l0 l1 l1 (l1.length : Int) x10_1 x23_5 ((rd_T68 l1 x10_1).f0) ((rd_T68 l1 x10_1).f1) ((rd_T68 l1 x10_1).f2) ((rd_T68 l1 x10_1).f3) = some r) ∧ Aside0 (kq ≤ k1) ∧ Aside0 (wc.heap[gb207]? = some (.cells #[.int .i64 ((rd_T68 l1 x10_1).f0), .int .i64 ((rd_T68 l1 x10_1).f1), .int .i64 ((rd_T68 l1 x10_1).f2), .string ((rd_T68 l1 x10_1).f3)] 68 (0, 0))) ∧ Aside0 (Below w.heap.size w wc))
      case first =>
       have H := HC6.out
       clear HC6
       replace H := Option.bind_eq_some_iff.mp H
       obtain ⟨t208, A90, H⟩ := H
       replace H : (if t208 = true then (impl_AreMarks.j1 k1 l0 l1 l1 (l1.length : Int) x10_1 (decide (((rd_T68 l1 x10_1).f0) ≥ (l0.length : Int))) ((rd_T68 l1 x10_1).f0) ((rd_T68 l1 x10_1).f1) ((rd_T68 l1 x10_1).f2) ((rd_T68 l1 x10_1).f3)) else (impl_AreMarks.j1 k1 l0 l1 l1 (l1.length : Int) x10_1 true ((rd_T68 l1 x10_1).f0) ((rd_T68 l1 x10_1).f1) ((rd_T68 l1 x10_1).f2) ((rd_T68 l1 x10_1).f3))) = some r := H
       have A9 := Aside0.mk A90
       clear A90
       by_cases c10 : t208 = true
       ·subst c10
        have H1 : (impl_AreMarks.j1 k1 l0 l1 l1 (l1.length : Int) x10_1 (decide (((rd_T68 l1 x10_1).f0) ≥ (l0.length : Int))) ((rd_T68 l1 x10_1).f0) ((rd_T68 l1 x10_1).f1) ((rd_T68 l1 x10_1).f2) ((rd_T68 l1 x10_1).f3)) = some r := by rw [if_pos rfl] at H; exact H
        clear H
        have H := H1
        clear H1
        have H' := Aside0.mk H
        clear H
        have hcz11_0 : w7.cell? ⟨gb207, 0, none⟩ = some (.int .i64 0) := (blk_cell BK207.out 0).trans rfl
        have hcz11_1 : w7.cell? ⟨gb207, 1, none⟩ = some (.int .i64 0) := (blk_cell BK207.out 1).trans rfl
        have hcz11_2 : w7.cell? ⟨gb207, 2, none⟩ = some (.int .i64 0) := (blk_cell BK207.out 2).trans rfl
        have hcz11_3 : w7.cell? ⟨gb207, 3, none⟩ = some (.string (⟨#[]⟩ : ByteArray)) := (blk_cell BK207.out 3).trans rfl
        have hfz11_0 := blk_frozen BK207.out 0
        have hfz11_1 := blk_frozen BK207.out 1
        have hfz11_2 := blk_frozen BK207.out 2
        have hfz11_3 := blk_frozen BK207.out 3
        go_wp2_with (first | ((with_reducible refine gate_callee (f := 84) rfl ?_); refine goesL_ (some 15) rfl rfl Try.func84 (by kernel_rfl) rfl #[.agg #[.int .i64 ((rd_T68 l1 x10_1).f0), .int .i64 ((rd_T68 l1 x10_1).f1), .int .i64 ((rd_T68 l1 x10_1).f2), .string ((rd_T68 l1 x10_1).f3)]] rfl (by (try simp only [List.map_toArray, List.map_cons, List.map_nil]); first | done | rfl | (simp only [List.length_drop, List.length_take]; rfl)) ?_; (with_reducible refine (impl_isMarkAlone.calls k1 ((rd_T68 l1 x10_1).f0) ((rd_T68 l1 x10_1).f1) ((rd_T68 l1 x10_1).f2) ((rd_T68 l1 x10_1).f3) true _ A9.out).mono ?_); rintro e w12 ⟨rfl, hb⟩; refine ⟨_, rfl, ?_⟩; have n0_ := Aside0.mk (blk_below (g := gb207) (o := .cells #[.int .i64 ((rd_T68 l1 x10_1).f0), .int .i64 ((rd_T68 l1 x10_1).f1), .int .i64 ((rd_T68 l1 x10_1).f2), .string ((rd_T68 l1 x10_1).f3)] 68 (0, 0)) (by (with_reducible repeat (first | refine blk_drewN ?_ _ | refine blk_drew ?_ | refine blk_alloc ?_ _)); refine blk_put (cs := #[.int .i64 ((rd_T68 l1 x10_1).f0), .int .i64 ((rd_T68 l1 x10_1).f1), .int .i64 ((rd_T68 l1 x10_1).f2), .string (⟨#[]⟩ : ByteArray)]) ?_ 3 _ rfl; (with_reducible repeat (first | refine blk_drewN ?_ _ | refine blk_drew ?_ | refine blk_alloc ?_ _)); refine blk_put (cs := #[.int .i64 ((rd_T68 l1 x10_1).f0), .int .i64 ((rd_T68 l1 x10_1).f1), .int .i64 0, .string (⟨#[]⟩ : ByteArray)]) ?_ 2 _ rfl; (with_reducible repeat (first | refine blk_drewN ?_ _ | refine blk_drew ?_ | refine blk_alloc ?_ _)); refine blk_put (cs := #[.int .i64 ((rd_T68 l1 x10_1).f0), .int .i64 0, .int .i64 0, .string (⟨#[]⟩ : ByteArray)]) ?_ 1 _ rfl; (with_reducible repeat (first | refine blk_drewN ?_ _ | refine blk_drew ?_ | refine blk_alloc ?_ _)); refine blk_put (cs := #[.int .i64 0, .int .i64 0, .int .i64 0, .string (⟨#[]⟩ : ByteArray)]) ?_ 0 _ rfl; (with_reducible repeat (first | refine blk_drewN ?_ _ | refine blk_drew ?_ | refine blk_alloc ?_ _)); exact BK207.out) hb); have n1_ := Aside0.mk (below_step (by repeat (first | (with_reducible first | exact HB.out | apply below_alloc | apply pw_below_drewN | apply below_drew1 | refine below_set ?_ GE207.out) | exact HB.out | exact Below.refl _ _)) hb); clear BK207; clear HB; have BK207 := n0_; have HB := n1_; clear n0_ n1_; (try clear hb); (try clear hb2); (try clear hk); (try clear hi); have hcz13_0 : w12.cell? ⟨gb207, 0, none⟩ = some (.int .i64 ((rd_T68 l1 x10_1).f0)) := (blk_cell BK207.out 0).trans rfl; have hcz13_1 : w12.cell? ⟨gb207, 1, none⟩ = some (.int .i64 ((rd_T68 l1 x10_1).f1)) := (blk_cell BK207.out 1).trans rfl; have hcz13_2 : w12.cell? ⟨gb207, 2, none⟩ = some (.int .i64 ((rd_T68 l1 x10_1).f2)) := (blk_cell BK207.out 2).trans rfl; have hcz13_3 : w12.cell? ⟨gb207, 3, none⟩ = some (.string ((rd_T68 l1 x10_1).f3)) := (blk_cell BK207.out 3).trans rfl; have hfz13_0 := blk_frozen BK207.out 0; have hfz13_1 := blk_frozen BK207.out 1; have hfz13_2 := blk_frozen BK207.out 2; have hfz13_3 := blk_frozen BK207.out 3))
        go_meet
        case rel => exact ⟨_, (decide (((rd_T68 l1 x10_1).f0) ≥ (l0.length : Int))), (by first | rfl | (simp; done) | (simp [*]; done)), H', ⟨by have := HK1.out; first | omega | exact Nat.le_refl _⟩, ⟨by (with_reducible repeat (first | refine blk_drewN ?_ _ | refine blk_drew ?_ | refine blk_alloc ?_ _)); exact BK207.out⟩, ⟨by repeat (first | (with_reducible first | exact HB.out | apply below_alloc | apply pw_below_drewN | apply below_drew1 | refine below_set ?_ GE207.out) | exact HB.out | exact Below.refl _ _)⟩⟩
       ·replace c10 := Bool.eq_false_iff.mpr c10
        subst c10
        have H1 : (impl_AreMarks.j1 k1 l0 l1 l1 (l1.length : Int) x10_1 true ((rd_T68 l1 x10_1).f0) ((rd_T68 l1 x10_1).f1) ((rd_T68 l1 x10_1).f2) ((rd_T68 l1 x10_1).f3)) = some r := by rw [if_neg (show ¬ (false = true) by decide)] at H; exact H
        clear H
        have H := H1
        clear H1
        have H' := Aside0.mk H
        clear H
        have hcz14_0 : w7.cell? ⟨gb207, 0, none⟩ = some (.int .i64 0) := (blk_cell BK207.out 0).trans rfl
        have hcz14_1 : w7.cell? ⟨gb207, 1, none⟩ = some (.int .i64 0) := (blk_cell BK207.out 1).trans rfl
        have hcz14_2 : w7.cell? ⟨gb207, 2, none⟩ = some (.int .i64 0) := (blk_cell BK207.out 2).trans rfl
        have hcz14_3 : w7.cell? ⟨gb207, 3, none⟩ = some (.string (⟨#[]⟩ : ByteArray)) := (blk_cell BK207.out 3).trans rfl
        have hfz14_0 := blk_frozen BK207.out 0
        have hfz14_1 := blk_frozen BK207.out 1
        have hfz14_2 := blk_frozen BK207.out 2
        have hfz14_3 := blk_frozen BK207.out 3
        go_wp2_with (first | ((with_reducible refine gate_callee (f := 84) rfl ?_); refine goesL_ (some 15) rfl rfl Try.func84 (by kernel_rfl) rfl #[.agg #[.int .i64 ((rd_T68 l1 x10_1).f0), .int .i64 ((rd_T68 l1 x10_1).f1), .int .i64 ((rd_T68 l1 x10_1).f2), .string ((rd_T68 l1 x10_1).f3)]] rfl (by (try simp only [List.map_toArray, List.map_cons, List.map_nil]); first | done | rfl | (simp only [List.length_drop, List.length_take]; rfl)) ?_; (with_reducible refine (impl_isMarkAlone.calls k1 ((rd_T68 l1 x10_1).f0) ((rd_T68 l1 x10_1).f1) ((rd_T68 l1 x10_1).f2) ((rd_T68 l1 x10_1).f3) false _ A9.out).mono ?_); rintro e w15 ⟨rfl, hb⟩; refine ⟨_, rfl, ?_⟩; have n0_ := Aside0.mk (blk_below (g := gb207) (o := .cells #[.int .i64 ((rd_T68 l1 x10_1).f0), .int .i64 ((rd_T68 l1 x10_1).f1), .int .i64 ((rd_T68 l1 x10_1).f2), .string ((rd_T68 l1 x10_1).f3)] 68 (0, 0)) (by (with_reducible repeat (first | refine blk_drewN ?_ _ | refine blk_drew ?_ | refine blk_alloc ?_ _)); refine blk_put (cs := #[.int .i64 ((rd_T68 l1 x10_1).f0), .int .i64 ((rd_T68 l1 x10_1).f1), .int .i64 ((rd_T68 l1 x10_1).f2), .string (⟨#[]⟩ : ByteArray)]) ?_ 3 _ rfl; (with_reducible repeat (first | refine blk_drewN ?_ _ | refine blk_drew ?_ | refine blk_alloc ?_ _)); refine blk_put (cs := #[.int .i64 ((rd_T68 l1 x10_1).f0), .int .i64 ((rd_T68 l1 x10_1).f1), .int .i64 0, .string (⟨#[]⟩ : ByteArray)]) ?_ 2 _ rfl; (with_reducible repeat (first | refine blk_drewN ?_ _ | refine blk_drew ?_ | refine blk_alloc ?_ _)); refine blk_put (cs := #[.int .i64 ((rd_T68 l1 x10_1).f0), .int .i64 0, .int .i64 0, .string (⟨#[]⟩ : ByteArray)]) ?_ 1 _ rfl; (with_reducible repeat (first | refine blk_drewN ?_ _ | refine blk_drew ?_ | refine blk_alloc ?_ _)); refine blk_put (cs := #[.int .i64 0, .int .i64 0, .int .i64 0, .string (⟨#[]⟩ : ByteArray)]) ?_ 0 _ rfl; (with_reducible repeat (first | refine blk_drewN ?_ _ | refine blk_drew ?_ | refine blk_alloc ?_ _)); exact BK207.out) hb); have n1_ := Aside0.mk (below_step (by repeat (first | (with_reducible first | exact HB.out | apply below_alloc | apply pw_below_drewN | apply below_drew1 | refine below_set ?_ GE207.out) | exact HB.out | exact Below.refl _ _)) hb); clear BK207; clear HB; have BK207 := n0_; have HB := n1_; clear n0_ n1_; (try clear hb); (try clear hb2); (try clear hk); (try clear hi)))
        go_meet
        case rel => exact ⟨_, (true), (by first | rfl | (simp; done) | (simp [*]; done)), H', ⟨by have := HK1.out; first | omega | exact Nat.le_refl _⟩, ⟨by (with_reducible repeat (first | refine blk_drewN ?_ _ | refine blk_drew ?_ | refine blk_alloc ?_ _)); exact BK207.out⟩, ⟨by repeat (first | (with_reducible first | exact HB.out | apply below_alloc | apply pw_below_drewN | apply below_drew1 | refine below_set ?_ GE207.out) | exact HB.out | exact Below.refl _ _)⟩⟩
      case rest =>
       clear HC6
       (try clear c1); (try clear p2); (try clear q2); (try clear hx2); (try clear c3); (try clear c3b0); (try clear c4); (try clear c4b0); (try clear c5); (try clear c5b0); (try clear c7); (try clear c8); (try clear c10); (try clear hcz11_0); (try clear hcz11_1); (try clear hcz11_2); (try clear hcz11_3); (try clear hcz13_0); (try clear hcz13_1); (try clear hcz13_2); (try clear hcz13_3); (try clear hcz14_0); (try clear hcz14_1); (try clear hcz14_2); (try clear hcz14_3); (try clear hcz8_0); (try clear hcz8_1); (try clear hcz8_2); (try clear hcz8_3); (try clear hfz11_0); (try clear hfz11_1); (try clear hfz11_2); (try clear hfz11_3); (try clear hfz13_0); (try clear hfz13_1); (try clear hfz13_2); (try clear hfz13_3); (try clear hfz14_0); (try clear hfz14_1); (try clear hfz14_2); (try clear hfz14_3); (try clear hfz8_0); (try clear hfz8_1); (try clear hfz8_2); (try clear hfz8_3); (try clear hx206_0); (try clear hx206_1); (try clear hx206_2); (try clear hx206_3); (try clear p2); (try clear p206); (try clear q206)
       obtain ⟨kq, x23_5, rfl, HA, HJ5, BK207, HB⟩ := hcut
       cases kq with
       | zero => exact absurd HA.out (by simp [impl_AreMarks.j1])
       | succ kj5 =>
        have H := HA.out
        clear HA
        simp only [impl_AreMarks.j1] at H
        by_cases c16 : x23_5 = true
        ·subst c16
         have H1 : (some false) = some r := by rw [if_pos rfl] at H; exact H
         clear H
         have H := H1
         clear H1
         obtain rfl := Option.some.inj H
         go_wp2
         go_ret
         exact ⟨by first | rfl | (simp [errW_none, errW_some] <;> rfl) | (simp [*, errW_none, errW_some] <;> rfl), by repeat (first | (with_reducible first | exact HB.out | apply below_alloc | apply pw_below_drewN | apply below_drew1 | refine below_set ?_ GE207.out) | exact HB.out | exact Below.refl _ _)⟩
        ·replace c16 := Bool.eq_false_iff.mpr c16
         subst c16
         have H1 : (if 0 ≤ ((rd_T68 l1 x10_1).f0) then (if ((rd_T68 l1 x10_1).f0) < (l0.length : Int) then (if ((rd_T68 l1 x10_1).f1) > ((rdOf ByteArray.empty l0 ((rd_T68 l1 x10_1).f0)).size : Int) then (some false) else (if ((rd_T68 l1 x10_1).f1) = ((rdOf ByteArray.empty l0 ((rd_T68 l1 x10_1).f0)).size : Int) then (if ((rd_T68 l1 x10_1).f2) = 1 then (some false) else (if ((rd_T68 l1 x10_1).f2) = 3 then (some false) else (impl_AreMarks.l0 kj5 l0 l1 l1 (l1.length : Int) (wrap64 (x10_1 + 1))))) else (impl_AreMarks.l0 kj5 l0 l1 l1 (l1.length : Int) (wrap64 (x10_1 + 1))))) else (none)) else (none)) = some r := by rw [if_neg (show ¬ (false = true) by decide)] at H; exact H
         clear H
         have H := H1
         clear H1
         by_cases c17 : 0 ≤ ((rd_T68 l1 x10_1).f0)
         ·rw [if_pos c17] at H
          have c17b0 : decide (0 ≤ ((rd_T68 l1 x10_1).f0)) = true := decide_eq_true c17
          clear c17
          by_cases c18 : ((rd_T68 l1 x10_1).f0) < (l0.length : Int)
          ·rw [if_pos c18] at H
           have c18b0 : decide (((rd_T68 l1 x10_1).f0) < (l0.length : Int)) = true := decide_eq_true c18
           clear c18
           by_cases c19 : ((rd_T68 l1 x10_1).f1) > ((rdOf ByteArray.empty l0 ((rd_T68 l1 x10_1).f0)).size : Int)
           ·rw [if_pos c19] at H
            have c19b0 : decide (((rdOf ByteArray.empty l0 ((rd_T68 l1 x10_1).f0)).size : Int) < ((rd_T68 l1 x10_1).f1)) = true := decide_eq_true c19
            clear c19
            obtain rfl := Option.some.inj H
            have hcz20_0 : wc.cell? ⟨gb207, 0, none⟩ = some (.int .i64 ((rd_T68 l1 x10_1).f0)) := (blk_cell BK207.out 0).trans rfl
            have hcz20_1 : wc.cell? ⟨gb207, 1, none⟩ = some (.int .i64 ((rd_T68 l1 x10_1).f1)) := (blk_cell BK207.out 1).trans rfl
            have hcz20_2 : wc.cell? ⟨gb207, 2, none⟩ = some (.int .i64 ((rd_T68 l1 x10_1).f2)) := (blk_cell BK207.out 2).trans rfl
            have hcz20_3 : wc.cell? ⟨gb207, 3, none⟩ = some (.string ((rd_T68 l1 x10_1).f3)) := (blk_cell BK207.out 3).trans rfl
            have hfz20_0 := blk_frozen BK207.out 0
            have hfz20_1 := blk_frozen BK207.out 1
            have hfz20_2 := blk_frozen BK207.out 2
            have hfz20_3 := blk_frozen BK207.out 3
            have p209 : 0 ≤ (((rd_T68 l1 x10_1).f0) : Int) := of_decide_eq_true (by first | (with_reducible assumption) | assumption)
            have q209 : ((rd_T68 l1 x10_1).f0) < (l0.length : Int) := of_decide_eq_true (by first | (with_reducible assumption) | assumption)
            obtain ⟨ad209, e209, hx209_0⟩ := Kd.at_string HR0.out ((rd_T68 l1 x10_1).f0) p209 q209
            cases e209
            replace hx209_0 := (HB.out.cell (World.block_lt_of_cell? w _ hx209_0)).trans hx209_0
            replace p209 := eq_true p209
            replace q209 := eq_true q209
            go_wp2
            go_ret
            exact ⟨by first | rfl | (simp [errW_none, errW_some] <;> rfl) | (simp [*, errW_none, errW_some] <;> rfl), by repeat (first | (with_reducible first | exact HB.out | apply below_alloc | apply pw_below_drewN | apply below_drew1 | refine below_set ?_ GE207.out) | exact HB.out | exact Below.refl _ _)⟩
           ·rw [if_neg c19] at H
            have c19b0 : decide (((rdOf ByteArray.empty l0 ((rd_T68 l1 x10_1).f0)).size : Int) < ((rd_T68 l1 x10_1).f1)) = false := decide_eq_false c19
            clear c19
            by_cases c21 : ((rd_T68 l1 x10_1).f1) = ((rdOf ByteArray.empty l0 ((rd_T68 l1 x10_1).f0)).size : Int)
            ·rw [if_pos c21] at H
             have c21b0 : (((rd_T68 l1 x10_1).f1) == ((rdOf ByteArray.empty l0 ((rd_T68 l1 x10_1).f0)).size : Int)) = true := beq_iff_eq.mpr c21
             have c21b1 : (((rd_T68 l1 x10_1).f1) != ((rdOf ByteArray.empty l0 ((rd_T68 l1 x10_1).f0)).size : Int)) = false := bne_eq_false_iff_eq.mpr c21
             clear c21
             by_cases c22 : ((rd_T68 l1 x10_1).f2) = 1
             ·rw [if_pos c22] at H
              have c22b0 : (((rd_T68 l1 x10_1).f2) == 1) = true := beq_iff_eq.mpr c22
              have c22b1 : (((rd_T68 l1 x10_1).f2) != 1) = false := bne_eq_false_iff_eq.mpr c22
              clear c22
              obtain rfl := Option.some.inj H
              have hcz23_0 : wc.cell? ⟨gb207, 0, none⟩ = some (.int .i64 ((rd_T68 l1 x10_1).f0)) := (blk_cell BK207.out 0).trans rfl
              have hcz23_1 : wc.cell? ⟨gb207, 1, none⟩ = some (.int .i64 ((rd_T68 l1 x10_1).f1)) := (blk_cell BK207.out 1).trans rfl
              have hcz23_2 : wc.cell? ⟨gb207, 2, none⟩ = some (.int .i64 ((rd_T68 l1 x10_1).f2)) := (blk_cell BK207.out 2).trans rfl
              have hcz23_3 : wc.cell? ⟨gb207, 3, none⟩ = some (.string ((rd_T68 l1 x10_1).f3)) := (blk_cell BK207.out 3).trans rfl
              have hfz23_0 := blk_frozen BK207.out 0
              have hfz23_1 := blk_frozen BK207.out 1
              have hfz23_2 := blk_frozen BK207.out 2
              have hfz23_3 := blk_frozen BK207.out 3
              have p209 : 0 ≤ (((rd_T68 l1 x10_1).f0) : Int) := of_decide_eq_true (by first | (with_reducible assumption) | assumption)
              have q209 : ((rd_T68 l1 x10_1).f0) < (l0.length : Int) := of_decide_eq_true (by first | (with_reducible assumption) | assumption)
              obtain ⟨ad209, e209, hx209_0⟩ := Kd.at_string HR0.out ((rd_T68 l1 x10_1).f0) p209 q209
              cases e209
              replace hx209_0 := (HB.out.cell (World.block_lt_of_cell? w _ hx209_0)).trans hx209_0
              replace p209 := eq_true p209
              replace q209 := eq_true q209
              go_wp2
              go_ret
              exact ⟨by first | rfl | (simp [errW_none, errW_some] <;> rfl) | (simp [*, errW_none, errW_some] <;> rfl), by repeat (first | (with_reducible first | exact HB.out | apply below_alloc | apply pw_below_drewN | apply below_drew1 | refine below_set ?_ GE207.out) | exact HB.out | exact Below.refl _ _)⟩
             ·rw [if_neg c22] at H
              have c22b0 : (((rd_T68 l1 x10_1).f2) == 1) = false := beq_eq_false_iff_ne.mpr c22
              have c22b1 : (((rd_T68 l1 x10_1).f2) != 1) = true := bne_iff_ne.mpr c22
              by_cases c24 : ((rd_T68 l1 x10_1).f2) = 3
              ·rw [if_pos c24] at H
               have c24b0 : (((rd_T68 l1 x10_1).f2) == 3) = true := beq_iff_eq.mpr c24
               have c24b1 : (((rd_T68 l1 x10_1).f2) != 3) = false := bne_eq_false_iff_eq.mpr c24
               clear c24
               obtain rfl := Option.some.inj H
               have hcz25_0 : wc.cell? ⟨gb207, 0, none⟩ = some (.int .i64 ((rd_T68 l1 x10_1).f0)) := (blk_cell BK207.out 0).trans rfl
               have hcz25_1 : wc.cell? ⟨gb207, 1, none⟩ = some (.int .i64 ((rd_T68 l1 x10_1).f1)) := (blk_cell BK207.out 1).trans rfl
               have hcz25_2 : wc.cell? ⟨gb207, 2, none⟩ = some (.int .i64 ((rd_T68 l1 x10_1).f2)) := (blk_cell BK207.out 2).trans rfl
               have hcz25_3 : wc.cell? ⟨gb207, 3, none⟩ = some (.string ((rd_T68 l1 x10_1).f3)) := (blk_cell BK207.out 3).trans rfl
               have hfz25_0 := blk_frozen BK207.out 0
               have hfz25_1 := blk_frozen BK207.out 1
               have hfz25_2 := blk_frozen BK207.out 2
               have hfz25_3 := blk_frozen BK207.out 3
               have p209 : 0 ≤ (((rd_T68 l1 x10_1).f0) : Int) := of_decide_eq_true (by first | (with_reducible assumption) | assumption)
               have q209 : ((rd_T68 l1 x10_1).f0) < (l0.length : Int) := of_decide_eq_true (by first | (with_reducible assumption) | assumption)
               obtain ⟨ad209, e209, hx209_0⟩ := Kd.at_string HR0.out ((rd_T68 l1 x10_1).f0) p209 q209
               cases e209
               replace hx209_0 := (HB.out.cell (World.block_lt_of_cell? w _ hx209_0)).trans hx209_0
               replace p209 := eq_true p209
               replace q209 := eq_true q209
               go_wp2
               go_ret
               exact ⟨by first | rfl | (simp [errW_none, errW_some] <;> rfl) | (simp [*, errW_none, errW_some] <;> rfl), by repeat (first | (with_reducible first | exact HB.out | apply below_alloc | apply pw_below_drewN | apply below_drew1 | refine below_set ?_ GE207.out) | exact HB.out | exact Below.refl _ _)⟩
              ·rw [if_neg c24] at H
               have c24b0 : (((rd_T68 l1 x10_1).f2) == 3) = false := beq_eq_false_iff_ne.mpr c24
               have c24b1 : (((rd_T68 l1 x10_1).f2) != 3) = true := bne_iff_ne.mpr c24
               have H' := Aside0.mk H
               clear H
               have hcz26_0 : wc.cell? ⟨gb207, 0, none⟩ = some (.int .i64 ((rd_T68 l1 x10_1).f0)) := (blk_cell BK207.out 0).trans rfl
               have hcz26_1 : wc.cell? ⟨gb207, 1, none⟩ = some (.int .i64 ((rd_T68 l1 x10_1).f1)) := (blk_cell BK207.out 1).trans rfl
               have hcz26_2 : wc.cell? ⟨gb207, 2, none⟩ = some (.int .i64 ((rd_T68 l1 x10_1).f2)) := (blk_cell BK207.out 2).trans rfl
               have hcz26_3 : wc.cell? ⟨gb207, 3, none⟩ = some (.string ((rd_T68 l1 x10_1).f3)) := (blk_cell BK207.out 3).trans rfl
               have hfz26_0 := blk_frozen BK207.out 0
               have hfz26_1 := blk_frozen BK207.out 1
               have hfz26_2 := blk_frozen BK207.out 2
               have hfz26_3 := blk_frozen BK207.out 3
               have p209 : 0 ≤ (((rd_T68 l1 x10_1).f0) : Int) := of_decide_eq_true (by first | (with_reducible assumption) | assumption)
               have q209 : ((rd_T68 l1 x10_1).f0) < (l0.length : Int) := of_decide_eq_true (by first | (with_reducible assumption) | assumption)
               obtain ⟨ad209, e209, hx209_0⟩ := Kd.at_string HR0.out ((rd_T68 l1 x10_1).f0) p209 q209
               cases e209
               replace hx209_0 := (HB.out.cell (World.block_lt_of_cell? w _ hx209_0)).trans hx209_0
               replace p209 := eq_true p209
               replace q209 := eq_true q209
               go_wp2
               go_roundg kj5
               case measure => have := HK1.out; have := HJ5.out; omega
               case rel => exact ⟨(wrap64 (x10_1 + 1)), (by first | rfl | (simp; done) | (simp [*]; done)), H', ⟨by have := HK1.out; have := HJ5.out; omega⟩, ⟨by repeat (first | (with_reducible first | exact HB.out | apply below_alloc | apply pw_below_drewN | apply below_drew1 | refine below_set ?_ GE207.out) | exact HB.out | exact Below.refl _ _)⟩⟩
            ·rw [if_neg c21] at H
             have c21b0 : (((rd_T68 l1 x10_1).f1) == ((rdOf ByteArray.empty l0 ((rd_T68 l1 x10_1).f0)).size : Int)) = false := beq_eq_false_iff_ne.mpr c21
             have c21b1 : (((rd_T68 l1 x10_1).f1) != ((rdOf ByteArray.empty l0 ((rd_T68 l1 x10_1).f0)).size : Int)) = true := bne_iff_ne.mpr c21
             have H' := Aside0.mk H
             clear H
             have hcz27_0 : wc.cell? ⟨gb207, 0, none⟩ = some (.int .i64 ((rd_T68 l1 x10_1).f0)) := (blk_cell BK207.out 0).trans rfl
             have hcz27_1 : wc.cell? ⟨gb207, 1, none⟩ = some (.int .i64 ((rd_T68 l1 x10_1).f1)) := (blk_cell BK207.out 1).trans rfl
             have hcz27_2 : wc.cell? ⟨gb207, 2, none⟩ = some (.int .i64 ((rd_T68 l1 x10_1).f2)) := (blk_cell BK207.out 2).trans rfl
             have hcz27_3 : wc.cell? ⟨gb207, 3, none⟩ = some (.string ((rd_T68 l1 x10_1).f3)) := (blk_cell BK207.out 3).trans rfl
             have hfz27_0 := blk_frozen BK207.out 0
             have hfz27_1 := blk_frozen BK207.out 1
             have hfz27_2 := blk_frozen BK207.out 2
             have hfz27_3 := blk_frozen BK207.out 3
             have p209 : 0 ≤ (((rd_T68 l1 x10_1).f0) : Int) := of_decide_eq_true (by first | (with_reducible assumption) | assumption)
             have q209 : ((rd_T68 l1 x10_1).f0) < (l0.length : Int) := of_decide_eq_true (by first | (with_reducible assumption) | assumption)
             obtain ⟨ad209, e209, hx209_0⟩ := Kd.at_string HR0.out ((rd_T68 l1 x10_1).f0) p209 q209
             cases e209
             replace hx209_0 := (HB.out.cell (World.block_lt_of_cell? w _ hx209_0)).trans hx209_0
             replace p209 := eq_true p209
             replace q209 := eq_true q209
             go_wp2
             go_roundg kj5
             case measure => have := HK1.out; have := HJ5.out; omega
             case rel => exact ⟨(wrap64 (x10_1 + 1)), (by first | rfl | (simp; done) | (simp [*]; done)), H', ⟨by have := HK1.out; have := HJ5.out; omega⟩, ⟨by repeat (first | (with_reducible first | exact HB.out | apply below_alloc | apply pw_below_drewN | apply below_drew1 | refine below_set ?_ GE207.out) | exact HB.out | exact Below.refl _ _)⟩⟩
          ·rw [if_neg c18] at H
           exact absurd H (by simp)
         ·rw [if_neg c17] at H
          exact absurd H (by simp)
     ·rw [if_neg c5] at H
      exact absurd H (by simp)
    ·rw [if_neg c4] at H
     exact absurd H (by simp)
   ·rw [if_neg c3] at H
    have c3b0 : decide (x10_1 < (l1.length : Int)) = false := decide_eq_false c3
    clear c3
    replace H := Option.bind_eq_some_iff.mp H
    obtain ⟨t205, A280, H⟩ := H
    replace H : (if t205 = true then (some (decide ((l1.length : Int) ≤ 20))) else (some false)) = some r := H
    have A28 := Aside0.mk A280
    clear A280
    by_cases c29 : t205 = true
    ·subst c29
     have H1 : (some (decide ((l1.length : Int) ≤ 20))) = some r := by rw [if_pos rfl] at H; exact H
     clear H
     have H := H1
     clear H1
     obtain rfl := Option.some.inj H
     go_wp2_with (first | ((with_reducible refine gate_callee (f := 54) rfl ?_); refine goesL_ (some 52) rfl rfl Try.func54 (by kernel_rfl) rfl #[.slice A0 l0.length c0] rfl (by (try simp only [List.map_toArray, List.map_cons, List.map_nil]); first | done | rfl | (simp only [List.length_drop, List.length_take]; rfl)) ?_; (with_reducible refine (impl_IsProof.calls k1 _ _ l0 true _ ?side1 ?side2 A28.out).mono ?_); (case side1 => repeat (first | exact (Kd.C_below HR0.out HB.out) | exact HR0.out | (with_reducible refine Kd.C_alloc ?_ _) | (with_reducible refine Kd.C_drewN ?_ _) | (with_reducible refine Kd.C_drew ?_))); (case side2 => exact HC0.out); rintro e w' ⟨rfl, ⟨nd, rfl⟩⟩; refine ⟨_, rfl, ?_⟩))
     go_ret
     exact ⟨by first | rfl | (simp [errW_none, errW_some] <;> rfl) | (simp [*, errW_none, errW_some] <;> rfl), by repeat (first | (with_reducible first | exact HB.out | apply below_alloc | apply pw_below_drewN | apply below_drew1) | exact HB.out | exact Below.refl _ _)⟩
    ·replace c29 := Bool.eq_false_iff.mpr c29
     subst c29
     have H1 : (some false) = some r := by rw [if_neg (show ¬ (false = true) by decide)] at H; exact H
     clear H
     have H := H1
     clear H1
     obtain rfl := Option.some.inj H
     go_wp2_with (first | ((with_reducible refine gate_callee (f := 54) rfl ?_); refine goesL_ (some 52) rfl rfl Try.func54 (by kernel_rfl) rfl #[.slice A0 l0.length c0] rfl (by (try simp only [List.map_toArray, List.map_cons, List.map_nil]); first | done | rfl | (simp only [List.length_drop, List.length_take]; rfl)) ?_; (with_reducible refine (impl_IsProof.calls k1 _ _ l0 false _ ?side1 ?side2 A28.out).mono ?_); (case side1 => repeat (first | exact (Kd.C_below HR0.out HB.out) | exact HR0.out | (with_reducible refine Kd.C_alloc ?_ _) | (with_reducible refine Kd.C_drewN ?_ _) | (with_reducible refine Kd.C_drew ?_))); (case side2 => exact HC0.out); rintro e w' ⟨rfl, ⟨nd, rfl⟩⟩; refine ⟨_, rfl, ?_⟩))
     go_ret
     exact ⟨by first | rfl | (simp [errW_none, errW_some] <;> rfl) | (simp [*, errW_none, errW_some] <;> rfl), by repeat (first | (with_reducible first | exact HB.out | apply below_alloc | apply pw_below_drewN | apply below_drew1) | exact HB.out | exact Below.refl _ _)⟩

end Go.Proofs.Ytcnhdcgiapjpoaa.PFnExactMarksToNext
