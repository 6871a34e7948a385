/- The printed functions of the law FnExactFillChase and their contracts, mended by this session's program (mend.py) where the printed walk stops. No condition. -/
import Derived.Test.YthpgmjlhakdemaaQFnExactFillChasex0
import Derived.Test.YthpgmjlhakdemaaQFnExactFillChasex5
namespace Go.Proofs.Ythpgmjlhakdemaa.PFnExactFillChase
open Go.RowKit Go.Proofs.YthpgmjlhakdemaaW.PrintWords Go.Proofs.YthpgmjlhakdemaaW.PrintLast Go.Proofs.YthpgmjlhakdemaaW.PrintMore
attribute [local go_sem] max2_int min2_int max_two min_two max_three min_three max_four min_four   -- for this text's walks alone
set_option linter.unusedVariables false
set_option linter.unusedSimpArgs false

/-! ### impl_isRoom: function 57 -/
mutual
def impl_isRoom.j0 : Nat → List (List Int) → Int → Int → Bool → Int → Int → Int → Bool → Option (Bool)
 | 0, _, _, _, _, _, _, _, _ => none
 | k + 1, x0, x7, x8, x44, x207000, x207001, x207002, x207003 => if x44 = true then (some false) else (impl_isRoom.l0 k x0 x7 x8 x207002 x207000 x207001 x207002 x207003)
def impl_isRoom.l0 : Nat → List (List Int) → Int → Int → Int → Int → Int → Int → Bool → Option (Bool)
 | 0, _, _, _, _, _, _, _, _ => none
 | k + 1, x0, x7, x8, x9, x207000, x207001, x207002, x207003 => if x9 < (wrap64 (x207002 + x8)) then (impl_isRoom.l1 k x0 x7 x8 x9 x207001 x207000 x207001 x207002 x207003) else (some true)
def impl_isRoom.l1 : Nat → List (List Int) → Int → Int → Int → Int → Int → Int → Int → Bool → Option (Bool)
 | 0, _, _, _, _, _, _, _, _, _ => none
 | k + 1, x0, x7, x8, x9, x10, x207000, x207001, x207002, x207003 => if x10 < (wrap64 (x207001 + x7)) then (if 0 ≤ x9 then (if x9 < (x0.length : Int) then (if 0 ≤ x10 then (if x10 < ((rd_L5 x0 x9).length : Int) then (if (rd (rd_L5 x0 x9) x10) = (-1) then (impl_isRoom.l1 k x0 x7 x8 x9 (wrap64 (x10 + 1)) x207000 x207001 x207002 x207003) else (some false)) else (none)) else (none)) else (none)) else (none)) else (impl_isRoom.l0 k x0 x7 x8 (wrap64 (x9 + 1)) x207000 x207001 x207002 x207003)
end
def impl_isRoom.f (k : Nat) (l0 : List (List Int)) (l1 : List (S50)) (a2_0 : Int) (a2_1 : Int) (a2_2 : Int) (a2_3 : Bool) : Option (Bool) := (impl_sizeOf.f l1 a2_0 a2_1 a2_2 a2_3).bind fun bt207 => (if a2_1 < 0 then (impl_isRoom.j0 k l0 bt207.1 bt207.2 true a2_0 a2_1 a2_2 a2_3) else (if a2_2 < 0 then (impl_isRoom.j0 k l0 bt207.1 bt207.2 true a2_0 a2_1 a2_2 a2_3) else (if 0 < (l0.length : Int) then (if (wrap64 (a2_1 + bt207.1)) > ((rd_L5 l0 0).length : Int) then (impl_isRoom.j0 k l0 bt207.1 bt207.2 true a2_0 a2_1 a2_2 a2_3) else (impl_isRoom.j0 k l0 bt207.1 bt207.2 (decide ((wrap64 (a2_2 + bt207.2)) > (l0.length : Int))) a2_0 a2_1 a2_2 a2_3)) else (none))))
theorem impl_isRoom.mono_l : ∀ k, (∀ y0 y1 y2 y3 y4 y5 y6 y7, LeO (impl_isRoom.j0 k y0 y1 y2 y3 y4 y5 y6 y7) (impl_isRoom.j0 (k + 1) y0 y1 y2 y3 y4 y5 y6 y7)) ∧ (∀ y0 y1 y2 y3 y4 y5 y6 y7, LeO (impl_isRoom.l0 k y0 y1 y2 y3 y4 y5 y6 y7) (impl_isRoom.l0 (k + 1) y0 y1 y2 y3 y4 y5 y6 y7)) ∧ (∀ y0 y1 y2 y3 y4 y5 y6 y7 y8, LeO (impl_isRoom.l1 k y0 y1 y2 y3 y4 y5 y6 y7 y8) (impl_isRoom.l1 (k + 1) y0 y1 y2 y3 y4 y5 y6 y7 y8))
 | 0 => ⟨fun _ _ _ _ _ _ _ _ r h => by simp [impl_isRoom.j0] at h, fun _ _ _ _ _ _ _ _ r h => by simp [impl_isRoom.l0] at h, fun _ _ _ _ _ _ _ _ _ r h => by simp [impl_isRoom.l1] at h⟩
 | k + 1 => by
  obtain ⟨ih0, ih1, ih2⟩ := impl_isRoom.mono_l k
  refine ⟨?_, ?_, ?_⟩
  ·intro y0 y1 y2 y3 y4 y5 y6 y7
   unfold impl_isRoom.j0
   repeat' first
   | (with_reducible exact ih0 _ _ _ _ _ _ _ _)
   | (with_reducible exact ih1 _ _ _ _ _ _ _ _)
   | (with_reducible exact ih2 _ _ _ _ _ _ _ _ _)
   | (with_reducible exact LeO.refl _)
   | (with_reducible exact LeO.none _)
   | (with_reducible refine LeO.ite ?_ ?_)
   | (with_reducible refine LeO.bind ?_ (fun _ => ?_))
   | exact ih0 _ _ _ _ _ _ _ _
   | exact ih1 _ _ _ _ _ _ _ _
   | exact ih2 _ _ _ _ _ _ _ _ _
   | exact LeO.none _
   | refine LeO.ite ?_ ?_
   | refine LeO.bind ?_ (fun _ => ?_)
  ·intro y0 y1 y2 y3 y4 y5 y6 y7
   unfold impl_isRoom.l0
   repeat' first
   | (with_reducible exact ih0 _ _ _ _ _ _ _ _)
   | (with_reducible exact ih1 _ _ _ _ _ _ _ _)
   | (with_reducible exact ih2 _ _ _ _ _ _ _ _ _)
   | (with_reducible exact LeO.refl _)
   | (with_reducible exact LeO.none _)
   | (with_reducible refine LeO.ite ?_ ?_)
   | (with_reducible refine LeO.bind ?_ (fun _ => ?_))
   | exact ih0 _ _ _ _ _ _ _ _
   | exact ih1 _ _ _ _ _ _ _ _
   | exact ih2 _ _ _ _ _ _ _ _ _
   | exact LeO.none _
   | refine LeO.ite ?_ ?_
   | refine LeO.bind ?_ (fun _ => ?_)
  ·intro y0 y1 y2 y3 y4 y5 y6 y7 y8
   unfold impl_isRoom.l1
   repeat' first
   | (with_reducible exact ih0 _ _ _ _ _ _ _ _)
   | (with_reducible exact ih1 _ _ _ _ _ _ _ _)
   | (with_reducible exact ih2 _ _ _ _ _ _ _ _ _)
   | (with_reducible exact LeO.refl _)
   | (with_reducible exact LeO.none _)
   | (with_reducible refine LeO.ite ?_ ?_)
   | (with_reducible refine LeO.bind ?_ (fun _ => ?_))
   | exact ih0 _ _ _ _ _ _ _ _
   | exact ih1 _ _ _ _ _ _ _ _
   | exact ih2 _ _ _ _ _ _ _ _ _
   | exact LeO.none _
   | refine LeO.ite ?_ ?_
   | refine LeO.bind ?_ (fun _ => ?_)
theorem impl_isRoom.mono : ∀ a0 a1 a2 a3 a4 a5 k, LeO (impl_isRoom.f k a0 a1 a2 a3 a4 a5) (impl_isRoom.f (k + 1) a0 a1 a2 a3 a4 a5) := by
 intro a0 a1 a2 a3 a4 a5 k
 obtain ⟨ih0, ih1, ih2⟩ := impl_isRoom.mono_l k
 unfold impl_isRoom.f
 repeat' first
   | (with_reducible exact ih0 _ _ _ _ _ _ _ _)
   | (with_reducible exact ih1 _ _ _ _ _ _ _ _)
   | (with_reducible exact ih2 _ _ _ _ _ _ _ _ _)
   | (with_reducible exact LeO.refl _)
   | (with_reducible exact LeO.none _)
   | (with_reducible refine LeO.ite ?_ ?_)
   | (with_reducible refine LeO.bind ?_ (fun _ => ?_))
   | exact ih0 _ _ _ _ _ _ _ _
   | exact ih1 _ _ _ _ _ _ _ _
   | exact ih2 _ _ _ _ _ _ _ _ _
   | exact LeO.none _
   | refine LeO.ite ?_ ?_
   | refine LeO.bind ?_ (fun _ => ?_)
set_option maxHeartbeats 8000000 in
set_option maxRecDepth 100000 in
theorem impl_isRoom.calls (k : Nat) (A0 : Option Addr) (c0 : Nat) (l0 : List (List Int)) (A1 : Option Addr) (c1 : Nat) (l1 : List (S50)) (a2_0 : Int) (a2_1 : Int) (a2_2 : Int) (a2_3 : Bool) (r : Bool) (w : World) (hr0 : Kd.C (Kd.slice 3 (Kd.int .i64)) w A0 l0.length l0) (hc0 : l0.length ≤ c0) (hr1 : Kd.C k50 w A1 l1.length l1) (hc1 : l1.length ≤ c1) (h : impl_isRoom.f k l0 l1 a2_0 a2_1 a2_2 a2_3 = some r) :
  Calls Try.prog 57 #[.slice A0 l0.length c0, .slice A1 l1.length c1, .agg #[.int .i64 a2_0, .int .i64 a2_1, .int .i64 a2_2, .bool a2_3]] w fun e w' => e = .returned (.bool r) ∧ Below w.heap.size w w' := by
 have hu66 := Try.underlying66
 have HR0 := Aside0.mk hr0
 have HC0 := Aside0.mk hc0
 clear hr0 hc0
 have HR1 := Aside0.mk hr1
 have HC1 := Aside0.mk hc1
 clear hr1 hc1
 have HB := Aside0.mk (Below.refl w.heap.size w)
 have H : ((impl_sizeOf.f l1 a2_0 a2_1 a2_2 a2_3).bind fun bt207 => (if a2_1 < 0 then (impl_isRoom.j0 k l0 bt207.1 bt207.2 true a2_0 a2_1 a2_2 a2_3) else (if a2_2 < 0 then (impl_isRoom.j0 k l0 bt207.1 bt207.2 true a2_0 a2_1 a2_2 a2_3) else (if 0 < (l0.length : Int) then (if (wrap64 (a2_1 + bt207.1)) > ((rd_L5 l0 0).length : Int) then (impl_isRoom.j0 k l0 bt207.1 bt207.2 true a2_0 a2_1 a2_2 a2_3) else (impl_isRoom.j0 k l0 bt207.1 bt207.2 (decide ((wrap64 (a2_2 + bt207.2)) > (l0.length : Int))) a2_0 a2_1 a2_2 a2_3)) else (none))))) = some r := h
 clear h
 replace H := Option.bind_eq_some_iff.mp H
 obtain ⟨⟨t207, t208⟩, A40, H⟩ := H
 replace H : (if a2_1 < 0 then (impl_isRoom.j0 k l0 t207 t208 true a2_0 a2_1 a2_2 a2_3) else (if a2_2 < 0 then (impl_isRoom.j0 k l0 t207 t208 true a2_0 a2_1 a2_2 a2_3) else (if 0 < (l0.length : Int) then (if (wrap64 (a2_1 + t207)) > ((rd_L5 l0 0).length : Int) then (impl_isRoom.j0 k l0 t207 t208 true a2_0 a2_1 a2_2 a2_3) else (impl_isRoom.j0 k l0 t207 t208 (decide ((wrap64 (a2_2 + t208)) > (l0.length : Int))) a2_0 a2_1 a2_2 a2_3)) else (none)))) = some r := H
 have A4 := Aside0.mk A40
 clear A40
 have HC5 := Aside0.mk H
 clear H
 go_enter Try.func57, Try.ntmps57
 go_upto_region 2 with (first | ((with_reducible refine gate_dst (N := 5) rfl ?_); (try (refine gate_guard (by rfl) ?_; dsimp only)); refine box_event ?hg (N := 5) ?hd (cs := #[.int .i64 a2_0, .int .i64 a2_1, .int .i64 a2_2, .bool a2_3]) (t := 66) ?hr ?_; (case hd => rfl); (case hg => rfl); (case hr => first | (go_simp; done) | (go_simp; rfl)); intro gb206 hg w6 hbox hb; have n0_ := Aside0.mk (below_step (by repeat (first | (with_reducible first | exact HB.out | apply below_alloc | apply pw_below_drewN | apply below_drew1) | exact HB.out | exact Below.refl _ _)) hb); have n1_ := Aside0.mk (hbox); have n2_ := Aside0.mk ((by rw [hg]; exact (below_size (by repeat (first | (with_reducible first | exact HB.out | apply below_alloc | apply pw_below_drewN | apply below_drew1) | exact HB.out | exact Below.refl _ _))) : w.heap.size ≤ gb206)); have n3_ := Aside0.mk ((by rw [hg]; exact (below_size (by repeat (first | (with_reducible first | exact HB.out | apply below_alloc | apply pw_below_drewN | apply below_drew1) | exact HB.out | exact Below.refl _ _))) : w.heap.size ≤ gb206)); clear HB; have HB := n0_; have BK206 := n1_; have GW206 := n2_; have GE206 := n3_; clear n0_ n1_ n2_ n3_; clear hb hbox hg; have hcz7_0 : w6.cell? ⟨gb206, 0, none⟩ = some (.int .i64 a2_0) := (blk_cell BK206.out 0).trans rfl; have hcz7_1 : w6.cell? ⟨gb206, 1, none⟩ = some (.int .i64 a2_1) := (blk_cell BK206.out 1).trans rfl; have hcz7_2 : w6.cell? ⟨gb206, 2, none⟩ = some (.int .i64 a2_2) := (blk_cell BK206.out 2).trans rfl; have hcz7_3 : w6.cell? ⟨gb206, 3, none⟩ = some (.bool a2_3) := (blk_cell BK206.out 3).trans rfl; have hfz7_0 := blk_frozen BK206.out 0; have hfz7_1 := blk_frozen BK206.out 1; have hfz7_2 := blk_frozen BK206.out 2; have hfz7_3 := blk_frozen BK206.out 3) | (go_at_call 66; (with_reducible refine (impl_sizeOf.calls _ _ l1 a2_0 a2_1 a2_2 a2_3 t207 t208 _ ?side1 ?side2 A4.out).mono ?_); (case side1 => repeat (first | exact (Kd.C_below HR1.out HB.out) | exact HR1.out | (with_reducible refine Kd.C_alloc ?_ _) | (with_reducible refine Kd.C_drewN ?_ _) | (with_reducible refine Kd.C_drew ?_))); (case side2 => exact HC1.out); rintro e w8 ⟨rfl, hb⟩; have n0_ := Aside0.mk (blk_below (g := gb206) (o := .cells #[.int .i64 a2_0, .int .i64 a2_1, .int .i64 a2_2, .bool a2_3] 66 (0, 0)) (by (with_reducible repeat (first | refine blk_drewN ?_ _ | refine blk_drew ?_ | refine blk_alloc ?_ _)); exact BK206.out) hb); have n1_ := Aside0.mk (below_step (by repeat (first | (with_reducible first | exact HB.out | apply below_alloc | apply pw_below_drewN | apply below_drew1 | refine below_set ?_ GE206.out) | exact HB.out | exact Below.refl _ _)) hb); clear BK206; clear HB; have BK206 := n0_; have HB := n1_; clear n0_ n1_; (try clear hb); (try clear hb2); (try clear hk); (try clear hi)))
 repeat (go_quiet (first | ((with_reducible refine gate_dst (N := 5) rfl ?_); (try (refine gate_guard (by rfl) ?_; dsimp only)); refine box_event ?hg (N := 5) ?hd (cs := #[.int .i64 a2_0, .int .i64 a2_1, .int .i64 a2_2, .bool a2_3]) (t := 66) ?hr ?_; (case hd => rfl); (case hg => rfl); (case hr => first | (go_simp; done) | (go_simp; rfl)); intro gb206 hg w6 hbox hb; have n0_ := Aside0.mk (below_step (by repeat (first | (with_reducible first | exact HB.out | apply below_alloc | apply pw_below_drewN | apply below_drew1) | exact HB.out | exact Below.refl _ _)) hb); have n1_ := Aside0.mk (hbox); have n2_ := Aside0.mk ((by rw [hg]; exact (below_size (by repeat (first | (with_reducible first | exact HB.out | apply below_alloc | apply pw_below_drewN | apply below_drew1) | exact HB.out | exact Below.refl _ _))) : w.heap.size ≤ gb206)); have n3_ := Aside0.mk ((by rw [hg]; exact (below_size (by repeat (first | (with_reducible first | exact HB.out | apply below_alloc | apply pw_below_drewN | apply below_drew1) | exact HB.out | exact Below.refl _ _))) : w.heap.size ≤ gb206)); clear HB; have HB := n0_; have BK206 := n1_; have GW206 := n2_; have GE206 := n3_; clear n0_ n1_ n2_ n3_; clear hb hbox hg; have hcz7_0 : w6.cell? ⟨gb206, 0, none⟩ = some (.int .i64 a2_0) := (blk_cell BK206.out 0).trans rfl; have hcz7_1 : w6.cell? ⟨gb206, 1, none⟩ = some (.int .i64 a2_1) := (blk_cell BK206.out 1).trans rfl; have hcz7_2 : w6.cell? ⟨gb206, 2, none⟩ = some (.int .i64 a2_2) := (blk_cell BK206.out 2).trans rfl; have hcz7_3 : w6.cell? ⟨gb206, 3, none⟩ = some (.bool a2_3) := (blk_cell BK206.out 3).trans rfl; have hfz7_0 := blk_frozen BK206.out 0; have hfz7_1 := blk_frozen BK206.out 1; have hfz7_2 := blk_frozen BK206.out 2; have hfz7_3 := blk_frozen BK206.out 3) | (go_at_call 66; (with_reducible refine (impl_sizeOf.calls _ _ l1 a2_0 a2_1 a2_2 a2_3 t207 t208 _ ?side1 ?side2 A4.out).mono ?_); (case side1 => repeat (first | exact (Kd.C_below HR1.out HB.out) | exact HR1.out | (with_reducible refine Kd.C_alloc ?_ _) | (with_reducible refine Kd.C_drewN ?_ _) | (with_reducible refine Kd.C_drew ?_))); (case side2 => exact HC1.out); rintro e w8 ⟨rfl, hb⟩; have n0_ := Aside0.mk (blk_below (g := gb206) (o := .cells #[.int .i64 a2_0, .int .i64 a2_1, .int .i64 a2_2, .bool a2_3] 66 (0, 0)) (by (with_reducible repeat (first | refine blk_drewN ?_ _ | refine blk_drew ?_ | refine blk_alloc ?_ _)); exact BK206.out) hb); have n1_ := Aside0.mk (below_step (by repeat (first | (with_reducible first | exact HB.out | apply below_alloc | apply pw_below_drewN | apply below_drew1 | refine below_set ?_ GE206.out) | exact HB.out | exact Below.refl _ _)) hb); clear BK206; clear HB; have BK206 := n0_; have HB := n1_; clear n0_ n1_; (try clear hb); (try clear hb2); (try clear hk); (try clear hi))); go_upto_region 2 with (first | ((with_reducible refine gate_dst (N := 5) rfl ?_); (try (refine gate_guard (by rfl) ?_; dsimp only)); refine box_event ?hg (N := 5) ?hd (cs := #[.int .i64 a2_0, .int .i64 a2_1, .int .i64 a2_2, .bool a2_3]) (t := 66) ?hr ?_; (case hd => rfl); (case hg => rfl); (case hr => first | (go_simp; done) | (go_simp; rfl)); intro gb206 hg w6 hbox hb; have n0_ := Aside0.mk (below_step (by repeat (first | (with_reducible first | exact HB.out | apply below_alloc | apply pw_below_drewN | apply below_drew1) | exact HB.out | exact Below.refl _ _)) hb); have n1_ := Aside0.mk (hbox); have n2_ := Aside0.mk ((by rw [hg]; exact (below_size (by repeat (first | (with_reducible first | exact HB.out | apply below_alloc | apply pw_below_drewN | apply below_drew1) | exact HB.out | exact Below.refl _ _))) : w.heap.size ≤ gb206)); have n3_ := Aside0.mk ((by rw [hg]; exact (below_size (by repeat (first | (with_reducible first | exact HB.out | apply below_alloc | apply pw_below_drewN | apply below_drew1) | exact HB.out | exact Below.refl _ _))) : w.heap.size ≤ gb206)); clear HB; have HB := n0_; have BK206 := n1_; have GW206 := n2_; have GE206 := n3_; clear n0_ n1_ n2_ n3_; clear hb hbox hg; have hcz7_0 : w6.cell? ⟨gb206, 0, none⟩ = some (.int .i64 a2_0) := (blk_cell BK206.out 0).trans rfl; have hcz7_1 : w6.cell? ⟨gb206, 1, none⟩ = some (.int .i64 a2_1) := (blk_cell BK206.out 1).trans rfl; have hcz7_2 : w6.cell? ⟨gb206, 2, none⟩ = some (.int .i64 a2_2) := (blk_cell BK206.out 2).trans rfl; have hcz7_3 : w6.cell? ⟨gb206, 3, none⟩ = some (.bool a2_3) := (blk_cell BK206.out 3).trans rfl; have hfz7_0 := blk_frozen BK206.out 0; have hfz7_1 := blk_frozen BK206.out 1; have hfz7_2 := blk_frozen BK206.out 2; have hfz7_3 := blk_frozen BK206.out 3) | (go_at_call 66; (with_reducible refine (impl_sizeOf.calls _ _ l1 a2_0 a2_1 a2_2 a2_3 t207 t208 _ ?side1 ?side2 A4.out).mono ?_); (case side1 => repeat (first | exact (Kd.C_below HR1.out HB.out) | exact HR1.out | (with_reducible refine Kd.C_alloc ?_ _) | (with_reducible refine Kd.C_drewN ?_ _) | (with_reducible refine Kd.C_drew ?_))); (case side2 => exact HC1.out); rintro e w8 ⟨rfl, hb⟩; have n0_ := Aside0.mk (blk_below (g := gb206) (o := .cells #[.int .i64 a2_0, .int .i64 a2_1, .int .i64 a2_2, .bool a2_3] 66 (0, 0)) (by (with_reducible repeat (first | refine blk_drewN ?_ _ | refine blk_drew ?_ | refine blk_alloc ?_ _)); exact BK206.out) hb); have n1_ := Aside0.mk (below_step (by repeat (first | (with_reducible first | exact HB.out | apply below_alloc | apply pw_below_drewN | apply below_drew1 | refine below_set ?_ GE206.out) | exact HB.out | exact Below.refl _ _)) hb); clear BK206; clear HB; have BK206 := n0_; have HB := n1_; clear n0_ n1_; (try clear hb); (try clear hb2); (try clear hk); (try clear hi))))
 (try simp only [Act.put, List.setIfInBounds_toArray, List.set_cons_zero, List.set_cons_succ])
 go_cut [44] (fun v44 wc => ∃ (kq : Nat) (x44_4 : Bool), v44 = .bool x44_4 ∧ Aside0 (impl_isRoom.j0 kq l0 t207 t208 x44_4 a2_0 a2_1 a2_2 a2_3 = some r) ∧ Aside0 (kq ≤ k) ∧ Aside0 (wc.heap[gb206]? = some (.cells #[.int .i64 a2_0, .int .i64 a2_1, .int .i64 a2_2, .bool a2_3] 66 (0, 0))) ∧ Aside0 (Below w.heap.size w wc))
 case first =>
  have H := HC5.out
  clear HC5
  by_cases c9 : a2_1 < 0
  ·rw [if_pos c9] at H
   have c9b0 : decide (a2_1 < 0) = true := decide_eq_true c9
   clear c9
   (first | rw [c9b0] | (simp only [i64_w, i32_w]; rw [c9b0]) | skip)
   have H' := Aside0.mk H
   clear H
   have hcz10_0 : w8.cell? ⟨gb206, 0, none⟩ = some (.int .i64 a2_0) := (blk_cell BK206.out 0).trans rfl
   have hcz10_1 : w8.cell? ⟨gb206, 1, none⟩ = some (.int .i64 a2_1) := (blk_cell BK206.out 1).trans rfl
   have hcz10_2 : w8.cell? ⟨gb206, 2, none⟩ = some (.int .i64 a2_2) := (blk_cell BK206.out 2).trans rfl
   have hcz10_3 : w8.cell? ⟨gb206, 3, none⟩ = some (.bool a2_3) := (blk_cell BK206.out 3).trans rfl
   have hfz10_0 := blk_frozen BK206.out 0
   have hfz10_1 := blk_frozen BK206.out 1
   have hfz10_2 := blk_frozen BK206.out 2
   have hfz10_3 := blk_frozen BK206.out 3
   go_wp2
   repeat (go_quiet (fail); try go_wp2)
   go_meet
   case rel => exact ⟨_, (true), (by first | rfl | (simp; done) | (simp [*]; done)), H', ⟨by first | omega | exact Nat.le_refl _⟩, ⟨by (with_reducible repeat (first | refine blk_drewN ?_ _ | refine blk_drew ?_ | refine blk_alloc ?_ _)); exact BK206.out⟩, ⟨by repeat (first | (with_reducible first | exact HB.out | apply below_alloc | apply pw_below_drewN | apply below_drew1 | refine below_set ?_ GE206.out) | exact HB.out | exact Below.refl _ _)⟩⟩
  ·rw [if_neg c9] at H
   have c9b0 : decide (a2_1 < 0) = false := decide_eq_false c9
   clear c9
   (first | rw [c9b0] | (simp only [i64_w, i32_w]; rw [c9b0]) | skip)
   by_cases c11 : a2_2 < 0
   ·rw [if_pos c11] at H
    have c11b0 : decide (a2_2 < 0) = true := decide_eq_true c11
    clear c11
    have H' := Aside0.mk H
    clear H
    have hcz12_0 : w8.cell? ⟨gb206, 0, none⟩ = some (.int .i64 a2_0) := (blk_cell BK206.out 0).trans rfl
    have hcz12_1 : w8.cell? ⟨gb206, 1, none⟩ = some (.int .i64 a2_1) := (blk_cell BK206.out 1).trans rfl
    have hcz12_2 : w8.cell? ⟨gb206, 2, none⟩ = some (.int .i64 a2_2) := (blk_cell BK206.out 2).trans rfl
    have hcz12_3 : w8.cell? ⟨gb206, 3, none⟩ = some (.bool a2_3) := (blk_cell BK206.out 3).trans rfl
    have hfz12_0 := blk_frozen BK206.out 0
    have hfz12_1 := blk_frozen BK206.out 1
    have hfz12_2 := blk_frozen BK206.out 2
    have hfz12_3 := blk_frozen BK206.out 3
    go_wp2
    repeat (go_quiet (fail); try go_wp2)
    go_meet
    case rel => exact ⟨_, (true), (by first | rfl | (simp; done) | (simp [*]; done)), H', ⟨by first | omega | exact Nat.le_refl _⟩, ⟨by (with_reducible repeat (first | refine blk_drewN ?_ _ | refine blk_drew ?_ | refine blk_alloc ?_ _)); exact BK206.out⟩, ⟨by repeat (first | (with_reducible first | exact HB.out | apply below_alloc | apply pw_below_drewN | apply below_drew1 | refine below_set ?_ GE206.out) | exact HB.out | exact Below.refl _ _)⟩⟩
   ·rw [if_neg c11] at H
    have c11b0 : decide (a2_2 < 0) = false := decide_eq_false c11
    clear c11
    by_cases c13 : 0 < (l0.length : Int)
    ·rw [if_pos c13] at H
     have c13b0 : decide (0 < (l0.length : Int)) = true := decide_eq_true c13
     have c13b1 : decide (0 < l0.length) = true := decide_eq_true (by omega)
     clear c13
     by_cases c14 : (wrap64 (a2_1 + t207)) > ((rd_L5 l0 0).length : Int)
     ·rw [if_pos c14] at H
      have c14b0 : decide (((rd_L5 l0 0).length : Int) < (wrap64 (a2_1 + t207))) = true := decide_eq_true c14
      clear c14
      have H' := Aside0.mk H
      clear H
      have hcz15_0 : w8.cell? ⟨gb206, 0, none⟩ = some (.int .i64 a2_0) := (blk_cell BK206.out 0).trans rfl
      have hcz15_1 : w8.cell? ⟨gb206, 1, none⟩ = some (.int .i64 a2_1) := (blk_cell BK206.out 1).trans rfl
      have hcz15_2 : w8.cell? ⟨gb206, 2, none⟩ = some (.int .i64 a2_2) := (blk_cell BK206.out 2).trans rfl
      have hcz15_3 : w8.cell? ⟨gb206, 3, none⟩ = some (.bool a2_3) := (blk_cell BK206.out 3).trans rfl
      have hfz15_0 := blk_frozen BK206.out 0
      have hfz15_1 := blk_frozen BK206.out 1
      have hfz15_2 := blk_frozen BK206.out 2
      have hfz15_3 := blk_frozen BK206.out 3
      have p209 : 0 ≤ (0 : Int) := (by omega)
      have q209 : 0 < (l0.length : Int) := of_decide_eq_true (by first | (with_reducible assumption) | assumption)
      obtain ⟨ad209, A209_0, c209_0, e209, hx209_0, hl209_0, hi209_0⟩ := at_L5 HR0.out 0 p209 q209
      cases e209
      have qi209 : (0 < l0.length) = True := eq_true (by omega)
      (try rw [show ((0 : Int)).toNat = 0 from rfl] at hx209_0)
      (try rw [Addr.add_zero'] at hx209_0)
      replace hx209_0 := (HB.out.cell (World.block_lt_of_cell? w _ hx209_0)).trans hx209_0
      have HR209_0 := Aside0.mk hi209_0
      have HC209_0 := Aside0.mk hl209_0
      clear hi209_0 hl209_0
      replace p209 := eq_true p209
      replace q209 := eq_true q209
      go_wp2
      repeat (go_quiet (fail); try go_wp2)
      go_meet
      case rel => exact ⟨_, (true), (by first | rfl | (simp; done) | (simp [*]; done)), H', ⟨by first | omega | exact Nat.le_refl _⟩, ⟨by (with_reducible repeat (first | refine blk_drewN ?_ _ | refine blk_drew ?_ | refine blk_alloc ?_ _)); exact BK206.out⟩, ⟨by repeat (first | (with_reducible first | exact HB.out | apply below_alloc | apply pw_below_drewN | apply below_drew1 | refine below_set ?_ GE206.out) | exact HB.out | exact Below.refl _ _)⟩⟩
     ·rw [if_neg c14] at H
      have c14b0 : decide (((rd_L5 l0 0).length : Int) < (wrap64 (a2_1 + t207))) = false := decide_eq_false c14
      clear c14
      have H' := Aside0.mk H
      clear H
      have hcz16_0 : w8.cell? ⟨gb206, 0, none⟩ = some (.int .i64 a2_0) := (blk_cell BK206.out 0).trans rfl
      have hcz16_1 : w8.cell? ⟨gb206, 1, none⟩ = some (.int .i64 a2_1) := (blk_cell BK206.out 1).trans rfl
      have hcz16_2 : w8.cell? ⟨gb206, 2, none⟩ = some (.int .i64 a2_2) := (blk_cell BK206.out 2).trans rfl
      have hcz16_3 : w8.cell? ⟨gb206, 3, none⟩ = some (.bool a2_3) := (blk_cell BK206.out 3).trans rfl
      have hfz16_0 := blk_frozen BK206.out 0
      have hfz16_1 := blk_frozen BK206.out 1
      have hfz16_2 := blk_frozen BK206.out 2
      have hfz16_3 := blk_frozen BK206.out 3
      have p209 : 0 ≤ (0 : Int) := (by omega)
      have q209 : 0 < (l0.length : Int) := of_decide_eq_true (by first | (with_reducible assumption) | assumption)
      obtain ⟨ad209, A209_0, c209_0, e209, hx209_0, hl209_0, hi209_0⟩ := at_L5 HR0.out 0 p209 q209
      cases e209
      have qi209 : (0 < l0.length) = True := eq_true (by omega)
      (try rw [show ((0 : Int)).toNat = 0 from rfl] at hx209_0)
      (try rw [Addr.add_zero'] at hx209_0)
      replace hx209_0 := (HB.out.cell (World.block_lt_of_cell? w _ hx209_0)).trans hx209_0
      have HR209_0 := Aside0.mk hi209_0
      have HC209_0 := Aside0.mk hl209_0
      clear hi209_0 hl209_0
      replace p209 := eq_true p209
      replace q209 := eq_true q209
      go_wp2
      repeat (go_quiet (fail); try go_wp2)
      go_meet
      case rel => exact ⟨_, (decide ((wrap64 (a2_2 + t208)) > (l0.length : Int))), (by first | rfl | (simp; done) | (simp [*]; done)), H', ⟨by first | omega | exact Nat.le_refl _⟩, ⟨by (with_reducible repeat (first | refine blk_drewN ?_ _ | refine blk_drew ?_ | refine blk_alloc ?_ _)); exact BK206.out⟩, ⟨by repeat (first | (with_reducible first | exact HB.out | apply below_alloc | apply pw_below_drewN | apply below_drew1 | refine below_set ?_ GE206.out) | exact HB.out | exact Below.refl _ _)⟩⟩
    ·rw [if_neg c13] at H
     exact absurd H (by simp)
 case rest =>
  clear HC5
  (try clear c1); (try clear c2); (try clear p2); (try clear q2); (try clear hx2); (try clear qi2); (try clear c5); (try clear p6); (try clear c9); (try clear c9b0); (try clear c11); (try clear c11b0); (try clear c13); (try clear c13b0); (try clear c13b1); (try clear c14); (try clear c14b0); (try clear hcz10_0); (try clear hcz10_1); (try clear hcz10_2); (try clear hcz10_3); (try clear hcz12_0); (try clear hcz12_1); (try clear hcz12_2); (try clear hcz12_3); (try clear hcz15_0); (try clear hcz15_1); (try clear hcz15_2); (try clear hcz15_3); (try clear hcz16_0); (try clear hcz16_1); (try clear hcz16_2); (try clear hcz16_3); (try clear hcz7_0); (try clear hcz7_1); (try clear hcz7_2); (try clear hcz7_3); (try clear hfz10_0); (try clear hfz10_1); (try clear hfz10_2); (try clear hfz10_3); (try clear hfz12_0); (try clear hfz12_1); (try clear hfz12_2); (try clear hfz12_3); (try clear hfz15_0); (try clear hfz15_1); (try clear hfz15_2); (try clear hfz15_3); (try clear hfz16_0); (try clear hfz16_1); (try clear hfz16_2); (try clear hfz16_3); (try clear hfz7_0); (try clear hfz7_1); (try clear hfz7_2); (try clear hfz7_3); (try clear hx209_0); (try clear p209); (try clear q209)
  obtain ⟨kq, x44_4, rfl, HA, HJ4, BK206, HB⟩ := hcut
  cases kq with
  | zero => exact absurd HA.out (by simp [impl_isRoom.j0])
  | succ kj4 =>
   have H := HA.out
   clear HA
   simp only [impl_isRoom.j0] at H
   by_cases c17 : x44_4 = true
   ·subst c17
    have H1 : (some false) = some r := by rw [if_pos rfl] at H; exact H
    clear H
    have H := H1
    clear H1
    obtain rfl := Option.some.inj H
    go_wp2
    repeat (go_quiet (fail); try go_wp2)
    go_ret
    exact ⟨by first | rfl | (simp [errW_none, errW_some] <;> rfl) | (simp [*, errW_none, errW_some] <;> rfl), by repeat (first | (with_reducible first | exact HB.out | apply below_alloc | apply pw_below_drewN | apply below_drew1 | refine below_set ?_ GE206.out) | exact HB.out | exact Below.refl _ _)⟩
   ·replace c17 := Bool.eq_false_iff.mpr c17
    subst c17
    have H1 : (impl_isRoom.l0 kj4 l0 t207 t208 a2_2 a2_0 a2_1 a2_2 a2_3) = some r := by rw [if_neg (show ¬ (false = true) by decide)] at H; exact H
    clear H
    have H := H1
    clear H1
    have H' := Aside0.mk H
    clear H
    have hcz18_0 : wc.cell? ⟨gb206, 0, none⟩ = some (.int .i64 a2_0) := (blk_cell BK206.out 0).trans rfl
    have hcz18_1 : wc.cell? ⟨gb206, 1, none⟩ = some (.int .i64 a2_1) := (blk_cell BK206.out 1).trans rfl
    have hcz18_2 : wc.cell? ⟨gb206, 2, none⟩ = some (.int .i64 a2_2) := (blk_cell BK206.out 2).trans rfl
    have hcz18_3 : wc.cell? ⟨gb206, 3, none⟩ = some (.bool a2_3) := (blk_cell BK206.out 3).trans rfl
    have hfz18_0 := blk_frozen BK206.out 0
    have hfz18_1 := blk_frozen BK206.out 1
    have hfz18_2 := blk_frozen BK206.out 2
    have hfz18_3 := blk_frozen BK206.out 3
    go_wp2
    repeat (go_quiet (fail); try go_wp2)
    go_loopg [9] kj4 (fun kq v9 w' => ∃ (x9_2 : Int), v9 = .int .i64 x9_2 ∧ Aside0 (impl_isRoom.l0 kq l0 t207 t208 x9_2 a2_0 a2_1 a2_2 a2_3 = some r) ∧ Aside0 (kq ≤ kj4) ∧ Aside0 (w'.heap[gb206]? = some (.cells #[.int .i64 a2_0, .int .i64 a2_1, .int .i64 a2_2, .bool a2_3] 66 (0, 0))) ∧ Aside0 (Below w.heap.size w w'))
    case atStart => exact ⟨(a2_2), (by first | rfl | (simp; done) | (simp [*]; done)), H', ⟨Nat.le_refl _⟩, ⟨by (with_reducible repeat (first | refine blk_drewN ?_ _ | refine blk_drew ?_ | refine blk_alloc ?_ _)); exact BK206.out⟩, ⟨by repeat (first | (with_reducible first | exact HB.out | apply below_alloc | apply pw_below_drewN | apply below_drew1 | refine below_set ?_ GE206.out) | exact HB.out | exact Below.refl _ _)⟩⟩
    case round =>
     clear H'
     (try clear c1); (try clear c2); (try clear p2); (try clear q2); (try clear hx2); (try clear qi2); (try clear c5); (try clear p6); (try clear c9); (try clear c9b0); (try clear c11); (try clear c11b0); (try clear c13); (try clear c13b0); (try clear c13b1); (try clear c14); (try clear c14b0); (try clear c17); (try clear hcz10_0); (try clear hcz10_1); (try clear hcz10_2); (try clear hcz10_3); (try clear hcz12_0); (try clear hcz12_1); (try clear hcz12_2); (try clear hcz12_3); (try clear hcz15_0); (try clear hcz15_1); (try clear hcz15_2); (try clear hcz15_3); (try clear hcz16_0); (try clear hcz16_1); (try clear hcz16_2); (try clear hcz16_3); (try clear hcz18_0); (try clear hcz18_1); (try clear hcz18_2); (try clear hcz18_3); (try clear hcz7_0); (try clear hcz7_1); (try clear hcz7_2); (try clear hcz7_3); (try clear hfz10_0); (try clear hfz10_1); (try clear hfz10_2); (try clear hfz10_3); (try clear hfz12_0); (try clear hfz12_1); (try clear hfz12_2); (try clear hfz12_3); (try clear hfz15_0); (try clear hfz15_1); (try clear hfz15_2); (try clear hfz15_3); (try clear hfz16_0); (try clear hfz16_1); (try clear hfz16_2); (try clear hfz16_3); (try clear hfz18_0); (try clear hfz18_1); (try clear hfz18_2); (try clear hfz18_3); (try clear hfz7_0); (try clear hfz7_1); (try clear hfz7_2); (try clear hfz7_3); (try clear hx209_0); (try clear p2); (try clear p209); (try clear p6); (try clear q2); (try clear q209)
     obtain ⟨x9_2, rfl, HA, HK2, BK206, HB⟩ := hrel
     cases gk with
     | zero => exact absurd HA.out (by simp [impl_isRoom.l0])
     | succ k2 =>
      have H := HA.out
      clear HA
      simp only [impl_isRoom.l0] at H
      by_cases c19 : x9_2 < (wrap64 (a2_2 + t208))
      ·rw [if_pos c19] at H
       have c19b0 : decide (x9_2 < (wrap64 (a2_2 + t208))) = true := decide_eq_true c19
       clear c19
       have H' := Aside0.mk H
       clear H
       have hcz20_0 : wr.cell? ⟨gb206, 0, none⟩ = some (.int .i64 a2_0) := (blk_cell BK206.out 0).trans rfl
       have hcz20_1 : wr.cell? ⟨gb206, 1, none⟩ = some (.int .i64 a2_1) := (blk_cell BK206.out 1).trans rfl
       have hcz20_2 : wr.cell? ⟨gb206, 2, none⟩ = some (.int .i64 a2_2) := (blk_cell BK206.out 2).trans rfl
       have hcz20_3 : wr.cell? ⟨gb206, 3, none⟩ = some (.bool a2_3) := (blk_cell BK206.out 3).trans rfl
       have hfz20_0 := blk_frozen BK206.out 0
       have hfz20_1 := blk_frozen BK206.out 1
       have hfz20_2 := blk_frozen BK206.out 2
       have hfz20_3 := blk_frozen BK206.out 3
       go_wp2
       repeat (go_quiet (fail); try go_wp2)
       go_loopg [10] k2 (fun kq v10 w' => ∃ (x10_3 : Int), v10 = .int .i64 x10_3 ∧ Aside0 (impl_isRoom.l1 kq l0 t207 t208 x9_2 x10_3 a2_0 a2_1 a2_2 a2_3 = some r) ∧ Aside0 (kq ≤ k2) ∧ Aside0 (w'.heap[gb206]? = some (.cells #[.int .i64 a2_0, .int .i64 a2_1, .int .i64 a2_2, .bool a2_3] 66 (0, 0))) ∧ Aside0 (Below w.heap.size w w'))
       case atStart => exact ⟨(a2_1), (by first | rfl | (simp; done) | (simp [*]; done)), H', ⟨Nat.le_refl _⟩, ⟨by (with_reducible repeat (first | refine blk_drewN ?_ _ | refine blk_drew ?_ | refine blk_alloc ?_ _)); exact BK206.out⟩, ⟨by repeat (first | (with_reducible first | exact HB.out | apply below_alloc | apply pw_below_drewN | apply below_drew1 | refine below_set ?_ GE206.out) | exact HB.out | exact Below.refl _ _)⟩⟩
       case round =>
        clear H'
        (try clear c1); (try clear c2); (try clear p2); (try clear q2); (try clear hx2); (try clear qi2); (try clear c5); (try clear p6); (try clear c9); (try clear c9b0); (try clear c11); (try clear c11b0); (try clear c13); (try clear c13b0); (try clear c13b1); (try clear c14); (try clear c14b0); (try clear c17); (try clear c19); (try clear c19b0); (try clear c20); (try clear p20); (try clear q20); (try clear hx20); (try clear qi20); (try clear hcz10_0); (try clear hcz10_1); (try clear hcz10_2); (try clear hcz10_3); (try clear hcz12_0); (try clear hcz12_1); (try clear hcz12_2); (try clear hcz12_3); (try clear hcz15_0); (try clear hcz15_1); (try clear hcz15_2); (try clear hcz15_3); (try clear hcz16_0); (try clear hcz16_1); (try clear hcz16_2); (try clear hcz16_3); (try clear hcz18_0); (try clear hcz18_1); (try clear hcz18_2); (try clear hcz18_3); (try clear hcz20_0); (try clear hcz20_1); (try clear hcz20_2); (try clear hcz20_3); (try clear hcz7_0); (try clear hcz7_1); (try clear hcz7_2); (try clear hcz7_3); (try clear hfz10_0); (try clear hfz10_1); (try clear hfz10_2); (try clear hfz10_3); (try clear hfz12_0); (try clear hfz12_1); (try clear hfz12_2); (try clear hfz12_3); (try clear hfz15_0); (try clear hfz15_1); (try clear hfz15_2); (try clear hfz15_3); (try clear hfz16_0); (try clear hfz16_1); (try clear hfz16_2); (try clear hfz16_3); (try clear hfz18_0); (try clear hfz18_1); (try clear hfz18_2); (try clear hfz18_3); (try clear hfz20_0); (try clear hfz20_1); (try clear hfz20_2); (try clear hfz20_3); (try clear hfz7_0); (try clear hfz7_1); (try clear hfz7_2); (try clear hfz7_3); (try clear hx209_0); (try clear p2); (try clear p209); (try clear p6); (try clear q2); (try clear q209)
        obtain ⟨x10_3, rfl, HA, HK3, BK206, HB⟩ := hrel
        cases gk with
        | zero => exact absurd HA.out (by simp [impl_isRoom.l1])
        | succ k3 =>
         have H := HA.out
         clear HA
         simp only [impl_isRoom.l1] at H
         by_cases c21 : x10_3 < (wrap64 (a2_1 + t207))
         ·rw [if_pos c21] at H
          have c21b0 : decide (x10_3 < (wrap64 (a2_1 + t207))) = true := decide_eq_true c21
          clear c21
          by_cases c22 : 0 ≤ x9_2
          ·rw [if_pos c22] at H
           have c22b0 : decide (0 ≤ x9_2) = true := decide_eq_true c22
           clear c22
           by_cases c23 : x9_2 < (l0.length : Int)
           ·rw [if_pos c23] at H
            have c23b0 : decide (x9_2 < (l0.length : Int)) = true := decide_eq_true c23
            clear c23
            by_cases c24 : 0 ≤ x10_3
            ·rw [if_pos c24] at H
             have c24b0 : decide (0 ≤ x10_3) = true := decide_eq_true c24
             clear c24
             by_cases c25 : x10_3 < ((rd_L5 l0 x9_2).length : Int)
             ·rw [if_pos c25] at H
              have c25b0 : decide (x10_3 < ((rd_L5 l0 x9_2).length : Int)) = true := decide_eq_true c25
              clear c25
              by_cases c26 : (rd (rd_L5 l0 x9_2) x10_3) = (-1)
              ·rw [if_pos c26] at H
               have c26b0 : ((rd (rd_L5 l0 x9_2) x10_3) == (-1)) = true := beq_iff_eq.mpr c26
               have c26b1 : ((rd (rd_L5 l0 x9_2) x10_3) != (-1)) = false := bne_eq_false_iff_eq.mpr c26
               clear c26
               have H' := Aside0.mk H
               clear H
               have hcz27_0 : wr.cell? ⟨gb206, 0, none⟩ = some (.int .i64 a2_0) := (blk_cell BK206.out 0).trans rfl
               have hcz27_1 : wr.cell? ⟨gb206, 1, none⟩ = some (.int .i64 a2_1) := (blk_cell BK206.out 1).trans rfl
               have hcz27_2 : wr.cell? ⟨gb206, 2, none⟩ = some (.int .i64 a2_2) := (blk_cell BK206.out 2).trans rfl
               have hcz27_3 : wr.cell? ⟨gb206, 3, none⟩ = some (.bool a2_3) := (blk_cell BK206.out 3).trans rfl
               have hfz27_0 := blk_frozen BK206.out 0
               have hfz27_1 := blk_frozen BK206.out 1
               have hfz27_2 := blk_frozen BK206.out 2
               have hfz27_3 := blk_frozen BK206.out 3
               have p210 : 0 ≤ (x9_2 : Int) := of_decide_eq_true (by first | (with_reducible assumption) | assumption)
               have q210 : x9_2 < (l0.length : Int) := of_decide_eq_true (by first | (with_reducible assumption) | assumption)
               obtain ⟨ad210, A210_0, c210_0, e210, hx210_0, hl210_0, hi210_0⟩ := at_L5 HR0.out x9_2 p210 q210
               cases e210
               replace hx210_0 := (HB.out.cell (World.block_lt_of_cell? w _ hx210_0)).trans hx210_0
               have HR210_0 := Aside0.mk hi210_0
               have HC210_0 := Aside0.mk hl210_0
               clear hi210_0 hl210_0
               replace p210 := eq_true p210
               replace q210 := eq_true q210
               have p211 : 0 ≤ (x10_3 : Int) := of_decide_eq_true (by first | (with_reducible assumption) | assumption)
               have q211 : x10_3 < ((rd_L5 l0 x9_2).length : Int) := of_decide_eq_true (by first | (with_reducible assumption) | assumption)
               obtain ⟨ad211, e211, hx211_0⟩ := Kd.at_int HR210_0.out x10_3 p211 q211
               cases e211
               replace hx211_0 := (HB.out.cell (World.block_lt_of_cell? w _ hx211_0)).trans hx211_0
               replace p211 := eq_true p211
               replace q211 := eq_true q211
               go_wp2
               repeat (go_quiet (fail); try go_wp2)
               go_roundg k3
               case measure => have := HJ4.out; have := HK2.out; have := HK3.out; omega
               case rel => exact ⟨(wrap64 (x10_3 + 1)), (by first | rfl | (simp; done) | (simp [*]; done)), H', ⟨by have := HJ4.out; have := HK2.out; have := HK3.out; omega⟩, ⟨by (with_reducible repeat (first | refine blk_drewN ?_ _ | refine blk_drew ?_ | refine blk_alloc ?_ _)); exact BK206.out⟩, ⟨by repeat (first | (with_reducible first | exact HB.out | apply below_alloc | apply pw_below_drewN | apply below_drew1 | refine below_set ?_ GE206.out) | exact HB.out | exact Below.refl _ _)⟩⟩
              ·rw [if_neg c26] at H
               have c26b0 : ((rd (rd_L5 l0 x9_2) x10_3) == (-1)) = false := beq_eq_false_iff_ne.mpr c26
               have c26b1 : ((rd (rd_L5 l0 x9_2) x10_3) != (-1)) = true := bne_iff_ne.mpr c26
               obtain rfl := Option.some.inj H
               have hcz28_0 : wr.cell? ⟨gb206, 0, none⟩ = some (.int .i64 a2_0) := (blk_cell BK206.out 0).trans rfl
               have hcz28_1 : wr.cell? ⟨gb206, 1, none⟩ = some (.int .i64 a2_1) := (blk_cell BK206.out 1).trans rfl
               have hcz28_2 : wr.cell? ⟨gb206, 2, none⟩ = some (.int .i64 a2_2) := (blk_cell BK206.out 2).trans rfl
               have hcz28_3 : wr.cell? ⟨gb206, 3, none⟩ = some (.bool a2_3) := (blk_cell BK206.out 3).trans rfl
               have hfz28_0 := blk_frozen BK206.out 0
               have hfz28_1 := blk_frozen BK206.out 1
               have hfz28_2 := blk_frozen BK206.out 2
               have hfz28_3 := blk_frozen BK206.out 3
               have p210 : 0 ≤ (x9_2 : Int) := of_decide_eq_true (by first | (with_reducible assumption) | assumption)
               have q210 : x9_2 < (l0.length : Int) := of_decide_eq_true (by first | (with_reducible assumption) | assumption)
               obtain ⟨ad210, A210_0, c210_0, e210, hx210_0, hl210_0, hi210_0⟩ := at_L5 HR0.out x9_2 p210 q210
               cases e210
               replace hx210_0 := (HB.out.cell (World.block_lt_of_cell? w _ hx210_0)).trans hx210_0
               have HR210_0 := Aside0.mk hi210_0
               have HC210_0 := Aside0.mk hl210_0
               clear hi210_0 hl210_0
               replace p210 := eq_true p210
               replace q210 := eq_true q210
               have p211 : 0 ≤ (x10_3 : Int) := of_decide_eq_true (by first | (with_reducible assumption) | assumption)
               have q211 : x10_3 < ((rd_L5 l0 x9_2).length : Int) := of_decide_eq_true (by first | (with_reducible assumption) | assumption)
               obtain ⟨ad211, e211, hx211_0⟩ := Kd.at_int HR210_0.out x10_3 p211 q211
               cases e211
               replace hx211_0 := (HB.out.cell (World.block_lt_of_cell? w _ hx211_0)).trans hx211_0
               replace p211 := eq_true p211
               replace q211 := eq_true q211
               go_wp2
               repeat (go_quiet (fail); try go_wp2)
               go_ret
               exact ⟨by first | rfl | (simp [errW_none, errW_some] <;> rfl) | (simp [*, errW_none, errW_some] <;> rfl), by repeat (first | (with_reducible first | exact HB.out | apply below_alloc | apply pw_below_drewN | apply below_drew1 | refine below_set ?_ GE206.out) | exact HB.out | exact Below.refl _ _)⟩
             ·rw [if_neg c25] at H
              exact absurd H (by simp)
            ·rw [if_neg c24] at H
             exact absurd H (by simp)
           ·rw [if_neg c23] at H
            exact absurd H (by simp)
          ·rw [if_neg c22] at H
           exact absurd H (by simp)
         ·rw [if_neg c21] at H
          have c21b0 : decide (x10_3 < (wrap64 (a2_1 + t207))) = false := decide_eq_false c21
          clear c21
          have H' := Aside0.mk H
          clear H
          have hcz29_0 : wr.cell? ⟨gb206, 0, none⟩ = some (.int .i64 a2_0) := (blk_cell BK206.out 0).trans rfl
          have hcz29_1 : wr.cell? ⟨gb206, 1, none⟩ = some (.int .i64 a2_1) := (blk_cell BK206.out 1).trans rfl
          have hcz29_2 : wr.cell? ⟨gb206, 2, none⟩ = some (.int .i64 a2_2) := (blk_cell BK206.out 2).trans rfl
          have hcz29_3 : wr.cell? ⟨gb206, 3, none⟩ = some (.bool a2_3) := (blk_cell BK206.out 3).trans rfl
          have hfz29_0 := blk_frozen BK206.out 0
          have hfz29_1 := blk_frozen BK206.out 1
          have hfz29_2 := blk_frozen BK206.out 2
          have hfz29_3 := blk_frozen BK206.out 3
          go_wp2
          repeat (go_quiet (fail); try go_wp2)
          go_roundg k3
          case measure => have := HJ4.out; have := HK2.out; have := HK3.out; omega
          case rel => exact ⟨(wrap64 (x9_2 + 1)), (by first | rfl | (simp; done) | (simp [*]; done)), H', ⟨by have := HJ4.out; have := HK2.out; have := HK3.out; omega⟩, ⟨by (with_reducible repeat (first | refine blk_drewN ?_ _ | refine blk_drew ?_ | refine blk_alloc ?_ _)); exact BK206.out⟩, ⟨by repeat (first | (with_reducible first | exact HB.out | apply below_alloc | apply pw_below_drewN | apply below_drew1 | refine below_set ?_ GE206.out) | exact HB.out | exact Below.refl _ _)⟩⟩
      ·rw [if_neg c19] at H
       have c19b0 : decide (x9_2 < (wrap64 (a2_2 + t208))) = false := decide_eq_false c19
       clear c19
       obtain rfl := Option.some.inj H
       have hcz30_0 : wr.cell? ⟨gb206, 0, none⟩ = some (.int .i64 a2_0) := (blk_cell BK206.out 0).trans rfl
       have hcz30_1 : wr.cell? ⟨gb206, 1, none⟩ = some (.int .i64 a2_1) := (blk_cell BK206.out 1).trans rfl
       have hcz30_2 : wr.cell? ⟨gb206, 2, none⟩ = some (.int .i64 a2_2) := (blk_cell BK206.out 2).trans rfl
       have hcz30_3 : wr.cell? ⟨gb206, 3, none⟩ = some (.bool a2_3) := (blk_cell BK206.out 3).trans rfl
       have hfz30_0 := blk_frozen BK206.out 0
       have hfz30_1 := blk_frozen BK206.out 1
       have hfz30_2 := blk_frozen BK206.out 2
       have hfz30_3 := blk_frozen BK206.out 3
       go_wp2
       repeat (go_quiet (fail); try go_wp2)
       go_ret
       exact ⟨by first | rfl | (simp [errW_none, errW_some] <;> rfl) | (simp [*, errW_none, errW_some] <;> rfl), by repeat (first | (with_reducible first | exact HB.out | apply below_alloc | apply pw_below_drewN | apply below_drew1 | refine below_set ?_ GE206.out) | exact HB.out | exact Below.refl _ _)⟩

end Go.Proofs.Ythpgmjlhakdemaa.PFnExactFillChase
