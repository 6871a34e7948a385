/- The printed functions of the law FnExactFillChase and their contracts, mended by this session's program (mend.py) where the printed walk stops. No condition. -/
import Derived.Test.YthpgmjlhakdemaaQFnExactFillChasex0
import Derived.Test.YthpgmjlhakdemaaQFnExactFillChasex5
namespace Go.Proofs.Ythpgmjlhakdemaa.PFnExactFillChase
open Go.RowKit Go.Proofs.YthpgmjlhakdemaaW.PrintWords Go.Proofs.YthpgmjlhakdemaaW.PrintLast Go.Proofs.YthpgmjlhakdemaaW.PrintMore
attribute [local go_sem] max2_int min2_int max_two min_two max_three min_three max_four min_four   -- for this text's walks alone
set_option linter.unusedVariables false
set_option linter.unusedSimpArgs false

theorem types_no {W : World} {k : Nat} {L L' : List Nat} (hd : ∀ q, q ∈ L → q ∉ L') (h : ∃ q, q ∈ L ∧ ∃ cells, W.heap[k]? = some (.cells cells q (0, 0))) (h' : ∃ q, q ∈ L' ∧ ∃ cells, W.heap[k]? = some (.cells cells q (0, 0))) : False := by
 obtain ⟨q, hq, c, hc⟩ := h
 obtain ⟨q', hq', c', hc'⟩ := h'
 rw [hc] at hc'
 simp only [Option.some.injEq, Obj.cells.injEq] at hc'
 obtain ⟨_, rfl, _⟩ := hc'
 exact hd _ hq hq'
theorem box_noS {W : World} {g t : Nat} {cs : Array Value} {L : List Nat} (hb : W.heap[g]? = some (.cells cs t (0, 0))) (ht : t ∉ L) (h : ∃ q, q ∈ L ∧ ∃ cells, W.heap[g]? = some (.cells cells q (0, 0))) : False := by
 obtain ⟨q, hq, c, hc⟩ := h
 rw [hb] at hc
 simp only [Option.some.injEq, Obj.cells.injEq] at hc
 obtain ⟨_, rfl, _⟩ := hc
 exact ht hq

/-! ### impl_mark: function 58 -/
mutual
def impl_mark.l0 : Nat → List (List Int) → Int → Int → Int → Int → Int → Int → Int → Bool → Option ((List (List Int)))
 | 0, _, _, _, _, _, _, _, _, _ => none
 | k + 1, x0, x3, x8, x9, x10, x213000, x213001, x213002, x213003 => if x10 < (wrap64 (x213002 + x9)) then (impl_mark.l1 k x0 x3 x8 x9 x10 x213001 x213000 x213001 x213002 x213003) else (some x0)
def impl_mark.l1 : Nat → List (List Int) → Int → Int → Int → Int → Int → Int → Int → Int → Bool → Option ((List (List Int)))
 | 0, _, _, _, _, _, _, _, _, _, _ => none
 | k + 1, x0, x3, x8, x9, x10, x11, x213000, x213001, x213002, x213003 => if x11 < (wrap64 (x213001 + x8)) then (if 0 ≤ x10 then (if x10 < (x0.length : Int) then (if 0 ≤ x11 then (if x11 < ((rd_L5 x0 x10).length : Int) then (impl_mark.l1 k (x0.set (x10 : Int).toNat ((rd_L5 x0 x10).set (x11 : Int).toNat x3)) x3 x8 x9 x10 (wrap64 (x11 + 1)) x213000 x213001 x213002 x213003) else (none)) else (none)) else (none)) else (none)) else (impl_mark.l0 k x0 x3 x8 x9 (wrap64 (x10 + 1)) x213000 x213001 x213002 x213003)
end
def impl_mark.f (k : Nat) (l0 : List (List Int)) (l1 : List (S50)) (a2_0 : Int) (a2_1 : Int) (a2_2 : Int) (a2_3 : Bool) (a3 : Int) : Option ((List (List Int))) := (impl_sizeOf.f l1 a2_0 a2_1 a2_2 a2_3).bind fun bt213 => (impl_mark.l0 k l0 a3 bt213.1 bt213.2 a2_2 a2_0 a2_1 a2_2 a2_3)
theorem impl_mark.mono_l : ∀ k, (∀ y0 y1 y2 y3 y4 y5 y6 y7 y8, LeO (impl_mark.l0 k y0 y1 y2 y3 y4 y5 y6 y7 y8) (impl_mark.l0 (k + 1) y0 y1 y2 y3 y4 y5 y6 y7 y8)) ∧ (∀ y0 y1 y2 y3 y4 y5 y6 y7 y8 y9, LeO (impl_mark.l1 k y0 y1 y2 y3 y4 y5 y6 y7 y8 y9) (impl_mark.l1 (k + 1) y0 y1 y2 y3 y4 y5 y6 y7 y8 y9))
 | 0 => ⟨fun _ _ _ _ _ _ _ _ _ r h => by simp [impl_mark.l0] at h, fun _ _ _ _ _ _ _ _ _ _ r h => by simp [impl_mark.l1] at h⟩
 | k + 1 => by
  obtain ⟨ih0, ih1⟩ := impl_mark.mono_l k
  refine ⟨?_, ?_⟩
  ·intro y0 y1 y2 y3 y4 y5 y6 y7 y8
   unfold impl_mark.l0
   repeat' first
   | (with_reducible exact ih0 _ _ _ _ _ _ _ _ _)
   | (with_reducible exact ih1 _ _ _ _ _ _ _ _ _ _)
   | (with_reducible exact LeO.refl _)
   | (with_reducible exact LeO.none _)
   | (with_reducible refine LeO.ite ?_ ?_)
   | (with_reducible refine LeO.bind ?_ (fun _ => ?_))
   | exact ih0 _ _ _ _ _ _ _ _ _
   | exact ih1 _ _ _ _ _ _ _ _ _ _
   | exact LeO.none _
   | refine LeO.ite ?_ ?_
   | refine LeO.bind ?_ (fun _ => ?_)
  ·intro y0 y1 y2 y3 y4 y5 y6 y7 y8 y9
   unfold impl_mark.l1
   repeat' first
   | (with_reducible exact ih0 _ _ _ _ _ _ _ _ _)
   | (with_reducible exact ih1 _ _ _ _ _ _ _ _ _ _)
   | (with_reducible exact LeO.refl _)
   | (with_reducible exact LeO.none _)
   | (with_reducible refine LeO.ite ?_ ?_)
   | (with_reducible refine LeO.bind ?_ (fun _ => ?_))
   | exact ih0 _ _ _ _ _ _ _ _ _
   | exact ih1 _ _ _ _ _ _ _ _ _ _
   | exact LeO.none _
   | refine LeO.ite ?_ ?_
   | refine LeO.bind ?_ (fun _ => ?_)
theorem impl_mark.mono : ∀ a0 a1 a2 a3 a4 a5 a6 k, LeO (impl_mark.f k a0 a1 a2 a3 a4 a5 a6) (impl_mark.f (k + 1) a0 a1 a2 a3 a4 a5 a6) := by
 intro a0 a1 a2 a3 a4 a5 a6 k
 obtain ⟨ih0, ih1⟩ := impl_mark.mono_l k
 unfold impl_mark.f
 repeat' first
   | (with_reducible exact ih0 _ _ _ _ _ _ _ _ _)
   | (with_reducible exact ih1 _ _ _ _ _ _ _ _ _ _)
   | (with_reducible exact LeO.refl _)
   | (with_reducible exact LeO.none _)
   | (with_reducible refine LeO.ite ?_ ?_)
   | (with_reducible refine LeO.bind ?_ (fun _ => ?_))
   | exact ih0 _ _ _ _ _ _ _ _ _
   | exact ih1 _ _ _ _ _ _ _ _ _ _
   | exact LeO.none _
   | refine LeO.ite ?_ ?_
   | refine LeO.bind ?_ (fun _ => ?_)
set_option maxHeartbeats 8000000 in
set_option maxRecDepth 100000 in
theorem impl_mark.calls (k : Nat) (P0_ : Nat → Prop) (u9000_ : Value) (l0 : List (List Int)) (A1 : Option Addr) (c1 : Nat) (l1 : List (S50)) (a2_0 : Int) (a2_1 : Int) (a2_2 : Int) (a2_3 : Bool) (a3 : Int) (r : List (List Int)) (w0 w : World) (hB : Below w0.heap.size w0 w) (ho0 : Kd.S (Kd.slice 3 (Kd.int .i64)) 24 w w0.heap.size P0_ u9000_ l0) (hr1 : ∀ W_, Kept w W_ (fun k_ => P0_ k_) → Kd.C k50 W_ A1 l1.length l1) (hc1 : l1.length ≤ c1) (h : impl_mark.f k l0 l1 a2_0 a2_1 a2_2 a2_3 a3 = some r) :
  Calls Try.prog 58 #[u9000_, .slice A1 l1.length c1, .agg #[.int .i64 a2_0, .int .i64 a2_1, .int .i64 a2_2, .bool a2_3], .int .i64 a3] w fun e w' => e = .returned (.tuple #[]) ∧ Kd.S (Kd.slice 3 (Kd.int .i64)) 24 w' w0.heap.size (fun k_ => (P0_ k_ ∨ w.heap.size ≤ k_)) u9000_ r ∧ Below w0.heap.size w0 w' ∧ Kept w w' (fun k_ => P0_ k_) := by
 have hu66 := Try.underlying66
 have HO0 := Aside0.mk (show Kd.S (Kd.slice 3 (Kd.int .i64)) 24 w w0.heap.size (fun k_ => (P0_ k_ ∨ w.heap.size ≤ k_)) u9000_ l0 from Kd.S_mono ho0 (fun k_ hk => (.inl hk)))
 have HR1 := Aside0.mk hr1
 have HC1 := Aside0.mk hc1
 clear hr1 hc1
 have HK := Aside0.mk (Kept.refl w (fun k_ => P0_ k_))
 have HW0 := Aside0.mk hB.size
 have HB := Aside0.mk hB
 clear hB
 have H : ((impl_sizeOf.f l1 a2_0 a2_1 a2_2 a2_3).bind fun bt213 => (impl_mark.l0 k l0 a3 bt213.1 bt213.2 a2_2 a2_0 a2_1 a2_2 a2_3)) = some r := h
 clear h
 replace H := Option.bind_eq_some_iff.mp H
 obtain ⟨⟨t213, t214⟩, A50, H⟩ := H
 replace H : (impl_mark.l0 k l0 a3 t213 t214 a2_2 a2_0 a2_1 a2_2 a2_3) = some r := H
 have A5 := Aside0.mk A50
 clear A50
 have H' := Aside0.mk H
 clear H
 go_enter Try.func58, Try.ntmps58
 go_wp2_with (first | ((with_reducible refine gate_dst (N := 6) rfl ?_); refine box_event ?hg (N := 6) ?hd (cs := #[.int .i64 a2_0, .int .i64 a2_1, .int .i64 a2_2, .bool a2_3]) (t := 66) ?hr ?_; (case hd => rfl); (case hg => rfl); (case hr => first | (go_simp; done) | (go_simp; rfl)); intro gb212 hg w6 hbox hb; have n0_ := Aside0.mk (Kd.S_below (by (with_reducible repeat (first | apply Kd.S_alloc | apply Kd.S_drewN | apply Kd.S_drew)); exact HO0.out) hb); have n1_ := Aside0.mk (Kept.below (S := (fun k_ => P0_ k_)) (by repeat (first | (with_reducible first | exact HK.out | apply Kept.alloc | apply Kept.drewN | apply Kept.drew) | exact HK.out)) hb); have n2_ := Aside0.mk (below_step (by repeat (first | (with_reducible first | exact HB.out | apply below_alloc | apply pw_below_drewN | apply below_drew1) | exact HB.out | exact Below.refl _ _)) hb); have n3_ := Aside0.mk (hbox); have n4_ := Aside0.mk ((by rw [hg]; exact (by first | exact HK.out.1 | exact (show Kept w _ (fun k_ => P0_ k_) from by repeat (first | (with_reducible first | exact HK.out | apply Kept.alloc | apply Kept.drewN | apply Kept.drew) | exact HK.out)).1) : w.heap.size ≤ gb212)); have n5_ := Aside0.mk ((by rw [hg]; exact (below_size (by repeat (first | (with_reducible first | exact HB.out | apply below_alloc | apply pw_below_drewN | apply below_drew1) | exact HB.out | exact Below.refl _ _))) : w0.heap.size ≤ gb212)); clear HO0; clear HK; clear HB; have HO0 := n0_; have HK := n1_; have HB := n2_; have BK212 := n3_; have GW212 := n4_; have GE212 := n5_; clear n0_ n1_ n2_ n3_ n4_ n5_; clear hb hbox hg; have hcz7_0 : w6.cell? ⟨gb212, 0, none⟩ = some (.int .i64 a2_0) := (blk_cell BK212.out 0).trans rfl; have hcz7_1 : w6.cell? ⟨gb212, 1, none⟩ = some (.int .i64 a2_1) := (blk_cell BK212.out 1).trans rfl; have hcz7_2 : w6.cell? ⟨gb212, 2, none⟩ = some (.int .i64 a2_2) := (blk_cell BK212.out 2).trans rfl; have hcz7_3 : w6.cell? ⟨gb212, 3, none⟩ = some (.bool a2_3) := (blk_cell BK212.out 3).trans rfl; have hfz7_0 := blk_frozen BK212.out 0; have hfz7_1 := blk_frozen BK212.out 1; have hfz7_2 := blk_frozen BK212.out 2; have hfz7_3 := blk_frozen BK212.out 3) | ((with_reducible refine gate_callee (f := 66) rfl ?_); refine goesL_ (some 15) rfl rfl Try.func66 (by kernel_rfl) rfl #[.slice A1 l1.length c1, .agg #[.int .i64 a2_0, .int .i64 a2_1, .int .i64 a2_2, .bool a2_3]] rfl (by (try simp only [List.map_toArray, List.map_cons, List.map_nil]); first | done | rfl | (simp only [List.length_drop, List.length_take]; rfl)) ?_; (with_reducible refine (impl_sizeOf.calls _ _ l1 a2_0 a2_1 a2_2 a2_3 t213 t214 _ ?side1 ?side2 A5.out).mono ?_); (case side1 => exact Kd.C_kept_now HR1.out (by repeat (first | (with_reducible first | exact HK.out | apply Kept.alloc | apply Kept.drewN | apply Kept.drew | refine Kept.setCell ?_ (.inr GW212.out) _) | exact HK.out))); (case side2 => exact HC1.out); rintro e w8 ⟨rfl, hb⟩; refine ⟨_, rfl, ?_⟩; have n0_ := Aside0.mk (Kd.S_below (by (with_reducible repeat (first | apply Kd.S_alloc | apply Kd.S_drewN | apply Kd.S_drew)); exact HO0.out) hb); have n1_ := Aside0.mk (blk_below (g := gb212) (o := .cells #[.int .i64 a2_0, .int .i64 a2_1, .int .i64 a2_2, .bool a2_3] 66 (0, 0)) (by (with_reducible repeat (first | refine blk_drewN ?_ _ | refine blk_drew ?_ | refine blk_alloc ?_ _)); exact BK212.out) hb); have n2_ := Aside0.mk (Kept.below (S := (fun k_ => P0_ k_)) (by repeat (first | (with_reducible first | exact HK.out | apply Kept.alloc | apply Kept.drewN | apply Kept.drew | refine Kept.setCell ?_ (.inr GW212.out) _) | exact HK.out)) hb); have n3_ := Aside0.mk (below_step (by repeat (first | (with_reducible first | exact HB.out | apply below_alloc | apply pw_below_drewN | apply below_drew1 | refine below_set ?_ GE212.out) | exact HB.out | exact Below.refl _ _)) hb); clear HO0; clear BK212; clear HK; clear HB; have HO0 := n0_; have BK212 := n1_; have HK := n2_; have HB := n3_; clear n0_ n1_ n2_ n3_; (try clear hb); (try clear hb2); (try clear hk); (try clear hi); have hcz9_0 : w8.cell? ⟨gb212, 0, none⟩ = some (.int .i64 a2_0) := (blk_cell BK212.out 0).trans rfl; have hcz9_1 : w8.cell? ⟨gb212, 1, none⟩ = some (.int .i64 a2_1) := (blk_cell BK212.out 1).trans rfl; have hcz9_2 : w8.cell? ⟨gb212, 2, none⟩ = some (.int .i64 a2_2) := (blk_cell BK212.out 2).trans rfl; have hcz9_3 : w8.cell? ⟨gb212, 3, none⟩ = some (.bool a2_3) := (blk_cell BK212.out 3).trans rfl; have hfz9_0 := blk_frozen BK212.out 0; have hfz9_1 := blk_frozen BK212.out 1; have hfz9_2 := blk_frozen BK212.out 2; have hfz9_3 := blk_frozen BK212.out 3))
 go_loopg [10] k (fun kq v10 w' => ∃ (x0_1 : List (List Int)) (x10_1 : Int), v10 = .int .i64 x10_1 ∧ Aside0 (impl_mark.l0 kq x0_1 a3 t213 t214 x10_1 a2_0 a2_1 a2_2 a2_3 = some r) ∧ Aside0 (kq ≤ k) ∧ Aside0 (Kd.S (Kd.slice 3 (Kd.int .i64)) 24 w' w0.heap.size (fun k_ => (P0_ k_ ∨ w.heap.size ≤ k_)) u9000_ x0_1) ∧ Aside0 (w'.heap[gb212]? = some (.cells #[.int .i64 a2_0, .int .i64 a2_1, .int .i64 a2_2, .bool a2_3] 66 (0, 0))) ∧ Aside0 (Kept w w' (fun k_ => P0_ k_)) ∧ Aside0 (Below w0.heap.size w0 w'))
 case atStart => exact ⟨(l0), (a2_2), (by first | rfl | (simp; done) | (simp [*]; done)), H', ⟨Nat.le_refl _⟩, ⟨by (with_reducible repeat (first | apply Kd.S_alloc | apply Kd.S_drewN | apply Kd.S_drew)); exact HO0.out⟩, ⟨by (with_reducible repeat (first | refine blk_drewN ?_ _ | refine blk_drew ?_ | refine blk_alloc ?_ _)); exact BK212.out⟩, ⟨by repeat (first | (with_reducible first | exact HK.out | apply Kept.alloc | apply Kept.drewN | apply Kept.drew | refine Kept.setCell ?_ (.inr GW212.out) _) | exact HK.out)⟩, ⟨by repeat (first | (with_reducible first | exact HB.out | apply below_alloc | apply pw_below_drewN | apply below_drew1 | refine below_set ?_ GE212.out) | exact HB.out | exact Below.refl _ _)⟩⟩
 case round =>
  clear H'
  (try clear c1); (try clear p2); (try clear c5); (try clear c6); (try clear hcz7_0); (try clear hcz7_1); (try clear hcz7_2); (try clear hcz7_3); (try clear hcz9_0); (try clear hcz9_1); (try clear hcz9_2); (try clear hcz9_3); (try clear hfz7_0); (try clear hfz7_1); (try clear hfz7_2); (try clear hfz7_3); (try clear hfz9_0); (try clear hfz9_1); (try clear hfz9_2); (try clear hfz9_3)
  obtain ⟨x0_1, x10_1, rfl, HA, HK1, HO_0, BK212, HK, HB⟩ := hrel
  cases gk with
  | zero => exact absurd HA.out (by simp [impl_mark.l0])
  | succ k1 =>
   have H := HA.out
   clear HA
   simp only [impl_mark.l0] at H
   by_cases c10 : x10_1 < (wrap64 (a2_2 + t214))
   ·rw [if_pos c10] at H
    have c10b0 : decide (x10_1 < (wrap64 (a2_2 + t214))) = true := decide_eq_true c10
    clear c10
    have H' := Aside0.mk H
    clear H
    have hcz11_0 : wr.cell? ⟨gb212, 0, none⟩ = some (.int .i64 a2_0) := (blk_cell BK212.out 0).trans rfl
    have hcz11_1 : wr.cell? ⟨gb212, 1, none⟩ = some (.int .i64 a2_1) := (blk_cell BK212.out 1).trans rfl
    have hcz11_2 : wr.cell? ⟨gb212, 2, none⟩ = some (.int .i64 a2_2) := (blk_cell BK212.out 2).trans rfl
    have hcz11_3 : wr.cell? ⟨gb212, 3, none⟩ = some (.bool a2_3) := (blk_cell BK212.out 3).trans rfl
    have hfz11_0 := blk_frozen BK212.out 0
    have hfz11_1 := blk_frozen BK212.out 1
    have hfz11_2 := blk_frozen BK212.out 2
    have hfz11_3 := blk_frozen BK212.out 3
    go_wp2
    go_loopg [11] k1 (fun kq v11 w' => ∃ (x0_2 : List (List Int)) (x11_2 : Int), v11 = .int .i64 x11_2 ∧ Aside0 (impl_mark.l1 kq x0_2 a3 t213 t214 x10_1 x11_2 a2_0 a2_1 a2_2 a2_3 = some r) ∧ Aside0 (kq ≤ k1) ∧ Aside0 (Kd.S (Kd.slice 3 (Kd.int .i64)) 24 w' w0.heap.size (fun k_ => (P0_ k_ ∨ w.heap.size ≤ k_)) u9000_ x0_2) ∧ Aside0 (w'.heap[gb212]? = some (.cells #[.int .i64 a2_0, .int .i64 a2_1, .int .i64 a2_2, .bool a2_3] 66 (0, 0))) ∧ Aside0 (Kept w w' (fun k_ => P0_ k_)) ∧ Aside0 (Below w0.heap.size w0 w'))
    case atStart => exact ⟨(x0_1), (a2_1), (by first | rfl | (simp; done) | (simp [*]; done)), H', ⟨Nat.le_refl _⟩, ⟨by (with_reducible repeat (first | apply Kd.S_alloc | apply Kd.S_drewN | apply Kd.S_drew)); exact HO_0.out⟩, ⟨by (with_reducible repeat (first | refine blk_drewN ?_ _ | refine blk_drew ?_ | refine blk_alloc ?_ _)); exact BK212.out⟩, ⟨by repeat (first | (with_reducible first | exact HK.out | apply Kept.alloc | apply Kept.drewN | apply Kept.drew | refine Kept.setCell ?_ (.inr GW212.out) _) | exact HK.out)⟩, ⟨by repeat (first | (with_reducible first | exact HB.out | apply below_alloc | apply pw_below_drewN | apply below_drew1 | refine below_set ?_ GE212.out) | exact HB.out | exact Below.refl _ _)⟩⟩
    case round =>
     clear H'
     (try clear c1); (try clear p2); (try clear c5); (try clear c6); (try clear p6); (try clear c10); (try clear c10b0); (try clear hcz11_0); (try clear hcz11_1); (try clear hcz11_2); (try clear hcz11_3); (try clear hcz7_0); (try clear hcz7_1); (try clear hcz7_2); (try clear hcz7_3); (try clear hcz9_0); (try clear hcz9_1); (try clear hcz9_2); (try clear hcz9_3); (try clear hfz11_0); (try clear hfz11_1); (try clear hfz11_2); (try clear hfz11_3); (try clear hfz7_0); (try clear hfz7_1); (try clear hfz7_2); (try clear hfz7_3); (try clear hfz9_0); (try clear hfz9_1); (try clear hfz9_2); (try clear hfz9_3); (try clear p2)
     obtain ⟨x0_2, x11_2, rfl, HA, HK2, HO_0, BK212, HK, HB⟩ := hrel
     cases gk with
     | zero => exact absurd HA.out (by simp [impl_mark.l1])
     | succ k2 =>
      have H := HA.out
      clear HA
      simp only [impl_mark.l1] at H
      by_cases c12 : x11_2 < (wrap64 (a2_1 + t213))
      ·rw [if_pos c12] at H
       have c12b0 : decide (x11_2 < (wrap64 (a2_1 + t213))) = true := decide_eq_true c12
       clear c12
       by_cases c13 : 0 ≤ x10_1
       ·rw [if_pos c13] at H
        have c13b0 : decide (0 ≤ x10_1) = true := decide_eq_true c13
        clear c13
        by_cases c14 : x10_1 < (x0_2.length : Int)
        ·rw [if_pos c14] at H
         have c14b0 : decide (x10_1 < (x0_2.length : Int)) = true := decide_eq_true c14
         clear c14
         by_cases c15 : 0 ≤ x11_2
         ·rw [if_pos c15] at H
          have c15b0 : decide (0 ≤ x11_2) = true := decide_eq_true c15
          clear c15
          by_cases c16 : x11_2 < ((rd_L5 x0_2 x10_1).length : Int)
          ·rw [if_pos c16] at H
           have c16b0 : decide (x11_2 < ((rd_L5 x0_2 x10_1).length : Int)) = true := decide_eq_true c16
           clear c16
           obtain ⟨y216, hy216⟩ : ∃ y_ : List Int, y_ = ((rd_L5 x0_2 x10_1).set (x11_2 : Int).toNat a3) := ⟨_, rfl⟩
           replace H : (impl_mark.l1 k2 (x0_2.set (x10_1 : Int).toNat y216) a3 t213 t214 x10_1 (wrap64 (x11_2 + 1)) a2_0 a2_1 a2_2 a2_3) = some r := by first | (rw [hy216]; with_reducible exact H) | (have H2_ := (Option.bind_some _ _).symm.trans H; rw [hy216]; with_reducible exact H2_) | (have H2_ := (Option.bind_some _ _).symm.trans H; with_reducible exact H2_) | with_reducible exact H | (rw [hy216]; exact H) | exact H
           have Ny216 := Aside0.mk hy216
           clear hy216
           obtain ⟨y218, hy218⟩ : ∃ y_ : List (List Int), y_ = (x0_2.set (x10_1 : Int).toNat y216) := ⟨_, rfl⟩
           replace H : (impl_mark.l1 k2 y218 a3 t213 t214 x10_1 (wrap64 (x11_2 + 1)) a2_0 a2_1 a2_2 a2_3) = some r := by first | (rw [hy218]; with_reducible exact H) | (have H2_ := (Option.bind_some _ _).symm.trans H; rw [hy218]; with_reducible exact H2_) | (have H2_ := (Option.bind_some _ _).symm.trans H; with_reducible exact H2_) | with_reducible exact H | (rw [hy218]; exact H) | exact H
           have Ny218 := Aside0.mk hy218
           clear hy218
           have H' := Aside0.mk H
           clear H
           have hcz18_0 : wr.cell? ⟨gb212, 0, none⟩ = some (.int .i64 a2_0) := (blk_cell BK212.out 0).trans rfl
           have hcz18_1 : wr.cell? ⟨gb212, 1, none⟩ = some (.int .i64 a2_1) := (blk_cell BK212.out 1).trans rfl
           have hcz18_2 : wr.cell? ⟨gb212, 2, none⟩ = some (.int .i64 a2_2) := (blk_cell BK212.out 2).trans rfl
           have hcz18_3 : wr.cell? ⟨gb212, 3, none⟩ = some (.bool a2_3) := (blk_cell BK212.out 3).trans rfl
           have hfz18_0 := blk_frozen BK212.out 0
           have hfz18_1 := blk_frozen BK212.out 1
           have hfz18_2 := blk_frozen BK212.out 2
           have hfz18_3 := blk_frozen BK212.out 3
           obtain ⟨Ao19, co19, eo19⟩ := Kd.S_slice HO_0.out
           subst eo19
           have p215 : 0 ≤ (x10_1 : Int) := of_decide_eq_true (by first | (with_reducible assumption) | assumption)
           have q215 : x10_1 < (x0_2.length : Int) := of_decide_eq_true (by first | (with_reducible assumption) | assumption)
           obtain ⟨ad215, A215_0, c215_0, e215, hx215_0, hl215_0, hi215_0⟩ := at_L5 (Kd.S_reads' HO_0.out).2.2 x10_1 p215 q215
           cases e215
           obtain ⟨ce215, hce215, hMe215, hcc215⟩ := Kd.S_get HO_0.out [] x10_1 p215 (by first | exact q215 | exact of_decide_eq_true (by first | (with_reducible assumption) | assumption) | (have e_ := (Kd.S_reads' HO_0.out).1; omega))
           obtain ⟨ve215_0, rfl, ge215_0⟩ := hMe215
           have hv215_0 := hcc215 0 _ rfl
           rw [Nat.add_zero, show ((Kd.slice 3 (Kd.int .i64))).sz = 1 from rfl, Nat.mul_one] at hv215_0
           replace hv215_0 := Option.some.inj (hv215_0.symm.trans hx215_0)
           rw [hv215_0] at ge215_0
           have HL215_0 := Aside0.mk (show Kd.R (Kd.int .i64) 3 _ _ _ _ (rd_L5 x0_2 x10_1) from ge215_0)
           clear hv215_0 ge215_0
           have HX215_0 := Aside0.mk hx215_0
           clear hcc215 hce215
           have HR215_0 := Aside0.mk hi215_0
           have HC215_0 := Aside0.mk hl215_0
           clear hi215_0 hl215_0
           replace p215 := eq_true p215
           replace q215 := eq_true q215
           have p17 : 0 ≤ (x11_2 : Int) := of_decide_eq_true (by first | (with_reducible assumption) | assumption)
           have q17 : (x11_2 : Int) < (((rd_L5 x0_2 x10_1).length : Int) : Int) := of_decide_eq_true (by first | (with_reducible assumption) | assumption)
           obtain ⟨go17, co17, eo17, gb17, gl17, cl17, HG17⟩ := Kd.R_form HL215_0.out (by omega)
           (first | cases eo17 | (injection eo17 with ea_ en_ ec_; (first | subst ea_ | (injection ea_ with ea_; subst ea_)); subst ec_; clear en_))
           have GB17 := Aside0.mk gb17
           have GG17 := Aside0.mk HG17
           clear gb17 gl17 HG17
           have HMgo17 := Aside0.mk (show (P0_ go17 ∨ w.heap.size ≤ go17) from (HL215_0.out.1 _ rfl).1)
           obtain ⟨hx17_0, hf17_0⟩ := Kd.R_celln 0 HL215_0.out (x11_2 : Int) p17 q17
           replace p17 := eq_true p17
           replace q17 := eq_true q17
           have hq20 : (x10_1 : Int) < (x0_2.length : Int) := (by have h_ : (x10_1 : Int) < ((x0_2.length : Int) : Int) := of_decide_eq_true (by first | (with_reducible assumption) | assumption); first | exact h_ | (have e_ := (Kd.S_reads' HO_0.out).1; omega) | simpa only [List.length_set, List.length_set] using h_)
           obtain ⟨oki20, ce20, hcl20, hM20, hcc20, hok20, hbk20⟩ := Kd.S_borrow HO_0.out [] (x10_1 : Int) (of_decide_eq_true (by first | (with_reducible assumption) | assumption)) hq20
           obtain ⟨ve20_0, rfl, ge20_0⟩ := hM20
           have hv20 := hcc20 0 _ rfl
           rw [Nat.add_zero, show ((Kd.slice 3 (Kd.int .i64))).sz = 1 from rfl, Nat.mul_one] at hv20
           replace hv20 := Option.some.inj (hv20.symm.trans HX215_0.out)
           subst hv20
           clear hcc20 hcl20
           replace ge20_0 := (show Kd.R (Kd.int .i64) 3 _ _ _ _ (rd_L5 x0_2 x10_1) from ge20_0)
           have HP20 := Kd.R_putg ge20_0 (x11_2 : Int) a3
           go_wp2_with (first | ((with_reducible refine gate_store (t := 3) (p := 44) rfl ?_); refine store_event (t := 3) (p := 44) (v := ?vo_w21) (w1 := (wr.setCell ⟨go17, (x11_2 : Int).toNat, none⟩ (.int .i64 a3))) ?hg ?ho ?hn ?hr ?_; (case ho => rfl); (case hg => rfl); (case hn => rfl); (case hr => first | (go_simp; done) | (go_simp; rfl)); intro w21 hw; have hg : wr.grownBy w21 (some go17) := (by rw [hw]; exact HP20.2); have hz_ : Kd.R (Kd.int .i64) 3 w21 w0.heap.size oki20 (.slice (some ⟨go17, 0, none⟩) (rd_L5 x0_2 x10_1).length c215_0) y216 := (by rw [hw, Ny216.out]; first | exact HP20.1 | exact Kd.R_mono HP20.1 (fun _ hk => ⟨hk.2, hk.1⟩)); have hp_ : Kd.S (Kd.slice 3 (Kd.int .i64)) 24 w21 w0.heap.size (fun k_ => (P0_ k_ ∨ w.heap.size ≤ k_)) (.slice (some ad215) x0_2.length co19) y218 := (by rw [Ny218.out]; exact hbk20 hg (fun k_ e_ => by injection e_ with e_; subst e_; exact ge20_0.1 _ rfl) (Kd.M_row hz_)); have hm_ := Kd.R_mono hz_ hok20; clear HP20 hbk20; have n0_ := Aside0.mk (hp_); have n1_ := Aside0.mk (blk_grown (g := gb212) (o := .cells #[.int .i64 a2_0, .int .i64 a2_1, .int .i64 a2_2, .bool a2_3] 66 (0, 0)) (by (with_reducible repeat (first | refine blk_drewN ?_ _ | refine blk_drew ?_ | refine blk_alloc ?_ _)); exact BK212.out) hg (Kd.R_ne HL215_0.out BK212.out (by decide))); have n2_ := Aside0.mk ((by rw [hw]; exact below_set (HB.out) GB17.out : Below w0.heap.size w0 w21)); have n3_ := Aside0.mk (Kept.of_grown (S := (fun k_ => P0_ k_)) hg (by repeat (first | (with_reducible first | exact HK.out | apply Kept.alloc | apply Kept.drewN | apply Kept.drew | refine Kept.setCell ?_ (.inr GW212.out) _) | exact HK.out)) (fun k_ e_ => (HL215_0.out.1 k_ e_).1)); have n4_ := Aside0.mk (hm_); have n5_ := Aside0.mk ((Kd.R_reads' hm_).2.1); clear HO_0; clear BK212; clear HB; clear HK; clear HL215_0; have HO_0 := n0_; have BK212 := n1_; have HB := n2_; have HK := n3_; have HL219 := n4_; have HC217 := n5_; clear n0_ n1_ n2_ n3_ n4_ n5_; clear hg hw hp_ hz_ hm_ hok20))
           go_roundg k2
           case measure => have := HK1.out; have := HK2.out; omega
           case rel => exact ⟨(y218), (wrap64 (x11_2 + 1)), (by first | rfl | (simp; done) | (simp [*]; done)), H', ⟨by have := HK1.out; have := HK2.out; omega⟩, ⟨by (with_reducible repeat (first | apply Kd.S_alloc | apply Kd.S_drewN | apply Kd.S_drew)); exact HO_0.out⟩, ⟨by (with_reducible repeat (first | refine blk_drewN ?_ _ | refine blk_drew ?_ | refine blk_alloc ?_ _)); exact BK212.out⟩, ⟨by repeat (first | (with_reducible first | exact HK.out | apply Kept.alloc | apply Kept.drewN | apply Kept.drew | refine Kept.setCell ?_ (.inr GW212.out) _) | exact HK.out)⟩, ⟨by repeat (first | (with_reducible first | exact HB.out | apply below_alloc | apply pw_below_drewN | apply below_drew1 | refine below_set ?_ GE212.out) | exact HB.out | exact Below.refl _ _)⟩⟩
          ·rw [if_neg c16] at H
           exact absurd H (by simp)
         ·rw [if_neg c15] at H
          exact absurd H (by simp)
        ·rw [if_neg c14] at H
         exact absurd H (by simp)
       ·rw [if_neg c13] at H
        exact absurd H (by simp)
      ·rw [if_neg c12] at H
       have c12b0 : decide (x11_2 < (wrap64 (a2_1 + t213))) = false := decide_eq_false c12
       clear c12
       have H' := Aside0.mk H
       clear H
       have hcz22_0 : wr.cell? ⟨gb212, 0, none⟩ = some (.int .i64 a2_0) := (blk_cell BK212.out 0).trans rfl
       have hcz22_1 : wr.cell? ⟨gb212, 1, none⟩ = some (.int .i64 a2_1) := (blk_cell BK212.out 1).trans rfl
       have hcz22_2 : wr.cell? ⟨gb212, 2, none⟩ = some (.int .i64 a2_2) := (blk_cell BK212.out 2).trans rfl
       have hcz22_3 : wr.cell? ⟨gb212, 3, none⟩ = some (.bool a2_3) := (blk_cell BK212.out 3).trans rfl
       have hfz22_0 := blk_frozen BK212.out 0
       have hfz22_1 := blk_frozen BK212.out 1
       have hfz22_2 := blk_frozen BK212.out 2
       have hfz22_3 := blk_frozen BK212.out 3
       go_wp2
       go_roundg k2
       case measure => have := HK1.out; have := HK2.out; omega
       case rel => exact ⟨(x0_2), (wrap64 (x10_1 + 1)), (by first | rfl | (simp; done) | (simp [*]; done)), H', ⟨by have := HK1.out; have := HK2.out; omega⟩, ⟨by (with_reducible repeat (first | apply Kd.S_alloc | apply Kd.S_drewN | apply Kd.S_drew)); exact HO_0.out⟩, ⟨by (with_reducible repeat (first | refine blk_drewN ?_ _ | refine blk_drew ?_ | refine blk_alloc ?_ _)); exact BK212.out⟩, ⟨by repeat (first | (with_reducible first | exact HK.out | apply Kept.alloc | apply Kept.drewN | apply Kept.drew | refine Kept.setCell ?_ (.inr GW212.out) _) | exact HK.out)⟩, ⟨by repeat (first | (with_reducible first | exact HB.out | apply below_alloc | apply pw_below_drewN | apply below_drew1 | refine below_set ?_ GE212.out) | exact HB.out | exact Below.refl _ _)⟩⟩
   ·rw [if_neg c10] at H
    have c10b0 : decide (x10_1 < (wrap64 (a2_2 + t214))) = false := decide_eq_false c10
    clear c10
    obtain rfl := Option.some.inj H
    have hcz23_0 : wr.cell? ⟨gb212, 0, none⟩ = some (.int .i64 a2_0) := (blk_cell BK212.out 0).trans rfl
    have hcz23_1 : wr.cell? ⟨gb212, 1, none⟩ = some (.int .i64 a2_1) := (blk_cell BK212.out 1).trans rfl
    have hcz23_2 : wr.cell? ⟨gb212, 2, none⟩ = some (.int .i64 a2_2) := (blk_cell BK212.out 2).trans rfl
    have hcz23_3 : wr.cell? ⟨gb212, 3, none⟩ = some (.bool a2_3) := (blk_cell BK212.out 3).trans rfl
    have hfz23_0 := blk_frozen BK212.out 0
    have hfz23_1 := blk_frozen BK212.out 1
    have hfz23_2 := blk_frozen BK212.out 2
    have hfz23_3 := blk_frozen BK212.out 3
    go_wp2
    first | go_end0 | ((try simp only [Exit.inBlock, Exit.then]); refine bodyPost_ret (results_none rfl _ _ _) rfl ?_)
    exact ⟨by first | rfl | (simp [errW_none, errW_some] <;> rfl) | (simp [*, errW_none, errW_some] <;> rfl), by (with_reducible repeat (first | apply Kd.S_alloc | apply Kd.S_drewN | apply Kd.S_drew)); exact HO_0.out, by repeat (first | (with_reducible first | exact HB.out | apply below_alloc | apply pw_below_drewN | apply below_drew1 | refine below_set ?_ GE212.out) | exact HB.out | exact Below.refl _ _), by repeat (first | (with_reducible first | exact HK.out | apply Kept.alloc | apply Kept.drewN | apply Kept.drew | refine Kept.setCell ?_ (.inr GW212.out) _) | exact HK.out)⟩

end Go.Proofs.Ythpgmjlhakdemaa.PFnExactFillChase
