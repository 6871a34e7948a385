/- The printed functions of the law FnExactMarksToNext and their contracts, mended by this session's program (mend.py) where the printed walk stops. No condition. -/
import Derived.Test.YtcnhdcgiapjpoaaQFnExactMarksToNextx0
import Derived.Test.YtcnhdcgiapjpoaaQFnExactMarksToNextx1
import Derived.Test.YtcnhdcgiapjpoaaQFnExactMarksToNextx6
import Derived.Test.YtcnhdcgiapjpoaaQFnExactMarksToNextx10
import Derived.Test.YtcnhdcgiapjpoaaQFnExactMarksToNextx11
import Derived.Test.YtcnhdcgiapjpoaaQFnExactMarksToNextx12
namespace Go.Proofs.Ytcnhdcgiapjpoaa.PFnExactMarksToNext
open Go.RowKit Go.Proofs.YtcnhdcgiapjpoaaW.PrintWords Go.Proofs.YtcnhdcgiapjpoaaW.PrintLast Go.Proofs.YtcnhdcgiapjpoaaW.PrintMore
attribute [local go_sem] max2_int min2_int max_two min_two max_three min_three max_four min_four   -- for this text's walks alone
set_option linter.unusedVariables false
set_option linter.unusedSimpArgs false

/-! ### laws_FnExactMarksToNext: function 13 -/
mutual
def laws_FnExactMarksToNext.j0 : Nat → List (List ByteArray) → Int → List (S68) → Bool → List (List ByteArray) → List (S68) → Bool → Bool → Option (Bool)
 | 0, _, _, _, _, _, _, _, _ => none
 | k + 1, x0, x1, x6, x7, x8, x9, x10, x44 => if x44 = true then (some false) else ((laws_toStringSS.f k x0).bind fun t297 => ((laws_eqStringSS.f k x8 t297).bind fun t300 => (if t300 = true then ((laws_markStringSS.f k x8 1).bind fun t301 => (if t301 < 0 then (laws_FnExactMarksToNext.j1 k x0 x1 x6 x7 x9 true) else ((laws_eqMarkS.f k x9 x6).bind fun t302 => (if t302 = true then (laws_FnExactMarksToNext.j1 k x0 x1 x6 x7 x9 (x10 != x7)) else (laws_FnExactMarksToNext.j1 k x0 x1 x6 x7 x9 true))))) else (some false))))
def laws_FnExactMarksToNext.j1 : Nat → List (List ByteArray) → Int → List (S68) → Bool → List (S68) → Bool → Option (Bool)
 | 0, _, _, _, _, _, _ => none
 | k + 1, x0, x1, x6, x7, x9, x65 => if x65 = true then (some false) else ((laws_markMarkS.f k x9 1).bind fun bt303 => ((laws_heldMarkS.f k bt303.2 1).bind fun t305 => (if t305 < 0 then (some false) else (if t305 = bt303.1 then ((laws_toStringSS.f k x0).bind fun t306 => ((impl_MarksToNext.f k t306 x1).bind fun bt309 => ((laws_eqMarkS.f k bt309.1 x6).bind fun t313 => (if t313 = true then (laws_FnExactMarksToNext.j2 k bt303.2 bt303.1 (bt309.2 != x7)) else (laws_FnExactMarksToNext.j2 k bt303.2 bt303.1 true))))) else (some false)))))
def laws_FnExactMarksToNext.j2 : Nat → List (S68) → Int → Bool → Option (Bool)
 | 0, _, _, _ => none
 | k + 1, x9, x12, x92 => if x92 = true then (some false) else ((laws_heldMarkS.f k x9 1).bind fun t314 => (if t314 < 0 then (some false) else (if t314 = x12 then (some true) else (some false))))
end
def laws_FnExactMarksToNext.f (k : Nat) (l0 : List (List ByteArray)) (a1 : Int) : Option (Bool) := (laws_szStringSS.f k l0 1048576).bind fun t281 => (if t281 < 0 then (some true) else ((laws_toStringSS.f k l0).bind fun t282 => ((spec_MarksToNext.f k t282 a1).bind fun bt285 => ((laws_toStringSS.f k l0).bind fun t289 => ((impl_MarksToNext.f k t289 a1).bind fun bt292 => ((laws_eqMarkS.f k bt292.1 bt285.1).bind fun t296 => (if t296 = true then (laws_FnExactMarksToNext.j0 k l0 a1 bt285.1 bt285.2 t289 bt292.1 bt292.2 (bt292.2 != bt285.2)) else (laws_FnExactMarksToNext.j0 k l0 a1 bt285.1 bt285.2 t289 bt292.1 bt292.2 true))))))))
theorem laws_FnExactMarksToNext.mono_l : ∀ k, (∀ y0 y1 y2 y3 y4 y5 y6 y7, LeO (laws_FnExactMarksToNext.j0 k y0 y1 y2 y3 y4 y5 y6 y7) (laws_FnExactMarksToNext.j0 (k + 1) y0 y1 y2 y3 y4 y5 y6 y7)) ∧ (∀ y0 y1 y2 y3 y4 y5, LeO (laws_FnExactMarksToNext.j1 k y0 y1 y2 y3 y4 y5) (laws_FnExactMarksToNext.j1 (k + 1) y0 y1 y2 y3 y4 y5)) ∧ (∀ y0 y1 y2, LeO (laws_FnExactMarksToNext.j2 k y0 y1 y2) (laws_FnExactMarksToNext.j2 (k + 1) y0 y1 y2))
 | 0 => ⟨fun _ _ _ _ _ _ _ _ r h => by simp [laws_FnExactMarksToNext.j0] at h, fun _ _ _ _ _ _ r h => by simp [laws_FnExactMarksToNext.j1] at h, fun _ _ _ r h => by simp [laws_FnExactMarksToNext.j2] at h⟩
 | k + 1 => by
  obtain ⟨ih0, ih1, ih2⟩ := laws_FnExactMarksToNext.mono_l k
  refine ⟨?_, ?_, ?_⟩
  ·intro y0 y1 y2 y3 y4 y5 y6 y7
   unfold laws_FnExactMarksToNext.j0
   repeat' first
   | (with_reducible exact ih0 _ _ _ _ _ _ _ _)
   | (with_reducible exact ih1 _ _ _ _ _ _)
   | (with_reducible exact ih2 _ _ _)
   | (with_reducible exact impl_MarksToNext.mono _ _ _)
   | (with_reducible exact laws_eqMarkS.mono _ _ _)
   | (with_reducible exact laws_eqStringSS.mono _ _ _)
   | (with_reducible exact laws_heldMarkS.mono _ _ _)
   | (with_reducible exact laws_markMarkS.mono _ _ _)
   | (with_reducible exact laws_markStringSS.mono _ _ _)
   | (with_reducible exact laws_szStringSS.mono _ _ _)
   | (with_reducible exact laws_toStringSS.mono _ _)
   | (with_reducible exact spec_MarksToNext.mono _ _ _)
   | (with_reducible exact LeO.refl _)
   | (with_reducible exact LeO.none _)
   | (with_reducible refine LeO.ite ?_ ?_)
   | (with_reducible refine LeO.bind ?_ (fun _ => ?_))
   | exact ih0 _ _ _ _ _ _ _ _
   | exact ih1 _ _ _ _ _ _
   | exact ih2 _ _ _
   | exact impl_MarksToNext.mono _ _ _
   | exact laws_eqMarkS.mono _ _ _
   | exact laws_eqStringSS.mono _ _ _
   | exact laws_heldMarkS.mono _ _ _
   | exact laws_markMarkS.mono _ _ _
   | exact laws_markStringSS.mono _ _ _
   | exact laws_szStringSS.mono _ _ _
   | exact laws_toStringSS.mono _ _
   | exact spec_MarksToNext.mono _ _ _
   | exact LeO.none _
   | refine LeO.ite ?_ ?_
   | refine LeO.bind ?_ (fun _ => ?_)
  ·intro y0 y1 y2 y3 y4 y5
   unfold laws_FnExactMarksToNext.j1
   repeat' first
   | (with_reducible exact ih0 _ _ _ _ _ _ _ _)
   | (with_reducible exact ih1 _ _ _ _ _ _)
   | (with_reducible exact ih2 _ _ _)
   | (with_reducible exact impl_MarksToNext.mono _ _ _)
   | (with_reducible exact laws_eqMarkS.mono _ _ _)
   | (with_reducible exact laws_eqStringSS.mono _ _ _)
   | (with_reducible exact laws_heldMarkS.mono _ _ _)
   | (with_reducible exact laws_markMarkS.mono _ _ _)
   | (with_reducible exact laws_markStringSS.mono _ _ _)
   | (with_reducible exact laws_szStringSS.mono _ _ _)
   | (with_reducible exact laws_toStringSS.mono _ _)
   | (with_reducible exact spec_MarksToNext.mono _ _ _)
   | (with_reducible exact LeO.refl _)
   | (with_reducible exact LeO.none _)
   | (with_reducible refine LeO.ite ?_ ?_)
   | (with_reducible refine LeO.bind ?_ (fun _ => ?_))
   | exact ih0 _ _ _ _ _ _ _ _
   | exact ih1 _ _ _ _ _ _
   | exact ih2 _ _ _
   | exact impl_MarksToNext.mono _ _ _
   | exact laws_eqMarkS.mono _ _ _
   | exact laws_eqStringSS.mono _ _ _
   | exact laws_heldMarkS.mono _ _ _
   | exact laws_markMarkS.mono _ _ _
   | exact laws_markStringSS.mono _ _ _
   | exact laws_szStringSS.mono _ _ _
   | exact laws_toStringSS.mono _ _
   | exact spec_MarksToNext.mono _ _ _
   | exact LeO.none _
   | refine LeO.ite ?_ ?_
   | refine LeO.bind ?_ (fun _ => ?_)
  ·intro y0 y1 y2
   unfold laws_FnExactMarksToNext.j2
   repeat' first
   | (with_reducible exact ih0 _ _ _ _ _ _ _ _)
   | (with_reducible exact ih1 _ _ _ _ _ _)
   | (with_reducible exact ih2 _ _ _)
   | (with_reducible exact impl_MarksToNext.mono _ _ _)
   | (with_reducible exact laws_eqMarkS.mono _ _ _)
   | (with_reducible exact laws_eqStringSS.mono _ _ _)
   | (with_reducible exact laws_heldMarkS.mono _ _ _)
   | (with_reducible exact laws_markMarkS.mono _ _ _)
   | (with_reducible exact laws_markStringSS.mono _ _ _)
   | (with_reducible exact laws_szStringSS.mono _ _ _)
   | (with_reducible exact laws_toStringSS.mono _ _)
   | (with_reducible exact spec_MarksToNext.mono _ _ _)
   | (with_reducible exact LeO.refl _)
   | (with_reducible exact LeO.none _)
   | (with_reducible refine LeO.ite ?_ ?_)
   | (with_reducible refine LeO.bind ?_ (fun _ => ?_))
   | exact ih0 _ _ _ _ _ _ _ _
   | exact ih1 _ _ _ _ _ _
   | exact ih2 _ _ _
   | exact impl_MarksToNext.mono _ _ _
   | exact laws_eqMarkS.mono _ _ _
   | exact laws_eqStringSS.mono _ _ _
   | exact laws_heldMarkS.mono _ _ _
   | exact laws_markMarkS.mono _ _ _
   | exact laws_markStringSS.mono _ _ _
   | exact laws_szStringSS.mono _ _ _
   | exact laws_toStringSS.mono _ _
   | exact spec_MarksToNext.mono _ _ _
   | exact LeO.none _
   | refine LeO.ite ?_ ?_
   | refine LeO.bind ?_ (fun _ => ?_)
theorem laws_FnExactMarksToNext.mono : ∀ a0 a1 k, LeO (laws_FnExactMarksToNext.f k a0 a1) (laws_FnExactMarksToNext.f (k + 1) a0 a1) := by
 intro a0 a1 k
 obtain ⟨ih0, ih1, ih2⟩ := laws_FnExactMarksToNext.mono_l k
 unfold laws_FnExactMarksToNext.f
 repeat' first
   | (with_reducible exact ih0 _ _ _ _ _ _ _ _)
   | (with_reducible exact ih1 _ _ _ _ _ _)
   | (with_reducible exact ih2 _ _ _)
   | (with_reducible exact impl_MarksToNext.mono _ _ _)
   | (with_reducible exact laws_eqMarkS.mono _ _ _)
   | (with_reducible exact laws_eqStringSS.mono _ _ _)
   | (with_reducible exact laws_heldMarkS.mono _ _ _)
   | (with_reducible exact laws_markMarkS.mono _ _ _)
   | (with_reducible exact laws_markStringSS.mono _ _ _)
   | (with_reducible exact laws_szStringSS.mono _ _ _)
   | (with_reducible exact laws_toStringSS.mono _ _)
   | (with_reducible exact spec_MarksToNext.mono _ _ _)
   | (with_reducible exact LeO.refl _)
   | (with_reducible exact LeO.none _)
   | (with_reducible refine LeO.ite ?_ ?_)
   | (with_reducible refine LeO.bind ?_ (fun _ => ?_))
   | exact ih0 _ _ _ _ _ _ _ _
   | exact ih1 _ _ _ _ _ _
   | exact ih2 _ _ _
   | exact impl_MarksToNext.mono _ _ _
   | exact laws_eqMarkS.mono _ _ _
   | exact laws_eqStringSS.mono _ _ _
   | exact laws_heldMarkS.mono _ _ _
   | exact laws_markMarkS.mono _ _ _
   | exact laws_markStringSS.mono _ _ _
   | exact laws_szStringSS.mono _ _ _
   | exact laws_toStringSS.mono _ _
   | exact spec_MarksToNext.mono _ _ _
   | exact LeO.none _
   | refine LeO.ite ?_ ?_
   | refine LeO.bind ?_ (fun _ => ?_)
set_option maxHeartbeats 8000000 in
set_option maxRecDepth 100000 in
theorem laws_FnExactMarksToNext.calls (k : Nat) (A0 : Option Addr) (c0 : Nat) (l0 : List (List ByteArray)) (a1 : Int) (r : Bool) (w : World) (hr0 : Kd.C (Kd.slice 9 Kd.string) w A0 l0.length l0) (hc0 : l0.length ≤ c0) (h : laws_FnExactMarksToNext.f k l0 a1 = some r) :
  Calls Try.prog 13 #[.slice A0 l0.length c0, .int .i64 a1] w fun e w' => e = .returned (.bool r) ∧ Below w.heap.size w w' := by
 have HR0 := Aside0.mk hr0
 have HC0 := Aside0.mk hc0
 clear hr0 hc0
 have HB := Aside0.mk (Below.refl w.heap.size w)
 have H : ((laws_szStringSS.f k l0 1048576).bind fun t281 => (if t281 < 0 then (some true) else ((laws_toStringSS.f k l0).bind fun t282 => ((spec_MarksToNext.f k t282 a1).bind fun bt285 => ((laws_toStringSS.f k l0).bind fun t289 => ((impl_MarksToNext.f k t289 a1).bind fun bt292 => ((laws_eqMarkS.f k bt292.1 bt285.1).bind fun t296 => (if t296 = true then (laws_FnExactMarksToNext.j0 k l0 a1 bt285.1 bt285.2 t289 bt292.1 bt292.2 (bt292.2 != bt285.2)) else (laws_FnExactMarksToNext.j0 k l0 a1 bt285.1 bt285.2 t289 bt292.1 bt292.2 true))))))))) = some r := h
 clear h
 replace H := Option.bind_eq_some_iff.mp H
 obtain ⟨t281, A30, H⟩ := H
 replace H : (if t281 < 0 then (some true) else ((laws_toStringSS.f k l0).bind fun t282 => ((spec_MarksToNext.f k t282 a1).bind fun bt285 => ((laws_toStringSS.f k l0).bind fun t289 => ((impl_MarksToNext.f k t289 a1).bind fun bt292 => ((laws_eqMarkS.f k bt292.1 bt285.1).bind fun t296 => (if t296 = true then (laws_FnExactMarksToNext.j0 k l0 a1 bt285.1 bt285.2 t289 bt292.1 bt292.2 (bt292.2 != bt285.2)) else (laws_FnExactMarksToNext.j0 k l0 a1 bt285.1 bt285.2 t289 bt292.1 bt292.2 true)))))))) = some r := H
 have A3 := Aside0.mk A30
 clear A30
 by_cases c4 : t281 < 0
 ·rw [if_pos c4] at H
  have c4b0 : decide (t281 < 0) = true := decide_eq_true c4
  clear c4
  obtain rfl := Option.some.inj H
  go_enter Try.func13, Try.ntmps13
  go_wp2_with (first | ((with_reducible refine gate_callee (f := 14) rfl ?_); refine goesL_ (some 18) rfl rfl Try.func14 (by kernel_rfl) rfl #[.slice A0 l0.length c0, .int .i64 1048576] rfl (by (try simp only [List.map_toArray, List.map_cons, List.map_nil]); first | done | rfl | (simp only [List.length_drop, List.length_take]; rfl)) ?_; (with_reducible refine (laws_szStringSS.calls k _ _ l0 1048576 t281 _ ?side1 ?side2 A3.out).mono ?_); (case side1 => repeat (first | exact HR0.out | (with_reducible refine Kd.C_alloc ?_ _) | (with_reducible refine Kd.C_drewN ?_ _) | (with_reducible refine Kd.C_drew ?_))); (case side2 => exact HC0.out); rintro e w' ⟨rfl, ⟨nd, rfl⟩⟩; refine ⟨_, rfl, ?_⟩))
  go_ret
  exact ⟨by first | rfl | (simp [errW_none, errW_some] <;> rfl) | (simp [*, errW_none, errW_some] <;> rfl), by repeat (first | (with_reducible first | exact HB.out | apply below_alloc | apply pw_below_drewN | apply below_drew1) | exact HB.out | exact Below.refl _ _)⟩
 ·rw [if_neg c4] at H
  have c4b0 : decide (t281 < 0) = false := decide_eq_false c4
  clear c4
  replace H := Option.bind_eq_some_iff.mp H
  obtain ⟨t282, A50, H⟩ := H
  replace H : ((spec_MarksToNext.f k t282 a1).bind fun bt285 => ((laws_toStringSS.f k l0).bind fun t289 => ((impl_MarksToNext.f k t289 a1).bind fun bt292 => ((laws_eqMarkS.f k bt292.1 bt285.1).bind fun t296 => (if t296 = true then (laws_FnExactMarksToNext.j0 k l0 a1 bt285.1 bt285.2 t289 bt292.1 bt292.2 (bt292.2 != bt285.2)) else (laws_FnExactMarksToNext.j0 k l0 a1 bt285.1 bt285.2 t289 bt292.1 bt292.2 true)))))) = some r := H
  have A5 := Aside0.mk A50
  clear A50
  replace H := Option.bind_eq_some_iff.mp H
  obtain ⟨⟨t285, t286⟩, A60, H⟩ := H
  replace H : ((laws_toStringSS.f k l0).bind fun t289 => ((impl_MarksToNext.f k t289 a1).bind fun bt292 => ((laws_eqMarkS.f k bt292.1 t285).bind fun t296 => (if t296 = true then (laws_FnExactMarksToNext.j0 k l0 a1 t285 t286 t289 bt292.1 bt292.2 (bt292.2 != t286)) else (laws_FnExactMarksToNext.j0 k l0 a1 t285 t286 t289 bt292.1 bt292.2 true))))) = some r := H
  have A6 := Aside0.mk A60
  clear A60
  replace H := Option.bind_eq_some_iff.mp H
  obtain ⟨t289, A70, H⟩ := H
  replace H : ((impl_MarksToNext.f k t289 a1).bind fun bt292 => ((laws_eqMarkS.f k bt292.1 t285).bind fun t296 => (if t296 = true then (laws_FnExactMarksToNext.j0 k l0 a1 t285 t286 t289 bt292.1 bt292.2 (bt292.2 != t286)) else (laws_FnExactMarksToNext.j0 k l0 a1 t285 t286 t289 bt292.1 bt292.2 true)))) = some r := H
  have A7 := Aside0.mk A70
  clear A70
  replace H := Option.bind_eq_some_iff.mp H
  obtain ⟨⟨t292, t293⟩, A80, H⟩ := H
  replace H : ((laws_eqMarkS.f k t292 t285).bind fun t296 => (if t296 = true then (laws_FnExactMarksToNext.j0 k l0 a1 t285 t286 t289 t292 t293 (t293 != t286)) else (laws_FnExactMarksToNext.j0 k l0 a1 t285 t286 t289 t292 t293 true))) = some r := H
  have A8 := Aside0.mk A80
  clear A80
  have HC9 := Aside0.mk H
  clear H
  go_enter Try.func13, Try.ntmps13
  go_upto_region 8 with (first | ((with_reducible refine gate_callee (f := 14) rfl ?_); refine goesL_ (some 18) rfl rfl Try.func14 (by kernel_rfl) rfl #[.slice A0 l0.length c0, .int .i64 1048576] rfl (by (try simp only [List.map_toArray, List.map_cons, List.map_nil]); first | done | rfl | (simp only [List.length_drop, List.length_take]; rfl)) ?_; (with_reducible refine (laws_szStringSS.calls k _ _ l0 1048576 t281 _ ?side1 ?side2 A3.out).mono ?_); (case side1 => repeat (first | exact HR0.out | (with_reducible refine Kd.C_alloc ?_ _) | (with_reducible refine Kd.C_drewN ?_ _) | (with_reducible refine Kd.C_drew ?_))); (case side2 => exact HC0.out); rintro e w' ⟨rfl, ⟨nd, rfl⟩⟩; refine ⟨_, rfl, ?_⟩) | ((with_reducible refine gate_callee (f := 16) rfl ?_); refine goesL_ (some 23) rfl rfl Try.func16 (by kernel_rfl) rfl #[.slice A0 l0.length c0] rfl (by (try simp only [List.map_toArray, List.map_cons, List.map_nil]); first | done | rfl | (simp only [List.length_drop, List.length_take]; rfl)) ?_; (with_reducible refine (laws_toStringSS.calls k _ _ l0 t282 _ ?side1 ?side2 A5.out).mono ?_); (case side1 => repeat (first | exact HR0.out | (with_reducible refine Kd.C_alloc ?_ _) | (with_reducible refine Kd.C_drewN ?_ _) | (with_reducible refine Kd.C_drew ?_))); (case side2 => exact HC0.out); rintro e w10 ⟨v283, rfl, ho0, hb⟩; refine ⟨_, rfl, ?_⟩; have n0_ := Aside0.mk (Kd.S_lower ho0 (below_size (by repeat (first | (with_reducible first | exact HB.out | apply below_alloc | apply pw_below_drewN | apply below_drew1) | exact HB.out | exact Below.refl _ _)))); have n1_ := Aside0.mk (below_step (by repeat (first | (with_reducible first | exact HB.out | apply below_alloc | apply pw_below_drewN | apply below_drew1) | exact HB.out | exact Below.refl _ _)) hb); clear HB; have HO284 := n0_; have HB := n1_; clear n0_ n1_; (try clear hb); (try clear hb2); (try clear hk); (try clear hi); (try clear ho0); obtain ⟨Ao11, co11, eo11⟩ := Kd.S_slice HO284.out; subst eo11) | ((with_reducible refine gate_callee (f := 48) rfl ?_); refine goesL_ (some 25) rfl rfl Try.func48 (by kernel_rfl) rfl #[.slice Ao11 t282.length co11, .int .i64 a1] rfl (by (try simp only [List.map_toArray, List.map_cons, List.map_nil]); first | done | rfl | (simp only [List.length_drop, List.length_take]; rfl)) ?_; (with_reducible refine (spec_MarksToNext.calls k _ _ t282 a1 t285 t286 _ ?side1 ?side2 A6.out).mono ?_); (case side1 => repeat (first | exact (Kd.S_reads' HO284.out).2.2 | (with_reducible refine Kd.C_alloc ?_ _) | (with_reducible refine Kd.C_drewN ?_ _) | (with_reducible refine Kd.C_drew ?_))); (case side2 => exact (Kd.S_reads' HO284.out).2.1); rintro e w12 ⟨v287, rfl, ho0, hb⟩; refine ⟨_, rfl, ?_⟩; (first | (have n0_ := Aside0.mk (Kd.S_below (by (with_reducible repeat (first | apply Kd.S_alloc | apply Kd.S_drewN | apply Kd.S_drew)); exact HO284.out) hb)) | (have n0_ := Aside0.mk True.intro)); have n1_ := Aside0.mk (Kd.R_lower ho0 (below_size (by repeat (first | (with_reducible first | exact HB.out | apply below_alloc | apply pw_below_drewN | apply below_drew1) | exact HB.out | exact Below.refl _ _)))); have n2_ := Aside0.mk (below_step (by repeat (first | (with_reducible first | exact HB.out | apply below_alloc | apply pw_below_drewN | apply below_drew1) | exact HB.out | exact Below.refl _ _)) hb); clear HO284; clear HB; have HO284 := n0_; have HO288 := n1_; have HB := n2_; clear n0_ n1_ n2_; (try clear hb); (try clear hb2); (try clear hk); (try clear hi); (try clear ho0)) | ((with_reducible refine gate_callee (f := 16) rfl ?_); refine goesL_ (some 29) rfl rfl Try.func16 (by kernel_rfl) rfl #[.slice A0 l0.length c0] rfl (by (try simp only [List.map_toArray, List.map_cons, List.map_nil]); first | done | rfl | (simp only [List.length_drop, List.length_take]; rfl)) ?_; (with_reducible refine (laws_toStringSS.calls k _ _ l0 t289 _ ?side1 ?side2 A7.out).mono ?_); (case side1 => repeat (first | exact (Kd.C_below HR0.out HB.out) | exact HR0.out | (with_reducible refine Kd.C_alloc ?_ _) | (with_reducible refine Kd.C_drewN ?_ _) | (with_reducible refine Kd.C_drew ?_))); (case side2 => exact HC0.out); rintro e w13 ⟨v290, rfl, ho0, hb⟩; refine ⟨_, rfl, ?_⟩; have n0_ := Aside0.mk (Kd.S_elder' (by (with_reducible repeat (first | apply Kd.S_alloc | apply Kd.S_drewN | apply Kd.S_drew)); exact HO284.out) (Kd.S_base ho0) hb); have n1_ := Aside0.mk (Kd.R_below (by (with_reducible repeat (first | apply Kd.R_alloc | apply Kd.R_drewN | apply Kd.R_drew)); exact HO288.out) hb); have n2_ := Aside0.mk (Kd.S_lower (Kd.S_new' ho0 (Kd.S_lt (by (with_reducible repeat (first | apply Kd.S_alloc | apply Kd.S_drewN | apply Kd.S_drew)); exact HO284.out))) (below_size (by repeat (first | (with_reducible first | exact HB.out | apply below_alloc | apply pw_below_drewN | apply below_drew1) | exact HB.out | exact Below.refl _ _)))); have n3_ := Aside0.mk (below_step (by repeat (first | (with_reducible first | exact HB.out | apply below_alloc | apply pw_below_drewN | apply below_drew1) | exact HB.out | exact Below.refl _ _)) hb); clear HO284; clear HO288; clear HB; have HO284 := n0_; have HO288 := n1_; have HO291 := n2_; have HB := n3_; clear n0_ n1_ n2_ n3_; (try clear hb); (try clear hb2); (try clear hk); (try clear hi); (try clear ho0); obtain ⟨Ao14, co14, eo14⟩ := Kd.S_slice HO291.out; subst eo14) | ((with_reducible refine gate_callee (f := 49) rfl ?_); refine goesL_ (some 33) rfl rfl Try.func49 (by kernel_rfl) rfl #[.slice Ao14 t289.length co14, .int .i64 a1] rfl (by (try simp only [List.map_toArray, List.map_cons, List.map_nil]); first | done | rfl | (simp only [List.length_drop, List.length_take]; rfl)) ?_; (with_reducible refine (impl_MarksToNext.calls k _ _ t289 a1 t292 t293 _ ?side1 ?side2 A8.out).mono ?_); (case side1 => repeat (first | exact (Kd.S_reads' HO291.out).2.2 | (with_reducible refine Kd.C_alloc ?_ _) | (with_reducible refine Kd.C_drewN ?_ _) | (with_reducible refine Kd.C_drew ?_))); (case side2 => exact (Kd.S_reads' HO291.out).2.1); rintro e w15 ⟨v294, rfl, ho0, hb⟩; refine ⟨_, rfl, ?_⟩; (first | (have n0_ := Aside0.mk (Kd.S_below (by (with_reducible repeat (first | apply Kd.S_alloc | apply Kd.S_drewN | apply Kd.S_drew)); exact HO284.out) hb)) | (have n0_ := Aside0.mk True.intro)); have n1_ := Aside0.mk (Kd.R_elder' (by (with_reducible repeat (first | apply Kd.R_alloc | apply Kd.R_drewN | apply Kd.R_drew)); exact HO288.out) (Kd.R_base ho0) hb); (first | (have n2_ := Aside0.mk (Kd.S_below (by (with_reducible repeat (first | apply Kd.S_alloc | apply Kd.S_drewN | apply Kd.S_drew)); exact HO291.out) hb)) | (have n2_ := Aside0.mk True.intro)); have n3_ := Aside0.mk (Kd.R_lower (Kd.R_new' ho0 (Kd.R_lt (by (with_reducible repeat (first | apply Kd.R_alloc | apply Kd.R_drewN | apply Kd.R_drew)); exact HO288.out))) (below_size (by repeat (first | (with_reducible first | exact HB.out | apply below_alloc | apply pw_below_drewN | apply below_drew1) | exact HB.out | exact Below.refl _ _)))); have n4_ := Aside0.mk (below_step (by repeat (first | (with_reducible first | exact HB.out | apply below_alloc | apply pw_below_drewN | apply below_drew1) | exact HB.out | exact Below.refl _ _)) hb); clear HO284; clear HO288; clear HO291; clear HB; have HO284 := n0_; have HO288 := n1_; have HO291 := n2_; have HO295 := n3_; have HB := n4_; clear n0_ n1_ n2_ n3_ n4_; (try clear hb); (try clear hb2); (try clear hk); (try clear hi); (try clear ho0)))
  (try simp only [Act.put, List.setIfInBounds_toArray, List.set_cons_zero, List.set_cons_succ])
  go_cut [44] (fun v44 wc => ∃ (kq : Nat) (x44_8 : Bool), v44 = .bool x44_8 ∧ Aside0 (laws_FnExactMarksToNext.j0 kq l0 a1 t285 t286 t289 t292 t293 x44_8 = some r) ∧ Aside0 (kq ≤ k) ∧ Aside0 (Kd.R k68 68 wc w.heap.size (fun k_ => some k_ ≠ (v294 : Value).ownBlock) v287 t285) ∧ Aside0 (Kd.S (Kd.slice 9 Kd.string) 27 wc w.heap.size (fun _ => True) (.slice Ao14 t289.length co14) t289) ∧ Aside0 (Kd.R k68 68 wc w.heap.size (fun k_ => some k_ ≠ (v287 : Value).ownBlock) v294 t292) ∧ Aside0 (Below w.heap.size w wc))
  case first =>
   have H := HC9.out
   clear HC9
   replace H := Option.bind_eq_some_iff.mp H
   obtain ⟨t296, A160, H⟩ := H
   replace H : (if t296 = true then (laws_FnExactMarksToNext.j0 k l0 a1 t285 t286 t289 t292 t293 (t293 != t286)) else (laws_FnExactMarksToNext.j0 k l0 a1 t285 t286 t289 t292 t293 true)) = some r := H
   have A16 := Aside0.mk A160
   clear A160
   by_cases c17 : t296 = true
   ·subst c17
    have H1 : (laws_FnExactMarksToNext.j0 k l0 a1 t285 t286 t289 t292 t293 (t293 != t286)) = some r := by rw [if_pos rfl] at H; exact H
    clear H
    have H := H1
    clear H1
    have H' := Aside0.mk H
    clear H
    obtain ⟨Ao18, co18, eo18⟩ := Kd.R_slice HO295.out
    subst eo18
    obtain ⟨Ao19, co19, eo19⟩ := Kd.R_slice HO288.out
    subst eo19
    go_wp2_with (first | ((with_reducible refine gate_callee (f := 50) rfl ?_); refine goesL_ (some 38) rfl rfl Try.func50 (by kernel_rfl) rfl #[.slice Ao18 t292.length co18, .slice Ao19 t285.length co19] rfl (by (try simp only [List.map_toArray, List.map_cons, List.map_nil]); first | done | rfl | (simp only [List.length_drop, List.length_take]; rfl)) ?_; (with_reducible refine (laws_eqMarkS.calls k _ _ t292 _ _ t285 true _ ?side1 ?side2 ?side3 ?side4 A16.out).mono ?_); (case side1 => repeat (first | exact (Kd.R_reads' HO295.out).2.2 | (with_reducible refine Kd.C_alloc ?_ _) | (with_reducible refine Kd.C_drewN ?_ _) | (with_reducible refine Kd.C_drew ?_))); (case side2 => exact (Kd.R_reads' HO295.out).2.1); (case side3 => repeat (first | exact (Kd.R_reads' HO288.out).2.2 | (with_reducible refine Kd.C_alloc ?_ _) | (with_reducible refine Kd.C_drewN ?_ _) | (with_reducible refine Kd.C_drew ?_))); (case side4 => exact (Kd.R_reads' HO288.out).2.1); rintro e w20 ⟨rfl, hb⟩; refine ⟨_, rfl, ?_⟩; (first | (have n0_ := Aside0.mk (Kd.S_below (by (with_reducible repeat (first | apply Kd.S_alloc | apply Kd.S_drewN | apply Kd.S_drew)); exact HO284.out) hb)) | (have n0_ := Aside0.mk True.intro)); have n1_ := Aside0.mk (Kd.R_below (by (with_reducible repeat (first | apply Kd.R_alloc | apply Kd.R_drewN | apply Kd.R_drew)); exact HO288.out) hb); (first | (have n2_ := Aside0.mk (Kd.S_below (by (with_reducible repeat (first | apply Kd.S_alloc | apply Kd.S_drewN | apply Kd.S_drew)); exact HO291.out) hb)) | (have n2_ := Aside0.mk True.intro)); have n3_ := Aside0.mk (Kd.R_below (by (with_reducible repeat (first | apply Kd.R_alloc | apply Kd.R_drewN | apply Kd.R_drew)); exact HO295.out) hb); have n4_ := Aside0.mk (below_step (by repeat (first | (with_reducible first | exact HB.out | apply below_alloc | apply pw_below_drewN | apply below_drew1) | exact HB.out | exact Below.refl _ _)) hb); clear HO284; clear HO288; clear HO291; clear HO295; clear HB; have HO284 := n0_; have HO288 := n1_; have HO291 := n2_; have HO295 := n3_; have HB := n4_; clear n0_ n1_ n2_ n3_ n4_; (try clear hb); (try clear hb2); (try clear hk); (try clear hi)))
    go_meet
    case rel => exact ⟨_, ((t293 != t286)), (by first | rfl | (simp; done) | (simp [*]; done)), H', ⟨by first | omega | exact Nat.le_refl _⟩, ⟨by (with_reducible repeat (first | apply Kd.R_alloc | apply Kd.R_drewN | apply Kd.R_drew)); exact Kd.R_mono HO288.out (fun _ hk => hk.2)⟩, ⟨by (with_reducible repeat (first | apply Kd.S_alloc | apply Kd.S_drewN | apply Kd.S_drew)); exact Kd.S_mono HO291.out (fun _ hk => trivial)⟩, ⟨by (with_reducible repeat (first | apply Kd.R_alloc | apply Kd.R_drewN | apply Kd.R_drew)); exact Kd.R_mono HO295.out (fun _ hk => hk.2)⟩, ⟨by repeat (first | (with_reducible first | exact HB.out | apply below_alloc | apply pw_below_drewN | apply below_drew1) | exact HB.out | exact Below.refl _ _)⟩⟩
   ·replace c17 := Bool.eq_false_iff.mpr c17
    subst c17
    have H1 : (laws_FnExactMarksToNext.j0 k l0 a1 t285 t286 t289 t292 t293 true) = some r := by rw [if_neg (show ¬ (false = true) by decide)] at H; exact H
    clear H
    have H := H1
    clear H1
    have H' := Aside0.mk H
    clear H
    obtain ⟨Ao21, co21, eo21⟩ := Kd.R_slice HO295.out
    subst eo21
    obtain ⟨Ao22, co22, eo22⟩ := Kd.R_slice HO288.out
    subst eo22
    go_wp2_with (first | ((with_reducible refine gate_callee (f := 50) rfl ?_); refine goesL_ (some 38) rfl rfl Try.func50 (by kernel_rfl) rfl #[.slice Ao21 t292.length co21, .slice Ao22 t285.length co22] rfl (by (try simp only [List.map_toArray, List.map_cons, List.map_nil]); first | done | rfl | (simp only [List.length_drop, List.length_take]; rfl)) ?_; (with_reducible refine (laws_eqMarkS.calls k _ _ t292 _ _ t285 false _ ?side1 ?side2 ?side3 ?side4 A16.out).mono ?_); (case side1 => repeat (first | exact (Kd.R_reads' HO295.out).2.2 | (with_reducible refine Kd.C_alloc ?_ _) | (with_reducible refine Kd.C_drewN ?_ _) | (with_reducible refine Kd.C_drew ?_))); (case side2 => exact (Kd.R_reads' HO295.out).2.1); (case side3 => repeat (first | exact (Kd.R_reads' HO288.out).2.2 | (with_reducible refine Kd.C_alloc ?_ _) | (with_reducible refine Kd.C_drewN ?_ _) | (with_reducible refine Kd.C_drew ?_))); (case side4 => exact (Kd.R_reads' HO288.out).2.1); rintro e w23 ⟨rfl, hb⟩; refine ⟨_, rfl, ?_⟩; (first | (have n0_ := Aside0.mk (Kd.S_below (by (with_reducible repeat (first | apply Kd.S_alloc | apply Kd.S_drewN | apply Kd.S_drew)); exact HO284.out) hb)) | (have n0_ := Aside0.mk True.intro)); have n1_ := Aside0.mk (Kd.R_below (by (with_reducible repeat (first | apply Kd.R_alloc | apply Kd.R_drewN | apply Kd.R_drew)); exact HO288.out) hb); (first | (have n2_ := Aside0.mk (Kd.S_below (by (with_reducible repeat (first | apply Kd.S_alloc | apply Kd.S_drewN | apply Kd.S_drew)); exact HO291.out) hb)) | (have n2_ := Aside0.mk True.intro)); have n3_ := Aside0.mk (Kd.R_below (by (with_reducible repeat (first | apply Kd.R_alloc | apply Kd.R_drewN | apply Kd.R_drew)); exact HO295.out) hb); have n4_ := Aside0.mk (below_step (by repeat (first | (with_reducible first | exact HB.out | apply below_alloc | apply pw_below_drewN | apply below_drew1) | exact HB.out | exact Below.refl _ _)) hb); clear HO284; clear HO288; clear HO291; clear HO295; clear HB; have HO284 := n0_; have HO288 := n1_; have HO291 := n2_; have HO295 := n3_; have HB := n4_; clear n0_ n1_ n2_ n3_ n4_; (try clear hb); (try clear hb2); (try clear hk); (try clear hi)))
    go_meet
    case rel => exact ⟨_, (true), (by first | rfl | (simp; done) | (simp [*]; done)), H', ⟨by first | omega | exact Nat.le_refl _⟩, ⟨by (with_reducible repeat (first | apply Kd.R_alloc | apply Kd.R_drewN | apply Kd.R_drew)); exact Kd.R_mono HO288.out (fun _ hk => hk.2)⟩, ⟨by (with_reducible repeat (first | apply Kd.S_alloc | apply Kd.S_drewN | apply Kd.S_drew)); exact Kd.S_mono HO291.out (fun _ hk => trivial)⟩, ⟨by (with_reducible repeat (first | apply Kd.R_alloc | apply Kd.R_drewN | apply Kd.R_drew)); exact Kd.R_mono HO295.out (fun _ hk => hk.2)⟩, ⟨by repeat (first | (with_reducible first | exact HB.out | apply below_alloc | apply pw_below_drewN | apply below_drew1) | exact HB.out | exact Below.refl _ _)⟩⟩
  case rest =>
   clear HC9
   (try clear c1); (try clear p2); (try clear c4); (try clear c4b0); (try clear c5); (try clear c13); (try clear c14); (try clear c16); (try clear c17)
   obtain ⟨kq, x44_8, rfl, HA, HJ8, HO_6, HO_8, HO_9, HB⟩ := hcut
   cases kq with
   | zero => exact absurd HA.out (by simp [laws_FnExactMarksToNext.j0])
   | succ kj8 =>
    have H := HA.out
    clear HA
    simp only [laws_FnExactMarksToNext.j0] at H
    by_cases c24 : x44_8 = true
    ·subst c24
     have H1 : (some false) = some r := by rw [if_pos rfl] at H; exact H
     clear H
     have H := H1
     clear H1
     obtain rfl := Option.some.inj H
     go_wp2
     go_ret
     exact ⟨by first | rfl | (simp [errW_none, errW_some] <;> rfl) | (simp [*, errW_none, errW_some] <;> rfl), by repeat (first | (with_reducible first | exact HB.out | apply below_alloc | apply pw_below_drewN | apply below_drew1) | exact HB.out | exact Below.refl _ _)⟩
    ·replace c24 := Bool.eq_false_iff.mpr c24
     subst c24
     have H1 : ((laws_toStringSS.f kj8 l0).bind fun t297 => ((laws_eqStringSS.f kj8 t289 t297).bind fun t300 => (if t300 = true then ((laws_markStringSS.f kj8 t289 1).bind fun t301 => (if t301 < 0 then (laws_FnExactMarksToNext.j1 kj8 l0 a1 t285 t286 t292 true) else ((laws_eqMarkS.f kj8 t292 t285).bind fun t302 => (if t302 = true then (laws_FnExactMarksToNext.j1 kj8 l0 a1 t285 t286 t292 (t293 != t286)) else (laws_FnExactMarksToNext.j1 kj8 l0 a1 t285 t286 t292 true))))) else (some false)))) = some r := by rw [if_neg (show ¬ (false = true) by decide)] at H; exact H
     clear H
     have H := H1
     clear H1
     replace H := Option.bind_eq_some_iff.mp H
     obtain ⟨t297, A250, H⟩ := H
     replace H : ((laws_eqStringSS.f kj8 t289 t297).bind fun t300 => (if t300 = true then ((laws_markStringSS.f kj8 t289 1).bind fun t301 => (if t301 < 0 then (laws_FnExactMarksToNext.j1 kj8 l0 a1 t285 t286 t292 true) else ((laws_eqMarkS.f kj8 t292 t285).bind fun t302 => (if t302 = true then (laws_FnExactMarksToNext.j1 kj8 l0 a1 t285 t286 t292 (t293 != t286)) else (laws_FnExactMarksToNext.j1 kj8 l0 a1 t285 t286 t292 true))))) else (some false))) = some r := H
     have A25 := Aside0.mk A250
     clear A250
     replace H := Option.bind_eq_some_iff.mp H
     obtain ⟨t300, A260, H⟩ := H
     replace H : (if t300 = true then ((laws_markStringSS.f kj8 t289 1).bind fun t301 => (if t301 < 0 then (laws_FnExactMarksToNext.j1 kj8 l0 a1 t285 t286 t292 true) else ((laws_eqMarkS.f kj8 t292 t285).bind fun t302 => (if t302 = true then (laws_FnExactMarksToNext.j1 kj8 l0 a1 t285 t286 t292 (t293 != t286)) else (laws_FnExactMarksToNext.j1 kj8 l0 a1 t285 t286 t292 true))))) else (some false)) = some r := H
     have A26 := Aside0.mk A260
     clear A260
     by_cases c27 : t300 = true
     ·subst c27
      have H1 : ((laws_markStringSS.f kj8 t289 1).bind fun t301 => (if t301 < 0 then (laws_FnExactMarksToNext.j1 kj8 l0 a1 t285 t286 t292 true) else ((laws_eqMarkS.f kj8 t292 t285).bind fun t302 => (if t302 = true then (laws_FnExactMarksToNext.j1 kj8 l0 a1 t285 t286 t292 (t293 != t286)) else (laws_FnExactMarksToNext.j1 kj8 l0 a1 t285 t286 t292 true))))) = some r := by rw [if_pos rfl] at H; exact H
      clear H
      have H := H1
      clear H1
      replace H := Option.bind_eq_some_iff.mp H
      obtain ⟨t301, A280, H⟩ := H
      replace H : (if t301 < 0 then (laws_FnExactMarksToNext.j1 kj8 l0 a1 t285 t286 t292 true) else ((laws_eqMarkS.f kj8 t292 t285).bind fun t302 => (if t302 = true then (laws_FnExactMarksToNext.j1 kj8 l0 a1 t285 t286 t292 (t293 != t286)) else (laws_FnExactMarksToNext.j1 kj8 l0 a1 t285 t286 t292 true)))) = some r := H
      have A28 := Aside0.mk A280
      clear A280
      have HC29 := Aside0.mk H
      clear H
      go_upto_region 14 with (first | ((with_reducible refine gate_callee (f := 16) rfl ?_); refine goesL_ (some 47) rfl rfl Try.func16 (by kernel_rfl) rfl #[.slice A0 l0.length c0] rfl (by (try simp only [List.map_toArray, List.map_cons, List.map_nil]); first | done | rfl | (simp only [List.length_drop, List.length_take]; rfl)) ?_; (with_reducible refine (laws_toStringSS.calls kj8 _ _ l0 t297 _ ?side1 ?side2 A25.out).mono ?_); (case side1 => repeat (first | exact (Kd.C_below HR0.out HB.out) | exact HR0.out | (with_reducible refine Kd.C_alloc ?_ _) | (with_reducible refine Kd.C_drewN ?_ _) | (with_reducible refine Kd.C_drew ?_))); (case side2 => exact HC0.out); rintro e w30 ⟨v298, rfl, ho0, hb⟩; refine ⟨_, rfl, ?_⟩; (first | (have n0_ := Aside0.mk (Kd.R_below (by (with_reducible repeat (first | apply Kd.R_alloc | apply Kd.R_drewN | apply Kd.R_drew)); exact HO_6.out) hb)) | (have n0_ := Aside0.mk True.intro)); (first | (have n1_ := Aside0.mk (Kd.S_elder' (by (with_reducible repeat (first | apply Kd.S_alloc | apply Kd.S_drewN | apply Kd.S_drew)); exact HO_8.out) (Kd.S_base ho0) hb)) | (have n1_ := Aside0.mk True.intro)); (first | (have n2_ := Aside0.mk (Kd.R_below (by (with_reducible repeat (first | apply Kd.R_alloc | apply Kd.R_drewN | apply Kd.R_drew)); exact HO_9.out) hb)) | (have n2_ := Aside0.mk True.intro)); (first | (have n3_ := Aside0.mk (Kd.S_lower (Kd.S_new' ho0 (Kd.S_lt (by (with_reducible repeat (first | apply Kd.S_alloc | apply Kd.S_drewN | apply Kd.S_drew)); exact HO_8.out))) (below_size (by repeat (first | (with_reducible first | exact HB.out | apply below_alloc | apply pw_below_drewN | apply below_drew1) | exact HB.out | exact Below.refl _ _))))) | (have n3_ := Aside0.mk True.intro)); have n4_ := Aside0.mk (below_step (by repeat (first | (with_reducible first | exact HB.out | apply below_alloc | apply pw_below_drewN | apply below_drew1) | exact HB.out | exact Below.refl _ _)) hb); clear HO_6; clear HO_8; clear HO_9; clear HB; have HO_6 := n0_; have HO_8 := n1_; have HO_9 := n2_; have HO299 := n3_; have HB := n4_; clear n0_ n1_ n2_ n3_ n4_; (try clear hb); (try clear hb2); (try clear hk); (try clear hi); (try clear ho0); obtain ⟨Ao31, co31, eo31⟩ := Kd.S_slice HO299.out; subst eo31) | ((with_reducible refine gate_callee (f := 18) rfl ?_); refine goesL_ (some 48) rfl rfl Try.func18 (by kernel_rfl) rfl #[.slice Ao14 t289.length co14, .slice Ao31 t297.length co31] rfl (by (try simp only [List.map_toArray, List.map_cons, List.map_nil]); first | done | rfl | (simp only [List.length_drop, List.length_take]; rfl)) ?_; (with_reducible refine (laws_eqStringSS.calls kj8 _ _ t289 _ _ t297 true _ ?side1 ?side2 ?side3 ?side4 A26.out).mono ?_); (case side1 => repeat (first | exact (Kd.S_reads' HO_8.out).2.2 | (with_reducible refine Kd.C_alloc ?_ _) | (with_reducible refine Kd.C_drewN ?_ _) | (with_reducible refine Kd.C_drew ?_))); (case side2 => exact (Kd.S_reads' HO_8.out).2.1); (case side3 => repeat (first | exact (Kd.S_reads' HO299.out).2.2 | (with_reducible refine Kd.C_alloc ?_ _) | (with_reducible refine Kd.C_drewN ?_ _) | (with_reducible refine Kd.C_drew ?_))); (case side4 => exact (Kd.S_reads' HO299.out).2.1); rintro e w' ⟨rfl, ⟨nd, rfl⟩⟩; refine ⟨_, rfl, ?_⟩) | ((with_reducible refine gate_callee (f := 27) rfl ?_); refine goesL_ (some 52) rfl rfl Try.func27 (by kernel_rfl) rfl #[.slice Ao14 t289.length co14, .int .i64 1] rfl (by (try simp only [List.map_toArray, List.map_cons, List.map_nil]); first | done | rfl | (simp only [List.length_drop, List.length_take]; rfl)) ?_; (with_reducible refine (laws_markStringSS.calls kj8 ?pS1_ (.slice Ao14 t289.length co14) t289 1 t301 w _ ?side1 ?side2 A28.out).mono ?_); (case side1 => repeat (first | (with_reducible first | exact HB.out | apply below_alloc | apply pw_below_drewN | apply below_drew1) | exact HB.out | exact Below.refl _ _)); (case side2 => exact Kd.S_bound HO_8.out); rintro e w32 ⟨rfl, hb, hkp⟩; refine ⟨_, rfl, ?_⟩; (first | (have n0_ := Aside0.mk (Kd.R_mono (ok' := fun k_ => some k_ ≠ (v294 : Value).ownBlock) (Kd.R_keptB (Kd.R_bound (HO_6.out)) hkp (fun k_ hk_ hs_ => (fun e_ => types_no (by decide) hk_.2.2.2 e_.2.2.2) hs_)) (fun k_ hk_ => hk_.1.1))) | (have n0_ := Aside0.mk (Kd.R_mono (ok' := fun k_ => some k_ ≠ (v294 : Value).ownBlock) (Kd.R_keptB (Kd.R_bound (Kd.R_drewN HO_6.out _)) hkp (fun k_ hk_ hs_ => (fun e_ => types_no (by decide) hk_.2.2.2 e_.2) hs_)) (fun k_ hk_ => hk_.1.1))) | (have n0_ := Aside0.mk (Kd.R_mono (ok' := fun k_ => some k_ ≠ (v294 : Value).ownBlock) (Kd.R_keptB (Kd.R_bound (HO_6.out)) hkp (fun k_ hk_ hs_ => (fun e_ => types_no (by decide) hk_.2.2.2 e_.2) hs_)) (fun k_ hk_ => hk_.1.1))) | (have n0_ := Aside0.mk (Kd.R_mono (ok' := fun k_ => some k_ ≠ (v294 : Value).ownBlock) (Kd.R_keptB (Kd.R_bound (HO_6.out)) hkp (fun k_ hk_ hs_ => (fun e_ => types_no (by decide) hk_.2.2.2 e_.2) hs_)) (fun k_ hk_ => hk_.1.1))) | (have n0_ := Aside0.mk (Kd.R_mono (ok' := fun k_ => some k_ ≠ (v294 : Value).ownBlock) (R_keptT HO_6.out hkp (fun k_ h_ => h_.2) (by decide)) (fun k_ hk_ => by first | exact hk_ | exact hk_.1 | exact hk_.2 | exact hk_.1.1 | exact hk_.1.2 | exact hk_.2.1 | exact hk_.2.2 | exact hk_.1.1.1 | exact hk_.1.1.2 | exact ⟨hk_.1, hk_.2⟩ | exact ⟨hk_.1.1, hk_.1.2⟩ | exact ⟨hk_.1.1, hk_.2⟩ | exact ⟨hk_.1.2, hk_.2⟩ | simp_all))) | (have n0_ := Aside0.mk (Kd.R_mono (ok' := fun k_ => some k_ ≠ (v294 : Value).ownBlock) (Kd.R_reok rfl (Kd.R_kept (Kd.R_tight rfl HO_6.out) hkp (fun k_ e_ h_ => by first | exact h_.1 e_ | exact h_.1.1 e_ | exact h_.1.2 e_ | exact h_.1.1.1 e_ | exact h_.1.1.2 e_ | exact h_.1.2.1 e_ | exact h_.1.2.2 e_ | simp_all)) (fun k_ e_ => HO_6.out.1 k_ e_)) (fun k_ hk_ => by first | exact hk_ | exact hk_.1 | exact hk_.2 | exact hk_.1.1 | exact hk_.1.2 | exact hk_.2.1 | exact hk_.2.2 | exact hk_.1.1.1 | exact hk_.1.1.2 | exact ⟨hk_.1, hk_.2⟩ | exact ⟨hk_.1.1, hk_.1.2⟩ | exact ⟨hk_.1.1, hk_.2⟩ | exact ⟨hk_.1.2, hk_.2⟩ | simp_all))) | (have n0_ := Aside0.mk (Kd.S_mono (ok' := fun k_ => some k_ ≠ (v294 : Value).ownBlock) (S_keptT HO_6.out hkp (fun k_ h_ => h_.2) (by decide)) (fun k_ hk_ => by first | exact hk_ | exact hk_.1 | exact hk_.2 | exact hk_.1.1 | exact hk_.1.2 | exact hk_.2.1 | exact hk_.2.2 | exact hk_.1.1.1 | exact hk_.1.1.2 | exact ⟨hk_.1, hk_.2⟩ | exact ⟨hk_.1.1, hk_.1.2⟩ | exact ⟨hk_.1.1, hk_.2⟩ | exact ⟨hk_.1.2, hk_.2⟩ | simp_all))) | (have n0_ := Aside0.mk True.intro)); (first | (have n1_ := Aside0.mk (Kd.R_mono (ok' := fun k_ => some k_ ≠ (v287 : Value).ownBlock) (Kd.R_keptB (Kd.R_bound (HO_9.out)) hkp (fun k_ hk_ hs_ => (fun e_ => types_no (by decide) hk_.2.2.2 e_.2.2.2) hs_)) (fun k_ hk_ => hk_.1.1))) | (have n1_ := Aside0.mk (Kd.R_mono (ok' := fun k_ => some k_ ≠ (v287 : Value).ownBlock) (Kd.R_keptB (Kd.R_bound (Kd.R_drewN HO_9.out _)) hkp (fun k_ hk_ hs_ => (fun e_ => types_no (by decide) hk_.2.2.2 e_.2) hs_)) (fun k_ hk_ => hk_.1.1))) | (have n1_ := Aside0.mk (Kd.R_mono (ok' := fun k_ => some k_ ≠ (v287 : Value).ownBlock) (Kd.R_keptB (Kd.R_bound (HO_9.out)) hkp (fun k_ hk_ hs_ => (fun e_ => types_no (by decide) hk_.2.2.2 e_.2) hs_)) (fun k_ hk_ => hk_.1.1))) | (have n1_ := Aside0.mk (Kd.R_mono (ok' := fun k_ => some k_ ≠ (v287 : Value).ownBlock) (Kd.R_keptB (Kd.R_bound (HO_9.out)) hkp (fun k_ hk_ hs_ => (fun e_ => types_no (by decide) hk_.2.2.2 e_.2) hs_)) (fun k_ hk_ => hk_.1.1))) | (have n1_ := Aside0.mk (Kd.R_mono (ok' := fun k_ => some k_ ≠ (v287 : Value).ownBlock) (R_keptT HO_9.out hkp (fun k_ h_ => h_.2) (by decide)) (fun k_ hk_ => by first | exact hk_ | exact hk_.1 | exact hk_.2 | exact hk_.1.1 | exact hk_.1.2 | exact hk_.2.1 | exact hk_.2.2 | exact hk_.1.1.1 | exact hk_.1.1.2 | exact ⟨hk_.1, hk_.2⟩ | exact ⟨hk_.1.1, hk_.1.2⟩ | exact ⟨hk_.1.1, hk_.2⟩ | exact ⟨hk_.1.2, hk_.2⟩ | simp_all))) | (have n1_ := Aside0.mk (Kd.R_mono (ok' := fun k_ => some k_ ≠ (v287 : Value).ownBlock) (Kd.R_reok rfl (Kd.R_kept (Kd.R_tight rfl HO_9.out) hkp (fun k_ e_ h_ => by first | exact h_.1 e_ | exact h_.1.1 e_ | exact h_.1.2 e_ | exact h_.1.1.1 e_ | exact h_.1.1.2 e_ | exact h_.1.2.1 e_ | exact h_.1.2.2 e_ | simp_all)) (fun k_ e_ => HO_9.out.1 k_ e_)) (fun k_ hk_ => by first | exact hk_ | exact hk_.1 | exact hk_.2 | exact hk_.1.1 | exact hk_.1.2 | exact hk_.2.1 | exact hk_.2.2 | exact hk_.1.1.1 | exact hk_.1.1.2 | exact ⟨hk_.1, hk_.2⟩ | exact ⟨hk_.1.1, hk_.1.2⟩ | exact ⟨hk_.1.1, hk_.2⟩ | exact ⟨hk_.1.2, hk_.2⟩ | simp_all))) | (have n1_ := Aside0.mk (Kd.S_mono (ok' := fun k_ => some k_ ≠ (v287 : Value).ownBlock) (S_keptT HO_9.out hkp (fun k_ h_ => h_.2) (by decide)) (fun k_ hk_ => by first | exact hk_ | exact hk_.1 | exact hk_.2 | exact hk_.1.1 | exact hk_.1.2 | exact hk_.2.1 | exact hk_.2.2 | exact hk_.1.1.1 | exact hk_.1.1.2 | exact ⟨hk_.1, hk_.2⟩ | exact ⟨hk_.1.1, hk_.1.2⟩ | exact ⟨hk_.1.1, hk_.2⟩ | exact ⟨hk_.1.2, hk_.2⟩ | simp_all))) | (have n1_ := Aside0.mk True.intro)); (first | (have n2_ := Aside0.mk (Kd.S_mono (ok' := fun k_ => True) (Kd.S_keptB (Kd.S_bound (HO299.out)) hkp (fun k_ hk_ hs_ => (fun e_ => types_no (by decide) hk_.2.2.2 e_.2.2.2) hs_)) (fun k_ hk_ => trivial))) | (have n2_ := Aside0.mk (Kd.S_mono (ok' := fun k_ => True) (Kd.S_keptB (Kd.S_bound (HO299.out)) hkp (fun k_ hk_ hs_ => (fun e_ => types_no (by decide) hk_.2.2.2 e_.2) hs_)) (fun k_ hk_ => trivial))) | (have n2_ := Aside0.mk (Kd.S_mono (ok' := fun k_ => True) (Kd.S_keptB (Kd.S_bound (Kd.S_drewN HO299.out _)) hkp (fun k_ hk_ hs_ => (fun e_ => types_no (by decide) hk_.2.2.2 e_.2) hs_)) (fun k_ hk_ => trivial))) | (have n2_ := Aside0.mk (Kd.S_mono (ok' := fun k_ => True) (Kd.S_keptB (Kd.S_bound (HO299.out)) hkp (fun k_ hk_ hs_ => (fun e_ => types_no (by decide) hk_.2.2.2 e_.2) hs_)) (fun k_ hk_ => trivial))) | (have n2_ := Aside0.mk (Kd.R_mono (ok' := fun k_ => True) (R_keptT HO299.out hkp (fun k_ h_ => h_.2) (by decide)) (fun k_ hk_ => by first | exact hk_ | exact hk_.1 | exact hk_.2 | exact hk_.1.1 | exact hk_.1.2 | exact hk_.2.1 | exact hk_.2.2 | exact hk_.1.1.1 | exact hk_.1.1.2 | exact ⟨hk_.1, hk_.2⟩ | exact ⟨hk_.1.1, hk_.1.2⟩ | exact ⟨hk_.1.1, hk_.2⟩ | exact ⟨hk_.1.2, hk_.2⟩ | simp_all))) | (have n2_ := Aside0.mk (Kd.R_mono (ok' := fun k_ => True) (Kd.R_reok rfl (Kd.R_kept (Kd.R_tight rfl HO299.out) hkp (fun k_ e_ h_ => by first | exact h_.1 e_ | exact h_.1.1 e_ | exact h_.1.2 e_ | exact h_.1.1.1 e_ | exact h_.1.1.2 e_ | exact h_.1.2.1 e_ | exact h_.1.2.2 e_ | simp_all)) (fun k_ e_ => HO299.out.1 k_ e_)) (fun k_ hk_ => by first | exact hk_ | exact hk_.1 | exact hk_.2 | exact hk_.1.1 | exact hk_.1.2 | exact hk_.2.1 | exact hk_.2.2 | exact hk_.1.1.1 | exact hk_.1.1.2 | exact ⟨hk_.1, hk_.2⟩ | exact ⟨hk_.1.1, hk_.1.2⟩ | exact ⟨hk_.1.1, hk_.2⟩ | exact ⟨hk_.1.2, hk_.2⟩ | simp_all))) | (have n2_ := Aside0.mk (Kd.S_mono (ok' := fun k_ => True) (S_keptT HO299.out hkp (fun k_ h_ => h_.2) (by decide)) (fun k_ hk_ => by first | exact hk_ | exact hk_.1 | exact hk_.2 | exact hk_.1.1 | exact hk_.1.2 | exact hk_.2.1 | exact hk_.2.2 | exact hk_.1.1.1 | exact hk_.1.1.2 | exact ⟨hk_.1, hk_.2⟩ | exact ⟨hk_.1.1, hk_.1.2⟩ | exact ⟨hk_.1.1, hk_.2⟩ | exact ⟨hk_.1.2, hk_.2⟩ | simp_all))) | (have n2_ := Aside0.mk True.intro)); have n3_ := Aside0.mk (hb); clear HO_6; clear HO_9; clear HO299; clear HB; clear HO_8; have HO_6 := n0_; have HO_9 := n1_; have HO299 := n2_; have HB := n3_; clear n0_ n1_ n2_ n3_; (try clear hb); (try clear hkp)))
      (try simp only [Act.put, List.setIfInBounds_toArray, List.set_cons_zero, List.set_cons_succ])
      go_cut [65] (fun v65 wc => ∃ (kq : Nat) (x65_28 : Bool), v65 = .bool x65_28 ∧ Aside0 (laws_FnExactMarksToNext.j1 kq l0 a1 t285 t286 t292 x65_28 = some r) ∧ Aside0 (kq ≤ kj8) ∧ Aside0 (Kd.R k68 68 wc w.heap.size (fun k_ => some k_ ≠ (v294 : Value).ownBlock) v287 t285) ∧ Aside0 (Kd.R k68 68 wc w.heap.size (fun k_ => some k_ ≠ (v287 : Value).ownBlock) v294 t292) ∧ Aside0 (Below w.heap.size w wc))
      case first =>
       have H := HC29.out
       clear HC29
       by_cases c33 : t301 < 0
       ·rw [if_pos c33] at H
        have c33b0 : decide (t301 < 0) = true := decide_eq_true c33
        clear c33
        (first | rw [c33b0] | (simp only [i64_w, i32_w]; rw [c33b0]) | skip)
        have H' := Aside0.mk H
        clear H
        go_wp2
        go_meet
        case rel => exact ⟨_, (true), (by first | rfl | (simp; done) | (simp [*]; done)), H', ⟨by have := HJ8.out; first | omega | exact Nat.le_refl _⟩, ⟨by (with_reducible repeat (first | apply Kd.R_alloc | apply Kd.R_drewN | apply Kd.R_drew)); exact HO_6.out⟩, ⟨by (with_reducible repeat (first | apply Kd.R_alloc | apply Kd.R_drewN | apply Kd.R_drew)); exact HO_9.out⟩, ⟨by repeat (first | (with_reducible first | exact HB.out | apply below_alloc | apply pw_below_drewN | apply below_drew1) | exact HB.out | exact Below.refl _ _)⟩⟩
       ·rw [if_neg c33] at H
        have c33b0 : decide (t301 < 0) = false := decide_eq_false c33
        clear c33
        (first | rw [c33b0] | (simp only [i64_w, i32_w]; rw [c33b0]) | skip)
        replace H := Option.bind_eq_some_iff.mp H
        obtain ⟨t302, A340, H⟩ := H
        replace H : (if t302 = true then (laws_FnExactMarksToNext.j1 kj8 l0 a1 t285 t286 t292 (t293 != t286)) else (laws_FnExactMarksToNext.j1 kj8 l0 a1 t285 t286 t292 true)) = some r := H
        have A34 := Aside0.mk A340
        clear A340
        by_cases c35 : t302 = true
        ·subst c35
         have H1 : (laws_FnExactMarksToNext.j1 kj8 l0 a1 t285 t286 t292 (t293 != t286)) = some r := by rw [if_pos rfl] at H; exact H
         clear H
         have H := H1
         clear H1
         have H' := Aside0.mk H
         clear H
         obtain ⟨Ao36, co36, eo36⟩ := Kd.R_slice HO_9.out
         subst eo36
         obtain ⟨Ao37, co37, eo37⟩ := Kd.R_slice HO_6.out
         subst eo37
         go_wp2_with (first | (go_at_call 50; (with_reducible refine (laws_eqMarkS.calls kj8 _ _ t292 _ _ t285 true _ ?side1 ?side2 ?side3 ?side4 A34.out).mono ?_); (case side1 => repeat (first | exact (Kd.R_reads' HO_9.out).2.2 | (with_reducible refine Kd.C_alloc ?_ _) | (with_reducible refine Kd.C_drewN ?_ _) | (with_reducible refine Kd.C_drew ?_))); (case side2 => exact (Kd.R_reads' HO_9.out).2.1); (case side3 => repeat (first | exact (Kd.R_reads' HO_6.out).2.2 | (with_reducible refine Kd.C_alloc ?_ _) | (with_reducible refine Kd.C_drewN ?_ _) | (with_reducible refine Kd.C_drew ?_))); (case side4 => exact (Kd.R_reads' HO_6.out).2.1); rintro e w38 ⟨rfl, hb⟩; have n0_ := Aside0.mk (Kd.R_below (by (with_reducible repeat (first | apply Kd.R_alloc | apply Kd.R_drewN | apply Kd.R_drew)); exact HO_6.out) hb); have n1_ := Aside0.mk (Kd.R_below (by (with_reducible repeat (first | apply Kd.R_alloc | apply Kd.R_drewN | apply Kd.R_drew)); exact HO_9.out) hb); (first | (have n2_ := Aside0.mk (Kd.S_below (by (with_reducible repeat (first | apply Kd.S_alloc | apply Kd.S_drewN | apply Kd.S_drew)); exact HO299.out) hb)) | (have n2_ := Aside0.mk True.intro)); have n3_ := Aside0.mk (below_step (by repeat (first | (with_reducible first | exact HB.out | apply below_alloc | apply pw_below_drewN | apply below_drew1) | exact HB.out | exact Below.refl _ _)) hb); clear HO_6; clear HO_9; clear HO299; clear HB; have HO_6 := n0_; have HO_9 := n1_; have HO299 := n2_; have HB := n3_; clear n0_ n1_ n2_ n3_; (try clear hb); (try clear hb2); (try clear hk); (try clear hi)))
         go_meet
         case rel => exact ⟨_, ((t293 != t286)), (by first | rfl | (simp; done) | (simp [*]; done)), H', ⟨by have := HJ8.out; first | omega | exact Nat.le_refl _⟩, ⟨by (with_reducible repeat (first | apply Kd.R_alloc | apply Kd.R_drewN | apply Kd.R_drew)); exact HO_6.out⟩, ⟨by (with_reducible repeat (first | apply Kd.R_alloc | apply Kd.R_drewN | apply Kd.R_drew)); exact HO_9.out⟩, ⟨by repeat (first | (with_reducible first | exact HB.out | apply below_alloc | apply pw_below_drewN | apply below_drew1) | exact HB.out | exact Below.refl _ _)⟩⟩
        ·replace c35 := Bool.eq_false_iff.mpr c35
         subst c35
         have H1 : (laws_FnExactMarksToNext.j1 kj8 l0 a1 t285 t286 t292 true) = some r := by rw [if_neg (show ¬ (false = true) by decide)] at H; exact H
         clear H
         have H := H1
         clear H1
         have H' := Aside0.mk H
         clear H
         obtain ⟨Ao39, co39, eo39⟩ := Kd.R_slice HO_9.out
         subst eo39
         obtain ⟨Ao40, co40, eo40⟩ := Kd.R_slice HO_6.out
         subst eo40
         go_wp2_with (first | (go_at_call 50; (with_reducible refine (laws_eqMarkS.calls kj8 _ _ t292 _ _ t285 false _ ?side1 ?side2 ?side3 ?side4 A34.out).mono ?_); (case side1 => repeat (first | exact (Kd.R_reads' HO_9.out).2.2 | (with_reducible refine Kd.C_alloc ?_ _) | (with_reducible refine Kd.C_drewN ?_ _) | (with_reducible refine Kd.C_drew ?_))); (case side2 => exact (Kd.R_reads' HO_9.out).2.1); (case side3 => repeat (first | exact (Kd.R_reads' HO_6.out).2.2 | (with_reducible refine Kd.C_alloc ?_ _) | (with_reducible refine Kd.C_drewN ?_ _) | (with_reducible refine Kd.C_drew ?_))); (case side4 => exact (Kd.R_reads' HO_6.out).2.1); rintro e w41 ⟨rfl, hb⟩; have n0_ := Aside0.mk (Kd.R_below (by (with_reducible repeat (first | apply Kd.R_alloc | apply Kd.R_drewN | apply Kd.R_drew)); exact HO_6.out) hb); have n1_ := Aside0.mk (Kd.R_below (by (with_reducible repeat (first | apply Kd.R_alloc | apply Kd.R_drewN | apply Kd.R_drew)); exact HO_9.out) hb); (first | (have n2_ := Aside0.mk (Kd.S_below (by (with_reducible repeat (first | apply Kd.S_alloc | apply Kd.S_drewN | apply Kd.S_drew)); exact HO299.out) hb)) | (have n2_ := Aside0.mk True.intro)); have n3_ := Aside0.mk (below_step (by repeat (first | (with_reducible first | exact HB.out | apply below_alloc | apply pw_below_drewN | apply below_drew1) | exact HB.out | exact Below.refl _ _)) hb); clear HO_6; clear HO_9; clear HO299; clear HB; have HO_6 := n0_; have HO_9 := n1_; have HO299 := n2_; have HB := n3_; clear n0_ n1_ n2_ n3_; (try clear hb); (try clear hb2); (try clear hk); (try clear hi)))
         go_meet
         case rel => exact ⟨_, (true), (by first | rfl | (simp; done) | (simp [*]; done)), H', ⟨by have := HJ8.out; first | omega | exact Nat.le_refl _⟩, ⟨by (with_reducible repeat (first | apply Kd.R_alloc | apply Kd.R_drewN | apply Kd.R_drew)); exact HO_6.out⟩, ⟨by (with_reducible repeat (first | apply Kd.R_alloc | apply Kd.R_drewN | apply Kd.R_drew)); exact HO_9.out⟩, ⟨by repeat (first | (with_reducible first | exact HB.out | apply below_alloc | apply pw_below_drewN | apply below_drew1) | exact HB.out | exact Below.refl _ _)⟩⟩
      case rest =>
       clear HC29
       (try clear c1); (try clear c2); (try clear p2); (try clear c3); (try clear c4); (try clear c4b0); (try clear c5); (try clear c13); (try clear c14); (try clear c16); (try clear c17); (try clear c18); (try clear c24); (try clear c27); (try clear c33); (try clear c33b0); (try clear c35); (try clear p2)
       obtain ⟨kq, x65_28, rfl, HA, HJ28, HO_6, HO_9, HB⟩ := hcut
       cases kq with
       | zero => exact absurd HA.out (by simp [laws_FnExactMarksToNext.j1])
       | succ kj28 =>
        have H := HA.out
        clear HA
        simp only [laws_FnExactMarksToNext.j1] at H
        by_cases c42 : x65_28 = true
        ·subst c42
         have H1 : (some false) = some r := by rw [if_pos rfl] at H; exact H
         clear H
         have H := H1
         clear H1
         obtain rfl := Option.some.inj H
         go_wp2
         go_ret
         exact ⟨by first | rfl | (simp [errW_none, errW_some] <;> rfl) | (simp [*, errW_none, errW_some] <;> rfl), by repeat (first | (with_reducible first | exact HB.out | apply below_alloc | apply pw_below_drewN | apply below_drew1) | exact HB.out | exact Below.refl _ _)⟩
        ·replace c42 := Bool.eq_false_iff.mpr c42
         subst c42
         have H1 : ((laws_markMarkS.f kj28 t292 1).bind fun bt303 => ((laws_heldMarkS.f kj28 bt303.2 1).bind fun t305 => (if t305 < 0 then (some false) else (if t305 = bt303.1 then ((laws_toStringSS.f kj28 l0).bind fun t306 => ((impl_MarksToNext.f kj28 t306 a1).bind fun bt309 => ((laws_eqMarkS.f kj28 bt309.1 t285).bind fun t313 => (if t313 = true then (laws_FnExactMarksToNext.j2 kj28 bt303.2 bt303.1 (bt309.2 != t286)) else (laws_FnExactMarksToNext.j2 kj28 bt303.2 bt303.1 true))))) else (some false))))) = some r := by rw [if_neg (show ¬ (false = true) by decide)] at H; exact H
         clear H
         have H := H1
         clear H1
         replace H := Option.bind_eq_some_iff.mp H
         obtain ⟨⟨t303, t304⟩, A430, H⟩ := H
         replace H : ((laws_heldMarkS.f kj28 t304 1).bind fun t305 => (if t305 < 0 then (some false) else (if t305 = t303 then ((laws_toStringSS.f kj28 l0).bind fun t306 => ((impl_MarksToNext.f kj28 t306 a1).bind fun bt309 => ((laws_eqMarkS.f kj28 bt309.1 t285).bind fun t313 => (if t313 = true then (laws_FnExactMarksToNext.j2 kj28 t304 t303 (bt309.2 != t286)) else (laws_FnExactMarksToNext.j2 kj28 t304 t303 true))))) else (some false)))) = some r := H
         have A43 := Aside0.mk A430
         clear A430
         replace H := Option.bind_eq_some_iff.mp H
         obtain ⟨t305, A440, H⟩ := H
         replace H : (if t305 < 0 then (some false) else (if t305 = t303 then ((laws_toStringSS.f kj28 l0).bind fun t306 => ((impl_MarksToNext.f kj28 t306 a1).bind fun bt309 => ((laws_eqMarkS.f kj28 bt309.1 t285).bind fun t313 => (if t313 = true then (laws_FnExactMarksToNext.j2 kj28 t304 t303 (bt309.2 != t286)) else (laws_FnExactMarksToNext.j2 kj28 t304 t303 true))))) else (some false))) = some r := H
         have A44 := Aside0.mk A440
         clear A440
         by_cases c45 : t305 < 0
         ·rw [if_pos c45] at H
          have c45b0 : decide (t305 < 0) = true := decide_eq_true c45
          clear c45
          obtain rfl := Option.some.inj H
          obtain ⟨Ao46, co46, eo46⟩ := Kd.R_slice HO_9.out
          subst eo46
          go_wp2_with (first | ((with_reducible refine gate_callee (f := 51) rfl ?_); refine goesL_ (some 68) rfl rfl Try.func51 (by kernel_rfl) rfl #[.slice Ao46 t292.length co46, .int .i64 1] rfl (by (try simp only [List.map_toArray, List.map_cons, List.map_nil]); first | done | rfl | (simp only [List.length_drop, List.length_take]; rfl)) ?_; (with_reducible refine (laws_markMarkS.calls kj28 (fun k_ => some k_ = (.slice Ao46 t292.length co46 : Value).ownBlock) (.slice Ao46 t292.length co46) t292 1 t303 t304 w _ ?side1 ?side2 A43.out).mono ?_); (case side1 => repeat (first | (with_reducible first | exact HB.out | apply below_alloc | apply pw_below_drewN | apply below_drew1) | exact HB.out | exact Below.refl _ _)); (case side2 => exact Kd.R_tight rfl HO_9.out); rintro e w47 ⟨rfl, hy0, hb, hkp⟩; refine ⟨_, rfl, ?_⟩; have n0_ := Aside0.mk (Kd.R_mono (ok' := fun k_ => some k_ ≠ (.slice Ao46 t292.length co46 : Value).ownBlock) (Kd.R_keptB (HO_6.out) hkp (fun k_ hk_ hs_ => (hk_) hs_)) (fun k_ hk_ => hk_.1)); have n1_ := Aside0.mk (Kd.R_reok rfl hy0 (fun k_ e_ => HO_9.out.1 k_ e_)); have n2_ := Aside0.mk (hb); clear HO_6; clear HO_9; clear HB; have HO_6 := n0_; have HO_9 := n1_; have HB := n2_; clear n0_ n1_ n2_; (try clear hb); (try clear hkp); (try clear hy0)) | ((with_reducible refine gate_callee (f := 52) rfl ?_); refine goesL_ (some 71) rfl rfl Try.func52 (by kernel_rfl) rfl #[.slice Ao46 t304.length co46, .int .i64 1] rfl (by (try simp only [List.map_toArray, List.map_cons, List.map_nil]); first | done | (rw [show t304.length = t292.length from (Kd.R_reads' HO_9.out).1.symm] <;> rfl) | rfl | (simp only [List.length_drop, List.length_take]; rfl)) ?_; (with_reducible refine (laws_heldMarkS.calls kj28 _ _ t304 1 t305 _ ?side1 ?side2 A44.out).mono ?_); (case side1 => repeat (first | exact (Kd.R_reads' HO_9.out).2.2 | (with_reducible refine Kd.C_alloc ?_ _) | (with_reducible refine Kd.C_drewN ?_ _) | (with_reducible refine Kd.C_drew ?_))); (case side2 => rw [show t304.length = t292.length from (Kd.R_reads' HO_9.out).1.symm]; exact (Kd.R_reads' HO_9.out).2.1); rintro e w48 ⟨rfl, hb⟩; refine ⟨_, rfl, ?_⟩; have n0_ := Aside0.mk (Kd.R_below (by (with_reducible repeat (first | apply Kd.R_alloc | apply Kd.R_drewN | apply Kd.R_drew)); exact HO_6.out) hb); have n1_ := Aside0.mk (Kd.R_below (by (with_reducible repeat (first | apply Kd.R_alloc | apply Kd.R_drewN | apply Kd.R_drew)); exact HO_9.out) hb); have n2_ := Aside0.mk (below_step (by repeat (first | (with_reducible first | exact HB.out | apply below_alloc | apply pw_below_drewN | apply below_drew1) | exact HB.out | exact Below.refl _ _)) hb); clear HO_6; clear HO_9; clear HB; have HO_6 := n0_; have HO_9 := n1_; have HB := n2_; clear n0_ n1_ n2_; (try clear hb); (try clear hb2); (try clear hk); (try clear hi)))
          go_ret
          exact ⟨by first | rfl | (simp [errW_none, errW_some] <;> rfl) | (simp [*, errW_none, errW_some] <;> rfl), by repeat (first | (with_reducible first | exact HB.out | apply below_alloc | apply pw_below_drewN | apply below_drew1) | exact HB.out | exact Below.refl _ _)⟩
         ·rw [if_neg c45] at H
          have c45b0 : decide (t305 < 0) = false := decide_eq_false c45
          clear c45
          by_cases c49 : t305 = t303
          ·rw [if_pos c49] at H
           have c49b0 : (t305 == t303) = true := beq_iff_eq.mpr c49
           have c49b1 : (t305 != t303) = false := bne_eq_false_iff_eq.mpr c49
           clear c49
           replace H := Option.bind_eq_some_iff.mp H
           obtain ⟨t306, A500, H⟩ := H
           replace H : ((impl_MarksToNext.f kj28 t306 a1).bind fun bt309 => ((laws_eqMarkS.f kj28 bt309.1 t285).bind fun t313 => (if t313 = true then (laws_FnExactMarksToNext.j2 kj28 t304 t303 (bt309.2 != t286)) else (laws_FnExactMarksToNext.j2 kj28 t304 t303 true)))) = some r := H
           have A50 := Aside0.mk A500
           clear A500
           replace H := Option.bind_eq_some_iff.mp H
           obtain ⟨⟨t309, t310⟩, A510, H⟩ := H
           replace H : ((laws_eqMarkS.f kj28 t309 t285).bind fun t313 => (if t313 = true then (laws_FnExactMarksToNext.j2 kj28 t304 t303 (t310 != t286)) else (laws_FnExactMarksToNext.j2 kj28 t304 t303 true))) = some r := H
           have A51 := Aside0.mk A510
           clear A510
           have HC52 := Aside0.mk H
           clear H
           obtain ⟨Ao53, co53, eo53⟩ := Kd.R_slice HO_9.out
           subst eo53
           go_upto_region 25 with (first | ((with_reducible refine gate_callee (f := 51) rfl ?_); refine goesL_ (some 68) rfl rfl Try.func51 (by kernel_rfl) rfl #[.slice Ao53 t292.length co53, .int .i64 1] rfl (by (try simp only [List.map_toArray, List.map_cons, List.map_nil]); first | done | rfl | (simp only [List.length_drop, List.length_take]; rfl)) ?_; (with_reducible refine (laws_markMarkS.calls kj28 (fun k_ => some k_ = (.slice Ao53 t292.length co53 : Value).ownBlock) (.slice Ao53 t292.length co53) t292 1 t303 t304 w _ ?side1 ?side2 A43.out).mono ?_); (case side1 => repeat (first | (with_reducible first | exact HB.out | apply below_alloc | apply pw_below_drewN | apply below_drew1) | exact HB.out | exact Below.refl _ _)); (case side2 => exact Kd.R_tight rfl HO_9.out); rintro e w54 ⟨rfl, hy0, hb, hkp⟩; refine ⟨_, rfl, ?_⟩; have n0_ := Aside0.mk (Kd.R_mono (ok' := fun k_ => some k_ ≠ (.slice Ao53 t292.length co53 : Value).ownBlock) (Kd.R_keptB (HO_6.out) hkp (fun k_ hk_ hs_ => (hk_) hs_)) (fun k_ hk_ => hk_.1)); have n1_ := Aside0.mk (Kd.R_reok rfl hy0 (fun k_ e_ => HO_9.out.1 k_ e_)); have n2_ := Aside0.mk (hb); clear HO_6; clear HO_9; clear HB; have HO_6 := n0_; have HO_9 := n1_; have HB := n2_; clear n0_ n1_ n2_; (try clear hb); (try clear hkp); (try clear hy0)) | ((with_reducible refine gate_callee (f := 52) rfl ?_); refine goesL_ (some 71) rfl rfl Try.func52 (by kernel_rfl) rfl #[.slice Ao53 t304.length co53, .int .i64 1] rfl (by (try simp only [List.map_toArray, List.map_cons, List.map_nil]); first | done | (rw [show t304.length = t292.length from (Kd.R_reads' HO_9.out).1.symm] <;> rfl) | rfl | (simp only [List.length_drop, List.length_take]; rfl)) ?_; (with_reducible refine (laws_heldMarkS.calls kj28 _ _ t304 1 t305 _ ?side1 ?side2 A44.out).mono ?_); (case side1 => repeat (first | exact (Kd.R_reads' HO_9.out).2.2 | (with_reducible refine Kd.C_alloc ?_ _) | (with_reducible refine Kd.C_drewN ?_ _) | (with_reducible refine Kd.C_drew ?_))); (case side2 => rw [show t304.length = t292.length from (Kd.R_reads' HO_9.out).1.symm]; exact (Kd.R_reads' HO_9.out).2.1); rintro e w55 ⟨rfl, hb⟩; refine ⟨_, rfl, ?_⟩; have n0_ := Aside0.mk (Kd.R_below (by (with_reducible repeat (first | apply Kd.R_alloc | apply Kd.R_drewN | apply Kd.R_drew)); exact HO_6.out) hb); have n1_ := Aside0.mk (Kd.R_below (by (with_reducible repeat (first | apply Kd.R_alloc | apply Kd.R_drewN | apply Kd.R_drew)); exact HO_9.out) hb); have n2_ := Aside0.mk (below_step (by repeat (first | (with_reducible first | exact HB.out | apply below_alloc | apply pw_below_drewN | apply below_drew1) | exact HB.out | exact Below.refl _ _)) hb); clear HO_6; clear HO_9; clear HB; have HO_6 := n0_; have HO_9 := n1_; have HB := n2_; clear n0_ n1_ n2_; (try clear hb); (try clear hb2); (try clear hk); (try clear hi)) | ((with_reducible refine gate_callee (f := 16) rfl ?_); refine goesL_ (some 79) rfl rfl Try.func16 (by kernel_rfl) rfl #[.slice A0 l0.length c0] rfl (by (try simp only [List.map_toArray, List.map_cons, List.map_nil]); first | done | rfl | (simp only [List.length_drop, List.length_take]; rfl)) ?_; (with_reducible refine (laws_toStringSS.calls kj28 _ _ l0 t306 _ ?side1 ?side2 A50.out).mono ?_); (case side1 => repeat (first | exact (Kd.C_below HR0.out HB.out) | exact HR0.out | (with_reducible refine Kd.C_alloc ?_ _) | (with_reducible refine Kd.C_drewN ?_ _) | (with_reducible refine Kd.C_drew ?_))); (case side2 => exact HC0.out); rintro e w56 ⟨v307, rfl, ho0, hb⟩; refine ⟨_, rfl, ?_⟩; have n0_ := Aside0.mk (Kd.R_below (by (with_reducible repeat (first | apply Kd.R_alloc | apply Kd.R_drewN | apply Kd.R_drew)); exact HO_6.out) hb); have n1_ := Aside0.mk (Kd.R_below (by (with_reducible repeat (first | apply Kd.R_alloc | apply Kd.R_drewN | apply Kd.R_drew)); exact HO_9.out) hb); have n2_ := Aside0.mk (Kd.S_lower ho0 (below_size (by repeat (first | (with_reducible first | exact HB.out | apply below_alloc | apply pw_below_drewN | apply below_drew1) | exact HB.out | exact Below.refl _ _)))); have n3_ := Aside0.mk (below_step (by repeat (first | (with_reducible first | exact HB.out | apply below_alloc | apply pw_below_drewN | apply below_drew1) | exact HB.out | exact Below.refl _ _)) hb); clear HO_6; clear HO_9; clear HB; have HO_6 := n0_; have HO_9 := n1_; have HO308 := n2_; have HB := n3_; clear n0_ n1_ n2_ n3_; (try clear hb); (try clear hb2); (try clear hk); (try clear hi); (try clear ho0); obtain ⟨Ao57, co57, eo57⟩ := Kd.S_slice HO308.out; subst eo57) | ((with_reducible refine gate_callee (f := 49) rfl ?_); refine goesL_ (some 81) rfl rfl Try.func49 (by kernel_rfl) rfl #[.slice Ao57 t306.length co57, .int .i64 a1] rfl (by (try simp only [List.map_toArray, List.map_cons, List.map_nil]); first | done | rfl | (simp only [List.length_drop, List.length_take]; rfl)) ?_; (with_reducible refine (impl_MarksToNext.calls kj28 _ _ t306 a1 t309 t310 _ ?side1 ?side2 A51.out).mono ?_); (case side1 => repeat (first | exact (Kd.S_reads' HO308.out).2.2 | (with_reducible refine Kd.C_alloc ?_ _) | (with_reducible refine Kd.C_drewN ?_ _) | (with_reducible refine Kd.C_drew ?_))); (case side2 => exact (Kd.S_reads' HO308.out).2.1); rintro e w58 ⟨v311, rfl, ho0, hb⟩; refine ⟨_, rfl, ?_⟩; have n0_ := Aside0.mk (Kd.R_elder' (by (with_reducible repeat (first | apply Kd.R_alloc | apply Kd.R_drewN | apply Kd.R_drew)); exact HO_6.out) (Kd.R_base ho0) hb); have n1_ := Aside0.mk (Kd.R_elder' (by (with_reducible repeat (first | apply Kd.R_alloc | apply Kd.R_drewN | apply Kd.R_drew)); exact HO_9.out) (Kd.R_base ho0) hb); (first | (have n2_ := Aside0.mk (Kd.S_below (by (with_reducible repeat (first | apply Kd.S_alloc | apply Kd.S_drewN | apply Kd.S_drew)); exact HO308.out) hb)) | (have n2_ := Aside0.mk True.intro)); have n3_ := Aside0.mk (Kd.R_lower (Kd.R_new' (Kd.R_new' ho0 (Kd.R_lt (by (with_reducible repeat (first | apply Kd.R_alloc | apply Kd.R_drewN | apply Kd.R_drew)); exact HO_6.out))) (Kd.R_lt (by (with_reducible repeat (first | apply Kd.R_alloc | apply Kd.R_drewN | apply Kd.R_drew)); exact HO_9.out))) (below_size (by repeat (first | (with_reducible first | exact HB.out | apply below_alloc | apply pw_below_drewN | apply below_drew1) | exact HB.out | exact Below.refl _ _)))); have n4_ := Aside0.mk (below_step (by repeat (first | (with_reducible first | exact HB.out | apply below_alloc | apply pw_below_drewN | apply below_drew1) | exact HB.out | exact Below.refl _ _)) hb); clear HO_6; clear HO_9; clear HO308; clear HB; have HO_6 := n0_; have HO_9 := n1_; have HO308 := n2_; have HO312 := n3_; have HB := n4_; clear n0_ n1_ n2_ n3_ n4_; (try clear hb); (try clear hb2); (try clear hk); (try clear hi); (try clear ho0)))
           (try simp only [Act.put, List.setIfInBounds_toArray, List.set_cons_zero, List.set_cons_succ])
           go_cut [92] (fun v92 wc => ∃ (kq : Nat) (x92_51 : Bool), v92 = .bool x92_51 ∧ Aside0 (laws_FnExactMarksToNext.j2 kq t304 t303 x92_51 = some r) ∧ Aside0 (kq ≤ kj28) ∧ Aside0 (Kd.R k68 68 wc w.heap.size (fun _ => True) (.slice Ao53 t292.length co53) t304) ∧ Aside0 (Below w.heap.size w wc))
           case first =>
            have H := HC52.out
            clear HC52
            replace H := Option.bind_eq_some_iff.mp H
            obtain ⟨t313, A590, H⟩ := H
            replace H : (if t313 = true then (laws_FnExactMarksToNext.j2 kj28 t304 t303 (t310 != t286)) else (laws_FnExactMarksToNext.j2 kj28 t304 t303 true)) = some r := H
            have A59 := Aside0.mk A590
            clear A590
            by_cases c60 : t313 = true
            ·subst c60
             have H1 : (laws_FnExactMarksToNext.j2 kj28 t304 t303 (t310 != t286)) = some r := by rw [if_pos rfl] at H; exact H
             clear H
             have H := H1
             clear H1
             have H' := Aside0.mk H
             clear H
             obtain ⟨Ao61, co61, eo61⟩ := Kd.R_slice HO312.out
             subst eo61
             obtain ⟨Ao62, co62, eo62⟩ := Kd.R_slice HO_6.out
             subst eo62
             go_wp2_with (first | ((with_reducible refine gate_callee (f := 50) rfl ?_); refine goesL_ (some 86) rfl rfl Try.func50 (by kernel_rfl) rfl #[.slice Ao61 t309.length co61, .slice Ao62 t285.length co62] rfl (by (try simp only [List.map_toArray, List.map_cons, List.map_nil]); first | done | rfl | (simp only [List.length_drop, List.length_take]; rfl)) ?_; (with_reducible refine (laws_eqMarkS.calls kj28 _ _ t309 _ _ t285 true _ ?side1 ?side2 ?side3 ?side4 A59.out).mono ?_); (case side1 => repeat (first | exact (Kd.R_reads' HO312.out).2.2 | (with_reducible refine Kd.C_alloc ?_ _) | (with_reducible refine Kd.C_drewN ?_ _) | (with_reducible refine Kd.C_drew ?_))); (case side2 => exact (Kd.R_reads' HO312.out).2.1); (case side3 => repeat (first | exact (Kd.R_reads' HO_6.out).2.2 | (with_reducible refine Kd.C_alloc ?_ _) | (with_reducible refine Kd.C_drewN ?_ _) | (with_reducible refine Kd.C_drew ?_))); (case side4 => exact (Kd.R_reads' HO_6.out).2.1); rintro e w63 ⟨rfl, hb⟩; refine ⟨_, rfl, ?_⟩; have n0_ := Aside0.mk (Kd.R_below (by (with_reducible repeat (first | apply Kd.R_alloc | apply Kd.R_drewN | apply Kd.R_drew)); exact HO_6.out) hb); have n1_ := Aside0.mk (Kd.R_below (by (with_reducible repeat (first | apply Kd.R_alloc | apply Kd.R_drewN | apply Kd.R_drew)); exact HO_9.out) hb); (first | (have n2_ := Aside0.mk (Kd.S_below (by (with_reducible repeat (first | apply Kd.S_alloc | apply Kd.S_drewN | apply Kd.S_drew)); exact HO308.out) hb)) | (have n2_ := Aside0.mk True.intro)); have n3_ := Aside0.mk (Kd.R_below (by (with_reducible repeat (first | apply Kd.R_alloc | apply Kd.R_drewN | apply Kd.R_drew)); exact HO312.out) hb); have n4_ := Aside0.mk (below_step (by repeat (first | (with_reducible first | exact HB.out | apply below_alloc | apply pw_below_drewN | apply below_drew1) | exact HB.out | exact Below.refl _ _)) hb); clear HO_6; clear HO_9; clear HO308; clear HO312; clear HB; have HO_6 := n0_; have HO_9 := n1_; have HO308 := n2_; have HO312 := n3_; have HB := n4_; clear n0_ n1_ n2_ n3_ n4_; (try clear hb); (try clear hb2); (try clear hk); (try clear hi)))
             go_meet
             case rel => exact ⟨_, ((t310 != t286)), (by first | rfl | (simp; done) | (simp [*]; done)), H', ⟨by have := HJ8.out; have := HJ28.out; first | omega | exact Nat.le_refl _⟩, ⟨by (with_reducible repeat (first | apply Kd.R_alloc | apply Kd.R_drewN | apply Kd.R_drew)); exact Kd.R_mono HO_9.out (fun _ hk => trivial)⟩, ⟨by repeat (first | (with_reducible first | exact HB.out | apply below_alloc | apply pw_below_drewN | apply below_drew1) | exact HB.out | exact Below.refl _ _)⟩⟩
            ·replace c60 := Bool.eq_false_iff.mpr c60
             subst c60
             have H1 : (laws_FnExactMarksToNext.j2 kj28 t304 t303 true) = some r := by rw [if_neg (show ¬ (false = true) by decide)] at H; exact H
             clear H
             have H := H1
             clear H1
             have H' := Aside0.mk H
             clear H
             obtain ⟨Ao64, co64, eo64⟩ := Kd.R_slice HO312.out
             subst eo64
             obtain ⟨Ao65, co65, eo65⟩ := Kd.R_slice HO_6.out
             subst eo65
             go_wp2_with (first | ((with_reducible refine gate_callee (f := 50) rfl ?_); refine goesL_ (some 86) rfl rfl Try.func50 (by kernel_rfl) rfl #[.slice Ao64 t309.length co64, .slice Ao65 t285.length co65] rfl (by (try simp only [List.map_toArray, List.map_cons, List.map_nil]); first | done | rfl | (simp only [List.length_drop, List.length_take]; rfl)) ?_; (with_reducible refine (laws_eqMarkS.calls kj28 _ _ t309 _ _ t285 false _ ?side1 ?side2 ?side3 ?side4 A59.out).mono ?_); (case side1 => repeat (first | exact (Kd.R_reads' HO312.out).2.2 | (with_reducible refine Kd.C_alloc ?_ _) | (with_reducible refine Kd.C_drewN ?_ _) | (with_reducible refine Kd.C_drew ?_))); (case side2 => exact (Kd.R_reads' HO312.out).2.1); (case side3 => repeat (first | exact (Kd.R_reads' HO_6.out).2.2 | (with_reducible refine Kd.C_alloc ?_ _) | (with_reducible refine Kd.C_drewN ?_ _) | (with_reducible refine Kd.C_drew ?_))); (case side4 => exact (Kd.R_reads' HO_6.out).2.1); rintro e w66 ⟨rfl, hb⟩; refine ⟨_, rfl, ?_⟩; have n0_ := Aside0.mk (Kd.R_below (by (with_reducible repeat (first | apply Kd.R_alloc | apply Kd.R_drewN | apply Kd.R_drew)); exact HO_6.out) hb); have n1_ := Aside0.mk (Kd.R_below (by (with_reducible repeat (first | apply Kd.R_alloc | apply Kd.R_drewN | apply Kd.R_drew)); exact HO_9.out) hb); (first | (have n2_ := Aside0.mk (Kd.S_below (by (with_reducible repeat (first | apply Kd.S_alloc | apply Kd.S_drewN | apply Kd.S_drew)); exact HO308.out) hb)) | (have n2_ := Aside0.mk True.intro)); have n3_ := Aside0.mk (Kd.R_below (by (with_reducible repeat (first | apply Kd.R_alloc | apply Kd.R_drewN | apply Kd.R_drew)); exact HO312.out) hb); have n4_ := Aside0.mk (below_step (by repeat (first | (with_reducible first | exact HB.out | apply below_alloc | apply pw_below_drewN | apply below_drew1) | exact HB.out | exact Below.refl _ _)) hb); clear HO_6; clear HO_9; clear HO308; clear HO312; clear HB; have HO_6 := n0_; have HO_9 := n1_; have HO308 := n2_; have HO312 := n3_; have HB := n4_; clear n0_ n1_ n2_ n3_ n4_; (try clear hb); (try clear hb2); (try clear hk); (try clear hi)))
             go_meet
             case rel => exact ⟨_, (true), (by first | rfl | (simp; done) | (simp [*]; done)), H', ⟨by have := HJ8.out; have := HJ28.out; first | omega | exact Nat.le_refl _⟩, ⟨by (with_reducible repeat (first | apply Kd.R_alloc | apply Kd.R_drewN | apply Kd.R_drew)); exact Kd.R_mono HO_9.out (fun _ hk => trivial)⟩, ⟨by repeat (first | (with_reducible first | exact HB.out | apply below_alloc | apply pw_below_drewN | apply below_drew1) | exact HB.out | exact Below.refl _ _)⟩⟩
           case rest =>
            clear HC52
            (try clear c1); (try clear c2); (try clear p2); (try clear c3); (try clear c4); (try clear c4b0); (try clear c5); (try clear c6); (try clear c13); (try clear c14); (try clear c16); (try clear c17); (try clear c18); (try clear c24); (try clear c27); (try clear c33); (try clear c33b0); (try clear c35); (try clear c42); (try clear c45); (try clear c45b0); (try clear c48); (try clear c49); (try clear c49b0); (try clear c49b1); (try clear c50); (try clear c51); (try clear c52); (try clear c60); (try clear p2)
            obtain ⟨kq, x92_51, rfl, HA, HJ51, HO_9, HB⟩ := hcut
            have hl9_51 := (Kd.R_reads' HO_9.out).1
            rw [hl9_51] at HO_9
            (try simp only [hl9_51])
            cases kq with
            | zero => exact absurd HA.out (by simp [laws_FnExactMarksToNext.j2])
            | succ kj51 =>
             have H := HA.out
             clear HA
             simp only [laws_FnExactMarksToNext.j2] at H
             by_cases c67 : x92_51 = true
             ·subst c67
              have H1 : (some false) = some r := by rw [if_pos rfl] at H; exact H
              clear H
              have H := H1
              clear H1
              obtain rfl := Option.some.inj H
              go_wp2
              go_ret
              exact ⟨by first | rfl | (simp [errW_none, errW_some] <;> rfl) | (simp [*, errW_none, errW_some] <;> rfl), by repeat (first | (with_reducible first | exact HB.out | apply below_alloc | apply pw_below_drewN | apply below_drew1) | exact HB.out | exact Below.refl _ _)⟩
             ·replace c67 := Bool.eq_false_iff.mpr c67
              subst c67
              have H1 : ((laws_heldMarkS.f kj51 t304 1).bind fun t314 => (if t314 < 0 then (some false) else (if t314 = t303 then (some true) else (some false)))) = some r := by rw [if_neg (show ¬ (false = true) by decide)] at H; exact H
              clear H
              have H := H1
              clear H1
              replace H := Option.bind_eq_some_iff.mp H
              obtain ⟨t314, A680, H⟩ := H
              replace H : (if t314 < 0 then (some false) else (if t314 = t303 then (some true) else (some false))) = some r := H
              have A68 := Aside0.mk A680
              clear A680
              by_cases c69 : t314 < 0
              ·rw [if_pos c69] at H
               have c69b0 : decide (t314 < 0) = true := decide_eq_true c69
               clear c69
               obtain rfl := Option.some.inj H
               go_wp2_with (first | ((with_reducible refine gate_callee (f := 52) rfl ?_); refine goesL_ (some 95) rfl rfl Try.func52 (by kernel_rfl) rfl #[.slice Ao53 t304.length co53, .int .i64 1] rfl (by (try simp only [List.map_toArray, List.map_cons, List.map_nil]); first | done | rfl | (simp only [List.length_drop, List.length_take]; rfl)) ?_; (with_reducible refine (laws_heldMarkS.calls kj51 _ _ t304 1 t314 _ ?side1 ?side2 A68.out).mono ?_); (case side1 => repeat (first | exact (Kd.R_reads' HO_9.out).2.2 | (with_reducible refine Kd.C_alloc ?_ _) | (with_reducible refine Kd.C_drewN ?_ _) | (with_reducible refine Kd.C_drew ?_))); (case side2 => exact (Kd.R_reads' HO_9.out).2.1); rintro e w70 ⟨rfl, hb⟩; refine ⟨_, rfl, ?_⟩; have n0_ := Aside0.mk (Kd.R_below (by (with_reducible repeat (first | apply Kd.R_alloc | apply Kd.R_drewN | apply Kd.R_drew)); exact HO_9.out) hb); have n1_ := Aside0.mk (below_step (by repeat (first | (with_reducible first | exact HB.out | apply below_alloc | apply pw_below_drewN | apply below_drew1) | exact HB.out | exact Below.refl _ _)) hb); clear HO_9; clear HB; have HO_9 := n0_; have HB := n1_; clear n0_ n1_; (try clear hb); (try clear hb2); (try clear hk); (try clear hi)))
               go_ret
               exact ⟨by first | rfl | (simp [errW_none, errW_some] <;> rfl) | (simp [*, errW_none, errW_some] <;> rfl), by repeat (first | (with_reducible first | exact HB.out | apply below_alloc | apply pw_below_drewN | apply below_drew1) | exact HB.out | exact Below.refl _ _)⟩
              ·rw [if_neg c69] at H
               have c69b0 : decide (t314 < 0) = false := decide_eq_false c69
               clear c69
               by_cases c71 : t314 = t303
               ·rw [if_pos c71] at H
                have c71b0 : (t314 == t303) = true := beq_iff_eq.mpr c71
                have c71b1 : (t314 != t303) = false := bne_eq_false_iff_eq.mpr c71
                clear c71
                obtain rfl := Option.some.inj H
                go_wp2_with (first | ((with_reducible refine gate_callee (f := 52) rfl ?_); refine goesL_ (some 95) rfl rfl Try.func52 (by kernel_rfl) rfl #[.slice Ao53 t304.length co53, .int .i64 1] rfl (by (try simp only [List.map_toArray, List.map_cons, List.map_nil]); first | done | rfl | (simp only [List.length_drop, List.length_take]; rfl)) ?_; (with_reducible refine (laws_heldMarkS.calls kj51 _ _ t304 1 t314 _ ?side1 ?side2 A68.out).mono ?_); (case side1 => repeat (first | exact (Kd.R_reads' HO_9.out).2.2 | (with_reducible refine Kd.C_alloc ?_ _) | (with_reducible refine Kd.C_drewN ?_ _) | (with_reducible refine Kd.C_drew ?_))); (case side2 => exact (Kd.R_reads' HO_9.out).2.1); rintro e w72 ⟨rfl, hb⟩; refine ⟨_, rfl, ?_⟩; have n0_ := Aside0.mk (Kd.R_below (by (with_reducible repeat (first | apply Kd.R_alloc | apply Kd.R_drewN | apply Kd.R_drew)); exact HO_9.out) hb); have n1_ := Aside0.mk (below_step (by repeat (first | (with_reducible first | exact HB.out | apply below_alloc | apply pw_below_drewN | apply below_drew1) | exact HB.out | exact Below.refl _ _)) hb); clear HO_9; clear HB; have HO_9 := n0_; have HB := n1_; clear n0_ n1_; (try clear hb); (try clear hb2); (try clear hk); (try clear hi)))
                go_ret
                exact ⟨by first | rfl | (simp [errW_none, errW_some] <;> rfl) | (simp [*, errW_none, errW_some] <;> rfl), by repeat (first | (with_reducible first | exact HB.out | apply below_alloc | apply pw_below_drewN | apply below_drew1) | exact HB.out | exact Below.refl _ _)⟩
               ·rw [if_neg c71] at H
                have c71b0 : (t314 == t303) = false := beq_eq_false_iff_ne.mpr c71
                have c71b1 : (t314 != t303) = true := bne_iff_ne.mpr c71
                obtain rfl := Option.some.inj H
                go_wp2_with (first | ((with_reducible refine gate_callee (f := 52) rfl ?_); refine goesL_ (some 95) rfl rfl Try.func52 (by kernel_rfl) rfl #[.slice Ao53 t304.length co53, .int .i64 1] rfl (by (try simp only [List.map_toArray, List.map_cons, List.map_nil]); first | done | rfl | (simp only [List.length_drop, List.length_take]; rfl)) ?_; (with_reducible refine (laws_heldMarkS.calls kj51 _ _ t304 1 t314 _ ?side1 ?side2 A68.out).mono ?_); (case side1 => repeat (first | exact (Kd.R_reads' HO_9.out).2.2 | (with_reducible refine Kd.C_alloc ?_ _) | (with_reducible refine Kd.C_drewN ?_ _) | (with_reducible refine Kd.C_drew ?_))); (case side2 => exact (Kd.R_reads' HO_9.out).2.1); rintro e w73 ⟨rfl, hb⟩; refine ⟨_, rfl, ?_⟩; have n0_ := Aside0.mk (Kd.R_below (by (with_reducible repeat (first | apply Kd.R_alloc | apply Kd.R_drewN | apply Kd.R_drew)); exact HO_9.out) hb); have n1_ := Aside0.mk (below_step (by repeat (first | (with_reducible first | exact HB.out | apply below_alloc | apply pw_below_drewN | apply below_drew1) | exact HB.out | exact Below.refl _ _)) hb); clear HO_9; clear HB; have HO_9 := n0_; have HB := n1_; clear n0_ n1_; (try clear hb); (try clear hb2); (try clear hk); (try clear hi)))
                go_ret
                exact ⟨by first | rfl | (simp [errW_none, errW_some] <;> rfl) | (simp [*, errW_none, errW_some] <;> rfl), by repeat (first | (with_reducible first | exact HB.out | apply below_alloc | apply pw_below_drewN | apply below_drew1) | exact HB.out | exact Below.refl _ _)⟩
          ·rw [if_neg c49] at H
           have c49b0 : (t305 == t303) = false := beq_eq_false_iff_ne.mpr c49
           have c49b1 : (t305 != t303) = true := bne_iff_ne.mpr c49
           obtain rfl := Option.some.inj H
           obtain ⟨Ao74, co74, eo74⟩ := Kd.R_slice HO_9.out
           subst eo74
           go_wp2_with (first | ((with_reducible refine gate_callee (f := 51) rfl ?_); refine goesL_ (some 68) rfl rfl Try.func51 (by kernel_rfl) rfl #[.slice Ao74 t292.length co74, .int .i64 1] rfl (by (try simp only [List.map_toArray, List.map_cons, List.map_nil]); first | done | rfl | (simp only [List.length_drop, List.length_take]; rfl)) ?_; (with_reducible refine (laws_markMarkS.calls kj28 (fun k_ => some k_ = (.slice Ao74 t292.length co74 : Value).ownBlock) (.slice Ao74 t292.length co74) t292 1 t303 t304 w _ ?side1 ?side2 A43.out).mono ?_); (case side1 => repeat (first | (with_reducible first | exact HB.out | apply below_alloc | apply pw_below_drewN | apply below_drew1) | exact HB.out | exact Below.refl _ _)); (case side2 => exact Kd.R_tight rfl HO_9.out); rintro e w75 ⟨rfl, hy0, hb, hkp⟩; refine ⟨_, rfl, ?_⟩; have n0_ := Aside0.mk (Kd.R_mono (ok' := fun k_ => some k_ ≠ (.slice Ao74 t292.length co74 : Value).ownBlock) (Kd.R_keptB (HO_6.out) hkp (fun k_ hk_ hs_ => (hk_) hs_)) (fun k_ hk_ => hk_.1)); have n1_ := Aside0.mk (Kd.R_reok rfl hy0 (fun k_ e_ => HO_9.out.1 k_ e_)); have n2_ := Aside0.mk (hb); clear HO_6; clear HO_9; clear HB; have HO_6 := n0_; have HO_9 := n1_; have HB := n2_; clear n0_ n1_ n2_; (try clear hb); (try clear hkp); (try clear hy0)) | ((with_reducible refine gate_callee (f := 52) rfl ?_); refine goesL_ (some 71) rfl rfl Try.func52 (by kernel_rfl) rfl #[.slice Ao74 t304.length co74, .int .i64 1] rfl (by (try simp only [List.map_toArray, List.map_cons, List.map_nil]); first | done | (rw [show t304.length = t292.length from (Kd.R_reads' HO_9.out).1.symm] <;> rfl) | rfl | (simp only [List.length_drop, List.length_take]; rfl)) ?_; (with_reducible refine (laws_heldMarkS.calls kj28 _ _ t304 1 t305 _ ?side1 ?side2 A44.out).mono ?_); (case side1 => repeat (first | exact (Kd.R_reads' HO_9.out).2.2 | (with_reducible refine Kd.C_alloc ?_ _) | (with_reducible refine Kd.C_drewN ?_ _) | (with_reducible refine Kd.C_drew ?_))); (case side2 => rw [show t304.length = t292.length from (Kd.R_reads' HO_9.out).1.symm]; exact (Kd.R_reads' HO_9.out).2.1); rintro e w76 ⟨rfl, hb⟩; refine ⟨_, rfl, ?_⟩; have n0_ := Aside0.mk (Kd.R_below (by (with_reducible repeat (first | apply Kd.R_alloc | apply Kd.R_drewN | apply Kd.R_drew)); exact HO_6.out) hb); have n1_ := Aside0.mk (Kd.R_below (by (with_reducible repeat (first | apply Kd.R_alloc | apply Kd.R_drewN | apply Kd.R_drew)); exact HO_9.out) hb); have n2_ := Aside0.mk (below_step (by repeat (first | (with_reducible first | exact HB.out | apply below_alloc | apply pw_below_drewN | apply below_drew1) | exact HB.out | exact Below.refl _ _)) hb); clear HO_6; clear HO_9; clear HB; have HO_6 := n0_; have HO_9 := n1_; have HB := n2_; clear n0_ n1_ n2_; (try clear hb); (try clear hb2); (try clear hk); (try clear hi)))
           go_ret
           exact ⟨by first | rfl | (simp [errW_none, errW_some] <;> rfl) | (simp [*, errW_none, errW_some] <;> rfl), by repeat (first | (with_reducible first | exact HB.out | apply below_alloc | apply pw_below_drewN | apply below_drew1) | exact HB.out | exact Below.refl _ _)⟩
     ·replace c27 := Bool.eq_false_iff.mpr c27
      subst c27
      have H1 : (some false) = some r := by rw [if_neg (show ¬ (false = true) by decide)] at H; exact H
      clear H
      have H := H1
      clear H1
      obtain rfl := Option.some.inj H
      go_wp2_with (first | ((with_reducible refine gate_callee (f := 16) rfl ?_); refine goesL_ (some 47) rfl rfl Try.func16 (by kernel_rfl) rfl #[.slice A0 l0.length c0] rfl (by (try simp only [List.map_toArray, List.map_cons, List.map_nil]); first | done | rfl | (simp only [List.length_drop, List.length_take]; rfl)) ?_; (with_reducible refine (laws_toStringSS.calls kj8 _ _ l0 t297 _ ?side1 ?side2 A25.out).mono ?_); (case side1 => repeat (first | exact (Kd.C_below HR0.out HB.out) | exact HR0.out | (with_reducible refine Kd.C_alloc ?_ _) | (with_reducible refine Kd.C_drewN ?_ _) | (with_reducible refine Kd.C_drew ?_))); (case side2 => exact HC0.out); rintro e w77 ⟨v298, rfl, ho0, hb⟩; refine ⟨_, rfl, ?_⟩; have n0_ := Aside0.mk (Kd.R_below (by (with_reducible repeat (first | apply Kd.R_alloc | apply Kd.R_drewN | apply Kd.R_drew)); exact HO_6.out) hb); have n1_ := Aside0.mk (Kd.S_elder' (by (with_reducible repeat (first | apply Kd.S_alloc | apply Kd.S_drewN | apply Kd.S_drew)); exact HO_8.out) (Kd.S_base ho0) hb); have n2_ := Aside0.mk (Kd.R_below (by (with_reducible repeat (first | apply Kd.R_alloc | apply Kd.R_drewN | apply Kd.R_drew)); exact HO_9.out) hb); have n3_ := Aside0.mk (Kd.S_lower (Kd.S_new' ho0 (Kd.S_lt (by (with_reducible repeat (first | apply Kd.S_alloc | apply Kd.S_drewN | apply Kd.S_drew)); exact HO_8.out))) (below_size (by repeat (first | (with_reducible first | exact HB.out | apply below_alloc | apply pw_below_drewN | apply below_drew1) | exact HB.out | exact Below.refl _ _)))); have n4_ := Aside0.mk (below_step (by repeat (first | (with_reducible first | exact HB.out | apply below_alloc | apply pw_below_drewN | apply below_drew1) | exact HB.out | exact Below.refl _ _)) hb); clear HO_6; clear HO_8; clear HO_9; clear HB; have HO_6 := n0_; have HO_8 := n1_; have HO_9 := n2_; have HO299 := n3_; have HB := n4_; clear n0_ n1_ n2_ n3_ n4_; (try clear hb); (try clear hb2); (try clear hk); (try clear hi); (try clear ho0); obtain ⟨Ao78, co78, eo78⟩ := Kd.S_slice HO299.out; subst eo78) | ((with_reducible refine gate_callee (f := 18) rfl ?_); refine goesL_ (some 48) rfl rfl Try.func18 (by kernel_rfl) rfl #[.slice Ao14 t289.length co14, .slice Ao78 t297.length co78] rfl (by (try simp only [List.map_toArray, List.map_cons, List.map_nil]); first | done | rfl | (simp only [List.length_drop, List.length_take]; rfl)) ?_; (with_reducible refine (laws_eqStringSS.calls kj8 _ _ t289 _ _ t297 false _ ?side1 ?side2 ?side3 ?side4 A26.out).mono ?_); (case side1 => repeat (first | exact (Kd.S_reads' HO_8.out).2.2 | (with_reducible refine Kd.C_alloc ?_ _) | (with_reducible refine Kd.C_drewN ?_ _) | (with_reducible refine Kd.C_drew ?_))); (case side2 => exact (Kd.S_reads' HO_8.out).2.1); (case side3 => repeat (first | exact (Kd.S_reads' HO299.out).2.2 | (with_reducible refine Kd.C_alloc ?_ _) | (with_reducible refine Kd.C_drewN ?_ _) | (with_reducible refine Kd.C_drew ?_))); (case side4 => exact (Kd.S_reads' HO299.out).2.1); rintro e w' ⟨rfl, ⟨nd, rfl⟩⟩; refine ⟨_, rfl, ?_⟩))
      go_ret
      exact ⟨by first | rfl | (simp [errW_none, errW_some] <;> rfl) | (simp [*, errW_none, errW_some] <;> rfl), by repeat (first | (with_reducible first | exact HB.out | apply below_alloc | apply pw_below_drewN | apply below_drew1) | exact HB.out | exact Below.refl _ _)⟩

end Go.Proofs.Ytcnhdcgiapjpoaa.PFnExactMarksToNext
