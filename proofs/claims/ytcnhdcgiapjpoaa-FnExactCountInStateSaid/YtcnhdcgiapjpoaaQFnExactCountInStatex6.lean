/- The printed functions of the law FnExactCountInState and their contracts, mended by this session's program (mend.py) where the printed walk stops. No condition. -/
import Derived.Test.YtcnhdcgiapjpoaaQFnExactCountInStatex0
import Derived.Test.YtcnhdcgiapjpoaaQFnExactCountInStatex1
import Derived.Test.YtcnhdcgiapjpoaaQFnExactCountInStatex2
import Derived.Test.YtcnhdcgiapjpoaaQFnExactCountInStatex4
import Derived.Test.YtcnhdcgiapjpoaaQFnExactCountInStatex5
namespace Go.Proofs.Ytcnhdcgiapjpoaa.PFnExactCountInState
open Go.RowKit Go.Proofs.YtcnhdcgiapjpoaaW.PrintWords Go.Proofs.YtcnhdcgiapjpoaaW.PrintLast Go.Proofs.YtcnhdcgiapjpoaaW.PrintMore
attribute [local go_sem] max2_int min2_int max_two min_two max_three min_three max_four min_four   -- for this text's walks alone
set_option linter.unusedVariables false
set_option linter.unusedSimpArgs false

/-! ### laws_FnExactCountInState: function 11 -/
mutual
def laws_FnExactCountInState.j0 : Nat → List (List ByteArray) → List (List ByteArray) → List Int → Bool → List (List ByteArray) → List (List ByteArray) → List Int → Bool → Bool → Option (Bool)
  | 0, _, _, _, _, _, _, _, _, _ => none
  | k + 1, x0, x1, x6, x7, x8, x9, x10, x11, x53 => if x53 = true then (some false) else ((laws_toStringSS.f k x0).bind fun t213 => ((laws_eqStringSS.f k x8 t213).bind fun t216 => (if t216 = true then ((laws_toStringSS.f k x1).bind fun t217 => ((laws_eqStringSS.f k x9 t217).bind fun t220 => (if t220 = true then ((laws_markStringSS.f k x8 1).bind fun t221 => ((laws_markStringSS.f k x9 t221).bind fun t222 => (if t222 < 0 then (laws_FnExactCountInState.j1 k x0 x1 x6 x7 x10 true) else ((laws_eqIntS.f k x10 x6).bind fun t223 => (if t223 = true then (laws_FnExactCountInState.j1 k x0 x1 x6 x7 x10 (x11 != x7)) else (laws_FnExactCountInState.j1 k x0 x1 x6 x7 x10 true)))))) else (some false)))) else (some false))))
def laws_FnExactCountInState.j1 : Nat → List (List ByteArray) → List (List ByteArray) → List Int → Bool → List Int → Bool → Option (Bool)
  | 0, _, _, _, _, _, _ => none
  | k + 1, x0, x1, x6, x7, x10, x82 => if x82 = true then (some false) else ((laws_markIntS.f k x10 1).bind fun bt224 => ((laws_heldIntS.f k bt224.2 1).bind fun t226 => (if t226 < 0 then (some false) else (if t226 = bt224.1 then ((laws_toStringSS.f k x0).bind fun t227 => ((laws_toStringSS.f k x1).bind fun t230 => ((impl_CountInState.f k t227 t230).bind fun bt233 => ((laws_eqIntS.f k bt233.1 x6).bind fun t237 => (if t237 = true then (laws_FnExactCountInState.j2 k bt224.2 bt224.1 (bt233.2 != x7)) else (laws_FnExactCountInState.j2 k bt224.2 bt224.1 true)))))) else (some false)))))
def laws_FnExactCountInState.j2 : Nat → List Int → Int → Bool → Option (Bool)
  | 0, _, _, _ => none
  | k + 1, x10, x13, x110 => if x110 = true then (some false) else ((laws_heldIntS.f k x10 1).bind fun t238 => (if t238 < 0 then (some false) else (if t238 = x13 then (some true) else (some false))))
end
def laws_FnExactCountInState.f (k : Nat) (l0 : List (List ByteArray)) (l1 : List (List ByteArray)) : Option (Bool) := (laws_szStringSS.f k l0 1048576).bind fun t190 => (if t190 < 0 then (some true) else ((laws_szStringSS.f k l1 t190).bind fun t191 => (if t191 < 0 then (some true) else ((laws_toStringSS.f k l0).bind fun t192 => ((laws_toStringSS.f k l1).bind fun t195 => ((spec_CountInState.f k t192 t195).bind fun bt198 => ((laws_toStringSS.f k l0).bind fun t202 => ((laws_toStringSS.f k l1).bind fun t205 => ((impl_CountInState.f k t202 t205).bind fun bt208 => ((laws_eqIntS.f k bt208.1 bt198.1).bind fun t212 => (if t212 = true then (laws_FnExactCountInState.j0 k l0 l1 bt198.1 bt198.2 t202 t205 bt208.1 bt208.2 (bt208.2 != bt198.2)) else (laws_FnExactCountInState.j0 k l0 l1 bt198.1 bt198.2 t202 t205 bt208.1 bt208.2 true))))))))))))
theorem laws_FnExactCountInState.mono_l : ∀ k, (∀ y0 y1 y2 y3 y4 y5 y6 y7 y8, LeO (laws_FnExactCountInState.j0 k y0 y1 y2 y3 y4 y5 y6 y7 y8) (laws_FnExactCountInState.j0 (k + 1) y0 y1 y2 y3 y4 y5 y6 y7 y8)) ∧ (∀ y0 y1 y2 y3 y4 y5, LeO (laws_FnExactCountInState.j1 k y0 y1 y2 y3 y4 y5) (laws_FnExactCountInState.j1 (k + 1) y0 y1 y2 y3 y4 y5)) ∧ (∀ y0 y1 y2, LeO (laws_FnExactCountInState.j2 k y0 y1 y2) (laws_FnExactCountInState.j2 (k + 1) y0 y1 y2))
  | 0 => ⟨fun _ _ _ _ _ _ _ _ _ r h => by simp [laws_FnExactCountInState.j0] at h, fun _ _ _ _ _ _ r h => by simp [laws_FnExactCountInState.j1] at h, fun _ _ _ r h => by simp [laws_FnExactCountInState.j2] at h⟩
  | k + 1 => by
    obtain ⟨ih0, ih1, ih2⟩ := laws_FnExactCountInState.mono_l k
    refine ⟨?_, ?_, ?_⟩
    · intro y0 y1 y2 y3 y4 y5 y6 y7 y8
      unfold laws_FnExactCountInState.j0
      repeat' first
      | (with_reducible exact ih0 _ _ _ _ _ _ _ _ _)
      | (with_reducible exact ih1 _ _ _ _ _ _)
      | (with_reducible exact ih2 _ _ _)
      | (with_reducible exact impl_CountInState.mono _ _ _)
      | (with_reducible exact laws_eqIntS.mono _ _ _)
      | (with_reducible exact laws_eqStringSS.mono _ _ _)
      | (with_reducible exact laws_heldIntS.mono _ _ _)
      | (with_reducible exact laws_markIntS.mono _ _ _)
      | (with_reducible exact laws_markStringSS.mono _ _ _)
      | (with_reducible exact laws_szStringSS.mono _ _ _)
      | (with_reducible exact laws_toStringSS.mono _ _)
      | (with_reducible exact spec_CountInState.mono _ _ _)
      | (with_reducible exact LeO.refl _)
      | (with_reducible exact LeO.none _)
      | (with_reducible refine LeO.ite ?_ ?_)
      | (with_reducible refine LeO.bind ?_ (fun _ => ?_))
      | exact ih0 _ _ _ _ _ _ _ _ _
      | exact ih1 _ _ _ _ _ _
      | exact ih2 _ _ _
      | exact impl_CountInState.mono _ _ _
      | exact laws_eqIntS.mono _ _ _
      | exact laws_eqStringSS.mono _ _ _
      | exact laws_heldIntS.mono _ _ _
      | exact laws_markIntS.mono _ _ _
      | exact laws_markStringSS.mono _ _ _
      | exact laws_szStringSS.mono _ _ _
      | exact laws_toStringSS.mono _ _
      | exact spec_CountInState.mono _ _ _
      | exact LeO.none _
      | refine LeO.ite ?_ ?_
      | refine LeO.bind ?_ (fun _ => ?_)
    · intro y0 y1 y2 y3 y4 y5
      unfold laws_FnExactCountInState.j1
      repeat' first
      | (with_reducible exact ih0 _ _ _ _ _ _ _ _ _)
      | (with_reducible exact ih1 _ _ _ _ _ _)
      | (with_reducible exact ih2 _ _ _)
      | (with_reducible exact impl_CountInState.mono _ _ _)
      | (with_reducible exact laws_eqIntS.mono _ _ _)
      | (with_reducible exact laws_eqStringSS.mono _ _ _)
      | (with_reducible exact laws_heldIntS.mono _ _ _)
      | (with_reducible exact laws_markIntS.mono _ _ _)
      | (with_reducible exact laws_markStringSS.mono _ _ _)
      | (with_reducible exact laws_szStringSS.mono _ _ _)
      | (with_reducible exact laws_toStringSS.mono _ _)
      | (with_reducible exact spec_CountInState.mono _ _ _)
      | (with_reducible exact LeO.refl _)
      | (with_reducible exact LeO.none _)
      | (with_reducible refine LeO.ite ?_ ?_)
      | (with_reducible refine LeO.bind ?_ (fun _ => ?_))
      | exact ih0 _ _ _ _ _ _ _ _ _
      | exact ih1 _ _ _ _ _ _
      | exact ih2 _ _ _
      | exact impl_CountInState.mono _ _ _
      | exact laws_eqIntS.mono _ _ _
      | exact laws_eqStringSS.mono _ _ _
      | exact laws_heldIntS.mono _ _ _
      | exact laws_markIntS.mono _ _ _
      | exact laws_markStringSS.mono _ _ _
      | exact laws_szStringSS.mono _ _ _
      | exact laws_toStringSS.mono _ _
      | exact spec_CountInState.mono _ _ _
      | exact LeO.none _
      | refine LeO.ite ?_ ?_
      | refine LeO.bind ?_ (fun _ => ?_)
    · intro y0 y1 y2
      unfold laws_FnExactCountInState.j2
      repeat' first
      | (with_reducible exact ih0 _ _ _ _ _ _ _ _ _)
      | (with_reducible exact ih1 _ _ _ _ _ _)
      | (with_reducible exact ih2 _ _ _)
      | (with_reducible exact impl_CountInState.mono _ _ _)
      | (with_reducible exact laws_eqIntS.mono _ _ _)
      | (with_reducible exact laws_eqStringSS.mono _ _ _)
      | (with_reducible exact laws_heldIntS.mono _ _ _)
      | (with_reducible exact laws_markIntS.mono _ _ _)
      | (with_reducible exact laws_markStringSS.mono _ _ _)
      | (with_reducible exact laws_szStringSS.mono _ _ _)
      | (with_reducible exact laws_toStringSS.mono _ _)
      | (with_reducible exact spec_CountInState.mono _ _ _)
      | (with_reducible exact LeO.refl _)
      | (with_reducible exact LeO.none _)
      | (with_reducible refine LeO.ite ?_ ?_)
      | (with_reducible refine LeO.bind ?_ (fun _ => ?_))
      | exact ih0 _ _ _ _ _ _ _ _ _
      | exact ih1 _ _ _ _ _ _
      | exact ih2 _ _ _
      | exact impl_CountInState.mono _ _ _
      | exact laws_eqIntS.mono _ _ _
      | exact laws_eqStringSS.mono _ _ _
      | exact laws_heldIntS.mono _ _ _
      | exact laws_markIntS.mono _ _ _
      | exact laws_markStringSS.mono _ _ _
      | exact laws_szStringSS.mono _ _ _
      | exact laws_toStringSS.mono _ _
      | exact spec_CountInState.mono _ _ _
      | exact LeO.none _
      | refine LeO.ite ?_ ?_
      | refine LeO.bind ?_ (fun _ => ?_)
theorem laws_FnExactCountInState.mono : ∀ a0 a1 k, LeO (laws_FnExactCountInState.f k a0 a1) (laws_FnExactCountInState.f (k + 1) a0 a1) := by
  intro a0 a1 k
  obtain ⟨ih0, ih1, ih2⟩ := laws_FnExactCountInState.mono_l k
  unfold laws_FnExactCountInState.f
  repeat' first
      | (with_reducible exact ih0 _ _ _ _ _ _ _ _ _)
      | (with_reducible exact ih1 _ _ _ _ _ _)
      | (with_reducible exact ih2 _ _ _)
      | (with_reducible exact impl_CountInState.mono _ _ _)
      | (with_reducible exact laws_eqIntS.mono _ _ _)
      | (with_reducible exact laws_eqStringSS.mono _ _ _)
      | (with_reducible exact laws_heldIntS.mono _ _ _)
      | (with_reducible exact laws_markIntS.mono _ _ _)
      | (with_reducible exact laws_markStringSS.mono _ _ _)
      | (with_reducible exact laws_szStringSS.mono _ _ _)
      | (with_reducible exact laws_toStringSS.mono _ _)
      | (with_reducible exact spec_CountInState.mono _ _ _)
      | (with_reducible exact LeO.refl _)
      | (with_reducible exact LeO.none _)
      | (with_reducible refine LeO.ite ?_ ?_)
      | (with_reducible refine LeO.bind ?_ (fun _ => ?_))
      | exact ih0 _ _ _ _ _ _ _ _ _
      | exact ih1 _ _ _ _ _ _
      | exact ih2 _ _ _
      | exact impl_CountInState.mono _ _ _
      | exact laws_eqIntS.mono _ _ _
      | exact laws_eqStringSS.mono _ _ _
      | exact laws_heldIntS.mono _ _ _
      | exact laws_markIntS.mono _ _ _
      | exact laws_markStringSS.mono _ _ _
      | exact laws_szStringSS.mono _ _ _
      | exact laws_toStringSS.mono _ _
      | exact spec_CountInState.mono _ _ _
      | exact LeO.none _
      | refine LeO.ite ?_ ?_
      | refine LeO.bind ?_ (fun _ => ?_)
set_option maxHeartbeats 8000000 in
set_option maxRecDepth 100000 in
theorem laws_FnExactCountInState.calls (k : Nat) (A0 : Option Addr) (c0 : Nat) (l0 : List (List ByteArray)) (A1 : Option Addr) (c1 : Nat) (l1 : List (List ByteArray)) (r : Bool) (w : World) (hr0 : Kd.C (Kd.slice 9 Kd.string) w A0 l0.length l0) (hc0 : l0.length ≤ c0) (hr1 : Kd.C (Kd.slice 9 Kd.string) w A1 l1.length l1) (hc1 : l1.length ≤ c1) (h : laws_FnExactCountInState.f k l0 l1 = some r) :
    Calls Try.prog 11 #[.slice A0 l0.length c0, .slice A1 l1.length c1] w fun e w' => e = .returned (.bool r) ∧ Below w.heap.size w w' := by
  have HR0 := Aside0.mk hr0
  have HC0 := Aside0.mk hc0
  clear hr0 hc0
  have HR1 := Aside0.mk hr1
  have HC1 := Aside0.mk hc1
  clear hr1 hc1
  have HB := Aside0.mk (Below.refl w.heap.size w)
  have H : ((laws_szStringSS.f k l0 1048576).bind fun t190 => (if t190 < 0 then (some true) else ((laws_szStringSS.f k l1 t190).bind fun t191 => (if t191 < 0 then (some true) else ((laws_toStringSS.f k l0).bind fun t192 => ((laws_toStringSS.f k l1).bind fun t195 => ((spec_CountInState.f k t192 t195).bind fun bt198 => ((laws_toStringSS.f k l0).bind fun t202 => ((laws_toStringSS.f k l1).bind fun t205 => ((impl_CountInState.f k t202 t205).bind fun bt208 => ((laws_eqIntS.f k bt208.1 bt198.1).bind fun t212 => (if t212 = true then (laws_FnExactCountInState.j0 k l0 l1 bt198.1 bt198.2 t202 t205 bt208.1 bt208.2 (bt208.2 != bt198.2)) else (laws_FnExactCountInState.j0 k l0 l1 bt198.1 bt198.2 t202 t205 bt208.1 bt208.2 true))))))))))))) = some r := h
  clear h
  replace H := Option.bind_eq_some_iff.mp H
  obtain ⟨t190, A30, H⟩ := H
  replace H : (if t190 < 0 then (some true) else ((laws_szStringSS.f k l1 t190).bind fun t191 => (if t191 < 0 then (some true) else ((laws_toStringSS.f k l0).bind fun t192 => ((laws_toStringSS.f k l1).bind fun t195 => ((spec_CountInState.f k t192 t195).bind fun bt198 => ((laws_toStringSS.f k l0).bind fun t202 => ((laws_toStringSS.f k l1).bind fun t205 => ((impl_CountInState.f k t202 t205).bind fun bt208 => ((laws_eqIntS.f k bt208.1 bt198.1).bind fun t212 => (if t212 = true then (laws_FnExactCountInState.j0 k l0 l1 bt198.1 bt198.2 t202 t205 bt208.1 bt208.2 (bt208.2 != bt198.2)) else (laws_FnExactCountInState.j0 k l0 l1 bt198.1 bt198.2 t202 t205 bt208.1 bt208.2 true)))))))))))) = some r := H
  have A3 := Aside0.mk A30
  clear A30
  by_cases c4 : t190 < 0
  · rw [if_pos c4] at H
    have c4b0 : decide (t190 < 0) = true := decide_eq_true c4
    clear c4
    obtain rfl := Option.some.inj H
    go_enter Try.func11, Try.ntmps11
    go_wp2_with (first | ((with_reducible refine gate_callee (f := 14) rfl ?_); refine goesL_ (some 19) rfl rfl Try.func14 (by kernel_rfl) rfl #[.slice A0 l0.length c0, .int .i64 1048576] rfl (by (try simp only [List.map_toArray, List.map_cons, List.map_nil]); first | done | rfl | (simp only [List.length_drop, List.length_take]; rfl)) ?_; (with_reducible refine (laws_szStringSS.calls k _ _ l0 1048576 t190 _ ?side1 ?side2 A3.out).mono ?_); (case side1 => repeat (first | exact HR0.out | (with_reducible refine Kd.C_alloc ?_ _) | (with_reducible refine Kd.C_drewN ?_ _) | (with_reducible refine Kd.C_drew ?_))); (case side2 => exact HC0.out); rintro e w' ⟨rfl, ⟨nd, rfl⟩⟩; refine ⟨_, rfl, ?_⟩))
    go_ret
    exact ⟨by first | rfl | (simp [errW_none, errW_some] <;> rfl) | (simp [*, errW_none, errW_some] <;> rfl), by repeat (first | (with_reducible first | exact HB.out | apply below_alloc | apply pw_below_drewN | apply below_drew1) | exact HB.out | exact Below.refl _ _)⟩
  · rw [if_neg c4] at H
    have c4b0 : decide (t190 < 0) = false := decide_eq_false c4
    clear c4
    replace H := Option.bind_eq_some_iff.mp H
    obtain ⟨t191, A50, H⟩ := H
    replace H : (if t191 < 0 then (some true) else ((laws_toStringSS.f k l0).bind fun t192 => ((laws_toStringSS.f k l1).bind fun t195 => ((spec_CountInState.f k t192 t195).bind fun bt198 => ((laws_toStringSS.f k l0).bind fun t202 => ((laws_toStringSS.f k l1).bind fun t205 => ((impl_CountInState.f k t202 t205).bind fun bt208 => ((laws_eqIntS.f k bt208.1 bt198.1).bind fun t212 => (if t212 = true then (laws_FnExactCountInState.j0 k l0 l1 bt198.1 bt198.2 t202 t205 bt208.1 bt208.2 (bt208.2 != bt198.2)) else (laws_FnExactCountInState.j0 k l0 l1 bt198.1 bt198.2 t202 t205 bt208.1 bt208.2 true)))))))))) = some r := H
    have A5 := Aside0.mk A50
    clear A50
    by_cases c6 : t191 < 0
    · rw [if_pos c6] at H
      have c6b0 : decide (t191 < 0) = true := decide_eq_true c6
      clear c6
      obtain rfl := Option.some.inj H
      go_enter Try.func11, Try.ntmps11
      go_wp2_with (first | ((with_reducible refine gate_callee (f := 14) rfl ?_); refine goesL_ (some 19) rfl rfl Try.func14 (by kernel_rfl) rfl #[.slice A0 l0.length c0, .int .i64 1048576] rfl (by (try simp only [List.map_toArray, List.map_cons, List.map_nil]); first | done | rfl | (simp only [List.length_drop, List.length_take]; rfl)) ?_; (with_reducible refine (laws_szStringSS.calls k _ _ l0 1048576 t190 _ ?side1 ?side2 A3.out).mono ?_); (case side1 => repeat (first | exact HR0.out | (with_reducible refine Kd.C_alloc ?_ _) | (with_reducible refine Kd.C_drewN ?_ _) | (with_reducible refine Kd.C_drew ?_))); (case side2 => exact HC0.out); rintro e w' ⟨rfl, ⟨nd, rfl⟩⟩; refine ⟨_, rfl, ?_⟩) | ((with_reducible refine gate_callee (f := 14) rfl ?_); refine goesL_ (some 24) rfl rfl Try.func14 (by kernel_rfl) rfl #[.slice A1 l1.length c1, .int .i64 t190] rfl (by (try simp only [List.map_toArray, List.map_cons, List.map_nil]); first | done | rfl | (simp only [List.length_drop, List.length_take]; rfl)) ?_; (with_reducible refine (laws_szStringSS.calls k _ _ l1 t190 t191 _ ?side1 ?side2 A5.out).mono ?_); (case side1 => repeat (first | exact HR1.out | (with_reducible refine Kd.C_alloc ?_ _) | (with_reducible refine Kd.C_drewN ?_ _) | (with_reducible refine Kd.C_drew ?_))); (case side2 => exact HC1.out); rintro e w' ⟨rfl, ⟨nd, rfl⟩⟩; refine ⟨_, rfl, ?_⟩))
      go_ret
      exact ⟨by first | rfl | (simp [errW_none, errW_some] <;> rfl) | (simp [*, errW_none, errW_some] <;> rfl), by repeat (first | (with_reducible first | exact HB.out | apply below_alloc | apply pw_below_drewN | apply below_drew1) | exact HB.out | exact Below.refl _ _)⟩
    · rw [if_neg c6] at H
      have c6b0 : decide (t191 < 0) = false := decide_eq_false c6
      clear c6
      replace H := Option.bind_eq_some_iff.mp H
      obtain ⟨t192, A70, H⟩ := H
      replace H : ((laws_toStringSS.f k l1).bind fun t195 => ((spec_CountInState.f k t192 t195).bind fun bt198 => ((laws_toStringSS.f k l0).bind fun t202 => ((laws_toStringSS.f k l1).bind fun t205 => ((impl_CountInState.f k t202 t205).bind fun bt208 => ((laws_eqIntS.f k bt208.1 bt198.1).bind fun t212 => (if t212 = true then (laws_FnExactCountInState.j0 k l0 l1 bt198.1 bt198.2 t202 t205 bt208.1 bt208.2 (bt208.2 != bt198.2)) else (laws_FnExactCountInState.j0 k l0 l1 bt198.1 bt198.2 t202 t205 bt208.1 bt208.2 true)))))))) = some r := H
      have A7 := Aside0.mk A70
      clear A70
      replace H := Option.bind_eq_some_iff.mp H
      obtain ⟨t195, A80, H⟩ := H
      replace H : ((spec_CountInState.f k t192 t195).bind fun bt198 => ((laws_toStringSS.f k l0).bind fun t202 => ((laws_toStringSS.f k l1).bind fun t205 => ((impl_CountInState.f k t202 t205).bind fun bt208 => ((laws_eqIntS.f k bt208.1 bt198.1).bind fun t212 => (if t212 = true then (laws_FnExactCountInState.j0 k l0 l1 bt198.1 bt198.2 t202 t205 bt208.1 bt208.2 (bt208.2 != bt198.2)) else (laws_FnExactCountInState.j0 k l0 l1 bt198.1 bt198.2 t202 t205 bt208.1 bt208.2 true))))))) = some r := H
      have A8 := Aside0.mk A80
      clear A80
      replace H := Option.bind_eq_some_iff.mp H
      obtain ⟨⟨t198, t199⟩, A90, H⟩ := H
      replace H : ((laws_toStringSS.f k l0).bind fun t202 => ((laws_toStringSS.f k l1).bind fun t205 => ((impl_CountInState.f k t202 t205).bind fun bt208 => ((laws_eqIntS.f k bt208.1 t198).bind fun t212 => (if t212 = true then (laws_FnExactCountInState.j0 k l0 l1 t198 t199 t202 t205 bt208.1 bt208.2 (bt208.2 != t199)) else (laws_FnExactCountInState.j0 k l0 l1 t198 t199 t202 t205 bt208.1 bt208.2 true)))))) = some r := H
      have A9 := Aside0.mk A90
      clear A90
      replace H := Option.bind_eq_some_iff.mp H
      obtain ⟨t202, A100, H⟩ := H
      replace H : ((laws_toStringSS.f k l1).bind fun t205 => ((impl_CountInState.f k t202 t205).bind fun bt208 => ((laws_eqIntS.f k bt208.1 t198).bind fun t212 => (if t212 = true then (laws_FnExactCountInState.j0 k l0 l1 t198 t199 t202 t205 bt208.1 bt208.2 (bt208.2 != t199)) else (laws_FnExactCountInState.j0 k l0 l1 t198 t199 t202 t205 bt208.1 bt208.2 true))))) = some r := H
      have A10 := Aside0.mk A100
      clear A100
      replace H := Option.bind_eq_some_iff.mp H
      obtain ⟨t205, A110, H⟩ := H
      replace H : ((impl_CountInState.f k t202 t205).bind fun bt208 => ((laws_eqIntS.f k bt208.1 t198).bind fun t212 => (if t212 = true then (laws_FnExactCountInState.j0 k l0 l1 t198 t199 t202 t205 bt208.1 bt208.2 (bt208.2 != t199)) else (laws_FnExactCountInState.j0 k l0 l1 t198 t199 t202 t205 bt208.1 bt208.2 true)))) = some r := H
      have A11 := Aside0.mk A110
      clear A110
      replace H := Option.bind_eq_some_iff.mp H
      obtain ⟨⟨t208, t209⟩, A120, H⟩ := H
      replace H : ((laws_eqIntS.f k t208 t198).bind fun t212 => (if t212 = true then (laws_FnExactCountInState.j0 k l0 l1 t198 t199 t202 t205 t208 t209 (t209 != t199)) else (laws_FnExactCountInState.j0 k l0 l1 t198 t199 t202 t205 t208 t209 true))) = some r := H
      have A12 := Aside0.mk A120
      clear A120
      have HC13 := Aside0.mk H
      clear H
      go_enter Try.func11, Try.ntmps11
      go_upto_region 12 with (first | ((with_reducible refine gate_callee (f := 14) rfl ?_); refine goesL_ (some 19) rfl rfl Try.func14 (by kernel_rfl) rfl #[.slice A0 l0.length c0, .int .i64 1048576] rfl (by (try simp only [List.map_toArray, List.map_cons, List.map_nil]); first | done | rfl | (simp only [List.length_drop, List.length_take]; rfl)) ?_; (with_reducible refine (laws_szStringSS.calls k _ _ l0 1048576 t190 _ ?side1 ?side2 A3.out).mono ?_); (case side1 => repeat (first | exact HR0.out | (with_reducible refine Kd.C_alloc ?_ _) | (with_reducible refine Kd.C_drewN ?_ _) | (with_reducible refine Kd.C_drew ?_))); (case side2 => exact HC0.out); rintro e w' ⟨rfl, ⟨nd, rfl⟩⟩; refine ⟨_, rfl, ?_⟩) | ((with_reducible refine gate_callee (f := 14) rfl ?_); refine goesL_ (some 24) rfl rfl Try.func14 (by kernel_rfl) rfl #[.slice A1 l1.length c1, .int .i64 t190] rfl (by (try simp only [List.map_toArray, List.map_cons, List.map_nil]); first | done | rfl | (simp only [List.length_drop, List.length_take]; rfl)) ?_; (with_reducible refine (laws_szStringSS.calls k _ _ l1 t190 t191 _ ?side1 ?side2 A5.out).mono ?_); (case side1 => repeat (first | exact HR1.out | (with_reducible refine Kd.C_alloc ?_ _) | (with_reducible refine Kd.C_drewN ?_ _) | (with_reducible refine Kd.C_drew ?_))); (case side2 => exact HC1.out); rintro e w' ⟨rfl, ⟨nd, rfl⟩⟩; refine ⟨_, rfl, ?_⟩) | ((with_reducible refine gate_callee (f := 16) rfl ?_); refine goesL_ (some 29) rfl rfl Try.func16 (by kernel_rfl) rfl #[.slice A0 l0.length c0] rfl (by (try simp only [List.map_toArray, List.map_cons, List.map_nil]); first | done | rfl | (simp only [List.length_drop, List.length_take]; rfl)) ?_; (with_reducible refine (laws_toStringSS.calls k _ _ l0 t192 _ ?side1 ?side2 A7.out).mono ?_); (case side1 => repeat (first | exact HR0.out | (with_reducible refine Kd.C_alloc ?_ _) | (with_reducible refine Kd.C_drewN ?_ _) | (with_reducible refine Kd.C_drew ?_))); (case side2 => exact HC0.out); rintro e w14 ⟨v193, rfl, ho0, hb⟩; refine ⟨_, rfl, ?_⟩; have n0_ := Aside0.mk (Kd.S_lower ho0 (below_size (by repeat (first | (with_reducible first | exact HB.out | apply below_alloc | apply pw_below_drewN | apply below_drew1) | exact HB.out | exact Below.refl _ _)))); have n1_ := Aside0.mk (below_step (by repeat (first | (with_reducible first | exact HB.out | apply below_alloc | apply pw_below_drewN | apply below_drew1) | exact HB.out | exact Below.refl _ _)) hb); clear HB; have HO194 := n0_; have HB := n1_; clear n0_ n1_; (try clear hb); (try clear hb2); (try clear hk); (try clear hi); (try clear ho0)) | ((with_reducible refine gate_callee (f := 16) rfl ?_); refine goesL_ (some 31) rfl rfl Try.func16 (by kernel_rfl) rfl #[.slice A1 l1.length c1] rfl (by (try simp only [List.map_toArray, List.map_cons, List.map_nil]); first | done | rfl | (simp only [List.length_drop, List.length_take]; rfl)) ?_; (with_reducible refine (laws_toStringSS.calls k _ _ l1 t195 _ ?side1 ?side2 A8.out).mono ?_); (case side1 => repeat (first | exact (Kd.C_below HR1.out HB.out) | exact HR1.out | (with_reducible refine Kd.C_alloc ?_ _) | (with_reducible refine Kd.C_drewN ?_ _) | (with_reducible refine Kd.C_drew ?_))); (case side2 => exact HC1.out); rintro e w15 ⟨v196, rfl, ho0, hb⟩; refine ⟨_, rfl, ?_⟩; have n0_ := Aside0.mk (Kd.S_elder' (by (with_reducible repeat (first | apply Kd.S_alloc | apply Kd.S_drewN | apply Kd.S_drew)); exact HO194.out) (Kd.S_base ho0) hb); have n1_ := Aside0.mk (Kd.S_lower (Kd.S_new' ho0 (Kd.S_lt (by (with_reducible repeat (first | apply Kd.S_alloc | apply Kd.S_drewN | apply Kd.S_drew)); exact HO194.out))) (below_size (by repeat (first | (with_reducible first | exact HB.out | apply below_alloc | apply pw_below_drewN | apply below_drew1) | exact HB.out | exact Below.refl _ _)))); have n2_ := Aside0.mk (below_step (by repeat (first | (with_reducible first | exact HB.out | apply below_alloc | apply pw_below_drewN | apply below_drew1) | exact HB.out | exact Below.refl _ _)) hb); clear HO194; clear HB; have HO194 := n0_; have HO197 := n1_; have HB := n2_; clear n0_ n1_ n2_; (try clear hb); (try clear hb2); (try clear hk); (try clear hi); (try clear ho0); obtain ⟨Ao16, co16, eo16⟩ := Kd.S_slice HO194.out; subst eo16; obtain ⟨Ao17, co17, eo17⟩ := Kd.S_slice HO197.out; subst eo17) | ((with_reducible refine gate_callee (f := 41) rfl ?_); refine goesL_ (some 32) rfl rfl Try.func41 (by kernel_rfl) rfl #[.slice Ao16 t192.length co16, .slice Ao17 t195.length co17] rfl (by (try simp only [List.map_toArray, List.map_cons, List.map_nil]); first | done | rfl | (simp only [List.length_drop, List.length_take]; rfl)) ?_; (with_reducible refine (spec_CountInState.calls k _ _ t192 _ _ t195 t198 t199 _ ?side1 ?side2 ?side3 ?side4 A9.out).mono ?_); (case side1 => repeat (first | exact (Kd.S_reads' HO194.out).2.2 | (with_reducible refine Kd.C_alloc ?_ _) | (with_reducible refine Kd.C_drewN ?_ _) | (with_reducible refine Kd.C_drew ?_))); (case side2 => exact (Kd.S_reads' HO194.out).2.1); (case side3 => repeat (first | exact (Kd.S_reads' HO197.out).2.2 | (with_reducible refine Kd.C_alloc ?_ _) | (with_reducible refine Kd.C_drewN ?_ _) | (with_reducible refine Kd.C_drew ?_))); (case side4 => exact (Kd.S_reads' HO197.out).2.1); rintro e w18 ⟨v200, rfl, ho0, hb⟩; refine ⟨_, rfl, ?_⟩; have n0_ := Aside0.mk (Kd.S_below (by (with_reducible repeat (first | apply Kd.S_alloc | apply Kd.S_drewN | apply Kd.S_drew)); exact HO194.out) hb); have n1_ := Aside0.mk (Kd.S_below (by (with_reducible repeat (first | apply Kd.S_alloc | apply Kd.S_drewN | apply Kd.S_drew)); exact HO197.out) hb); have n2_ := Aside0.mk (Kd.R_lower ho0 (below_size (by repeat (first | (with_reducible first | exact HB.out | apply below_alloc | apply pw_below_drewN | apply below_drew1) | exact HB.out | exact Below.refl _ _)))); have n3_ := Aside0.mk (below_step (by repeat (first | (with_reducible first | exact HB.out | apply below_alloc | apply pw_below_drewN | apply below_drew1) | exact HB.out | exact Below.refl _ _)) hb); clear HO194; clear HO197; clear HB; have HO194 := n0_; have HO197 := n1_; have HO201 := n2_; have HB := n3_; clear n0_ n1_ n2_ n3_; (try clear hb); (try clear hb2); (try clear hk); (try clear hi); (try clear ho0)) | ((with_reducible refine gate_callee (f := 16) rfl ?_); refine goesL_ (some 36) rfl rfl Try.func16 (by kernel_rfl) rfl #[.slice A0 l0.length c0] rfl (by (try simp only [List.map_toArray, List.map_cons, List.map_nil]); first | done | rfl | (simp only [List.length_drop, List.length_take]; rfl)) ?_; (with_reducible refine (laws_toStringSS.calls k _ _ l0 t202 _ ?side1 ?side2 A10.out).mono ?_); (case side1 => repeat (first | exact (Kd.C_below HR0.out HB.out) | exact HR0.out | (with_reducible refine Kd.C_alloc ?_ _) | (with_reducible refine Kd.C_drewN ?_ _) | (with_reducible refine Kd.C_drew ?_))); (case side2 => exact HC0.out); rintro e w19 ⟨v203, rfl, ho0, hb⟩; refine ⟨_, rfl, ?_⟩; have n0_ := Aside0.mk (Kd.S_elder' (by (with_reducible repeat (first | apply Kd.S_alloc | apply Kd.S_drewN | apply Kd.S_drew)); exact HO194.out) (Kd.S_base ho0) hb); have n1_ := Aside0.mk (Kd.S_elder' (by (with_reducible repeat (first | apply Kd.S_alloc | apply Kd.S_drewN | apply Kd.S_drew)); exact HO197.out) (Kd.S_base ho0) hb); have n2_ := Aside0.mk (Kd.R_below (by (with_reducible repeat (first | apply Kd.R_alloc | apply Kd.R_drewN | apply Kd.R_drew)); exact HO201.out) hb); have n3_ := Aside0.mk (Kd.S_lower (Kd.S_new' (Kd.S_new' ho0 (Kd.S_lt (by (with_reducible repeat (first | apply Kd.S_alloc | apply Kd.S_drewN | apply Kd.S_drew)); exact HO194.out))) (Kd.S_lt (by (with_reducible repeat (first | apply Kd.S_alloc | apply Kd.S_drewN | apply Kd.S_drew)); exact HO197.out))) (below_size (by repeat (first | (with_reducible first | exact HB.out | apply below_alloc | apply pw_below_drewN | apply below_drew1) | exact HB.out | exact Below.refl _ _)))); have n4_ := Aside0.mk (below_step (by repeat (first | (with_reducible first | exact HB.out | apply below_alloc | apply pw_below_drewN | apply below_drew1) | exact HB.out | exact Below.refl _ _)) hb); clear HO194; clear HO197; clear HO201; clear HB; have HO194 := n0_; have HO197 := n1_; have HO201 := n2_; have HO204 := n3_; have HB := n4_; clear n0_ n1_ n2_ n3_ n4_; (try clear hb); (try clear hb2); (try clear hk); (try clear hi); (try clear ho0)) | ((with_reducible refine gate_callee (f := 16) rfl ?_); refine goesL_ (some 38) rfl rfl Try.func16 (by kernel_rfl) rfl #[.slice A1 l1.length c1] rfl (by (try simp only [List.map_toArray, List.map_cons, List.map_nil]); first | done | rfl | (simp only [List.length_drop, List.length_take]; rfl)) ?_; (with_reducible refine (laws_toStringSS.calls k _ _ l1 t205 _ ?side1 ?side2 A11.out).mono ?_); (case side1 => repeat (first | exact (Kd.C_below HR1.out HB.out) | exact HR1.out | (with_reducible refine Kd.C_alloc ?_ _) | (with_reducible refine Kd.C_drewN ?_ _) | (with_reducible refine Kd.C_drew ?_))); (case side2 => exact HC1.out); rintro e w20 ⟨v206, rfl, ho0, hb⟩; refine ⟨_, rfl, ?_⟩; have n0_ := Aside0.mk (Kd.S_elder' (by (with_reducible repeat (first | apply Kd.S_alloc | apply Kd.S_drewN | apply Kd.S_drew)); exact HO194.out) (Kd.S_base ho0) hb); have n1_ := Aside0.mk (Kd.S_elder' (by (with_reducible repeat (first | apply Kd.S_alloc | apply Kd.S_drewN | apply Kd.S_drew)); exact HO197.out) (Kd.S_base ho0) hb); have n2_ := Aside0.mk (Kd.R_below (by (with_reducible repeat (first | apply Kd.R_alloc | apply Kd.R_drewN | apply Kd.R_drew)); exact HO201.out) hb); obtain ⟨N_, h8N_, h9N_⟩ : ∃ N_ : Nat, Kd.S (Kd.slice 9 Kd.string) 27 w20 w.heap.size (fun k_ => some k_ ≠ (v206 : Value).ownBlock ∧ k_ < N_) v203 t202 ∧ Kd.S (Kd.slice 9 Kd.string) 27 w20 w.heap.size (fun k_ => some k_ ≠ (v203 : Value).ownBlock ∧ N_ ≤ k_) v206 t205 := ⟨_, Kd.S_mono (Kd.S_elder' (Kd.S_bound (by (with_reducible repeat (first | apply Kd.S_alloc | apply Kd.S_drewN | apply Kd.S_drew)); exact HO204.out)) (Kd.S_base ho0) hb) (fun _ hk => ⟨hk.2, hk.1.2.2.1⟩), Kd.S_mono (Kd.S_lower (Kd.S_new' (Kd.S_bound ho0) (Kd.S_lt (by (with_reducible repeat (first | apply Kd.S_alloc | apply Kd.S_drewN | apply Kd.S_drew)); exact HO204.out))) (below_size (by repeat (first | (with_reducible first | exact HB.out | apply below_alloc | apply pw_below_drewN | apply below_drew1) | exact HB.out)))) (fun _ hk => ⟨hk.2, hk.1.2.1⟩)⟩; have n3_ := Aside0.mk h8N_; have n4_ := Aside0.mk h9N_; clear h8N_ h9N_; have n5_ := Aside0.mk (below_step (by repeat (first | (with_reducible first | exact HB.out | apply below_alloc | apply pw_below_drewN | apply below_drew1) | exact HB.out | exact Below.refl _ _)) hb); clear HO194; clear HO197; clear HO201; clear HO204; clear HB; have HO194 := n0_; have HO197 := n1_; have HO201 := n2_; have HO204 := n3_; have HO207 := n4_; have HB := n5_; clear n0_ n1_ n2_ n3_ n4_ n5_; (try clear hb); (try clear hb2); (try clear hk); (try clear hi); (try clear ho0); obtain ⟨Ao21, co21, eo21⟩ := Kd.S_slice HO204.out; subst eo21; obtain ⟨Ao22, co22, eo22⟩ := Kd.S_slice HO207.out; subst eo22) | ((with_reducible refine gate_callee (f := 42) rfl ?_); refine goesL_ (some 42) rfl rfl Try.func42 (by kernel_rfl) rfl #[.slice Ao21 t202.length co21, .slice Ao22 t205.length co22] rfl (by (try simp only [List.map_toArray, List.map_cons, List.map_nil]); first | done | rfl | (simp only [List.length_drop, List.length_take]; rfl)) ?_; (with_reducible refine (impl_CountInState.calls k _ _ t202 _ _ t205 t208 t209 _ ?side1 ?side2 ?side3 ?side4 A12.out).mono ?_); (case side1 => repeat (first | exact (Kd.S_reads' HO204.out).2.2 | (with_reducible refine Kd.C_alloc ?_ _) | (with_reducible refine Kd.C_drewN ?_ _) | (with_reducible refine Kd.C_drew ?_))); (case side2 => exact (Kd.S_reads' HO204.out).2.1); (case side3 => repeat (first | exact (Kd.S_reads' HO207.out).2.2 | (with_reducible refine Kd.C_alloc ?_ _) | (with_reducible refine Kd.C_drewN ?_ _) | (with_reducible refine Kd.C_drew ?_))); (case side4 => exact (Kd.S_reads' HO207.out).2.1); rintro e w23 ⟨v210, rfl, ho0, hb⟩; refine ⟨_, rfl, ?_⟩; have n0_ := Aside0.mk (Kd.S_below (by (with_reducible repeat (first | apply Kd.S_alloc | apply Kd.S_drewN | apply Kd.S_drew)); exact HO194.out) hb); have n1_ := Aside0.mk (Kd.S_below (by (with_reducible repeat (first | apply Kd.S_alloc | apply Kd.S_drewN | apply Kd.S_drew)); exact HO197.out) hb); have n2_ := Aside0.mk (Kd.R_elder' (by (with_reducible repeat (first | apply Kd.R_alloc | apply Kd.R_drewN | apply Kd.R_drew)); exact HO201.out) (Kd.R_base ho0) hb); have n3_ := Aside0.mk (Kd.S_below (by (with_reducible repeat (first | apply Kd.S_alloc | apply Kd.S_drewN | apply Kd.S_drew)); exact HO204.out) hb); have n4_ := Aside0.mk (Kd.S_below (by (with_reducible repeat (first | apply Kd.S_alloc | apply Kd.S_drewN | apply Kd.S_drew)); exact HO207.out) hb); have n5_ := Aside0.mk (Kd.R_lower (Kd.R_new' ho0 (Kd.R_lt (by (with_reducible repeat (first | apply Kd.R_alloc | apply Kd.R_drewN | apply Kd.R_drew)); exact HO201.out))) (below_size (by repeat (first | (with_reducible first | exact HB.out | apply below_alloc | apply pw_below_drewN | apply below_drew1) | exact HB.out | exact Below.refl _ _)))); have n6_ := Aside0.mk (below_step (by repeat (first | (with_reducible first | exact HB.out | apply below_alloc | apply pw_below_drewN | apply below_drew1) | exact HB.out | exact Below.refl _ _)) hb); clear HO194; clear HO197; clear HO201; clear HO204; clear HO207; clear HB; have HO194 := n0_; have HO197 := n1_; have HO201 := n2_; have HO204 := n3_; have HO207 := n4_; have HO211 := n5_; have HB := n6_; clear n0_ n1_ n2_ n3_ n4_ n5_ n6_; (try clear hb); (try clear hb2); (try clear hk); (try clear hi); (try clear ho0)))
      (try simp only [Act.put, List.setIfInBounds_toArray, List.set_cons_zero, List.set_cons_succ])
      go_cut [53] (fun v53 wc => ∃ (kq : Nat) (x53_12 : Bool), v53 = .bool x53_12 ∧ Aside0 (laws_FnExactCountInState.j0 kq l0 l1 t198 t199 t202 t205 t208 t209 x53_12 = some r) ∧ Aside0 (kq ≤ k) ∧ Aside0 (Kd.R (Kd.int .i64) 3 wc w.heap.size (fun k_ => some k_ ≠ (v210 : Value).ownBlock) v200 t198) ∧ Aside0 (Kd.S (Kd.slice 9 Kd.string) 27 wc w.heap.size (fun k_ => some k_ ≠ ((.slice Ao22 t205.length co22) : Value).ownBlock ∧ k_ < N_) (.slice Ao21 t202.length co21) t202) ∧ Aside0 (Kd.S (Kd.slice 9 Kd.string) 27 wc w.heap.size (fun k_ => some k_ ≠ ((.slice Ao21 t202.length co21) : Value).ownBlock ∧ N_ ≤ k_) (.slice Ao22 t205.length co22) t205) ∧ Aside0 (Kd.R (Kd.int .i64) 3 wc w.heap.size (fun k_ => some k_ ≠ (v200 : Value).ownBlock) v210 t208) ∧ Aside0 (Below w.heap.size w wc))
      case first =>
        have H := HC13.out
        clear HC13
        replace H := Option.bind_eq_some_iff.mp H
        obtain ⟨t212, A240, H⟩ := H
        replace H : (if t212 = true then (laws_FnExactCountInState.j0 k l0 l1 t198 t199 t202 t205 t208 t209 (t209 != t199)) else (laws_FnExactCountInState.j0 k l0 l1 t198 t199 t202 t205 t208 t209 true)) = some r := H
        have A24 := Aside0.mk A240
        clear A240
        by_cases c25 : t212 = true
        · subst c25
          have H1 : (laws_FnExactCountInState.j0 k l0 l1 t198 t199 t202 t205 t208 t209 (t209 != t199)) = some r := by rw [if_pos rfl] at H; exact H
          clear H
          have H := H1
          clear H1
          have H' := Aside0.mk H
          clear H
          obtain ⟨Ao26, co26, eo26⟩ := Kd.R_slice HO211.out
          subst eo26
          obtain ⟨Ao27, co27, eo27⟩ := Kd.R_slice HO201.out
          subst eo27
          go_wp2_with (first | ((with_reducible refine gate_callee (f := 26) rfl ?_); refine goesL_ (some 47) rfl rfl Try.func26 (by kernel_rfl) rfl #[.slice Ao26 t208.length co26, .slice Ao27 t198.length co27] rfl (by (try simp only [List.map_toArray, List.map_cons, List.map_nil]); first | done | rfl | (simp only [List.length_drop, List.length_take]; rfl)) ?_; (with_reducible refine (laws_eqIntS.calls k _ _ t208 _ _ t198 true _ ?side1 ?side2 ?side3 ?side4 A24.out).mono ?_); (case side1 => repeat (first | exact (Kd.R_reads' HO211.out).2.2 | (with_reducible refine Kd.C_alloc ?_ _) | (with_reducible refine Kd.C_drewN ?_ _) | (with_reducible refine Kd.C_drew ?_))); (case side2 => exact (Kd.R_reads' HO211.out).2.1); (case side3 => repeat (first | exact (Kd.R_reads' HO201.out).2.2 | (with_reducible refine Kd.C_alloc ?_ _) | (with_reducible refine Kd.C_drewN ?_ _) | (with_reducible refine Kd.C_drew ?_))); (case side4 => exact (Kd.R_reads' HO201.out).2.1); rintro e w' ⟨rfl, ⟨nd, rfl⟩⟩; refine ⟨_, rfl, ?_⟩))
          go_meet
          case rel => exact ⟨_, ((t209 != t199)), (by first | rfl | (simp; done) | (simp [*]; done)), H', ⟨by first | omega | exact Nat.le_refl _⟩, ⟨by (with_reducible repeat (first | apply Kd.R_alloc | apply Kd.R_drewN | apply Kd.R_drew)); exact Kd.R_mono HO201.out (fun _ hk => hk.2)⟩, ⟨by (with_reducible repeat (first | apply Kd.S_alloc | apply Kd.S_drewN | apply Kd.S_drew)); exact HO204.out⟩, ⟨by (with_reducible repeat (first | apply Kd.S_alloc | apply Kd.S_drewN | apply Kd.S_drew)); exact HO207.out⟩, ⟨by (with_reducible repeat (first | apply Kd.R_alloc | apply Kd.R_drewN | apply Kd.R_drew)); exact Kd.R_mono HO211.out (fun _ hk => hk.2)⟩, ⟨by repeat (first | (with_reducible first | exact HB.out | apply below_alloc | apply pw_below_drewN | apply below_drew1) | exact HB.out | exact Below.refl _ _)⟩⟩
        · replace c25 := Bool.eq_false_iff.mpr c25
          subst c25
          have H1 : (laws_FnExactCountInState.j0 k l0 l1 t198 t199 t202 t205 t208 t209 true) = some r := by rw [if_neg (show ¬ (false = true) by decide)] at H; exact H
          clear H
          have H := H1
          clear H1
          have H' := Aside0.mk H
          clear H
          obtain ⟨Ao28, co28, eo28⟩ := Kd.R_slice HO211.out
          subst eo28
          obtain ⟨Ao29, co29, eo29⟩ := Kd.R_slice HO201.out
          subst eo29
          go_wp2_with (first | ((with_reducible refine gate_callee (f := 26) rfl ?_); refine goesL_ (some 47) rfl rfl Try.func26 (by kernel_rfl) rfl #[.slice Ao28 t208.length co28, .slice Ao29 t198.length co29] rfl (by (try simp only [List.map_toArray, List.map_cons, List.map_nil]); first | done | rfl | (simp only [List.length_drop, List.length_take]; rfl)) ?_; (with_reducible refine (laws_eqIntS.calls k _ _ t208 _ _ t198 false _ ?side1 ?side2 ?side3 ?side4 A24.out).mono ?_); (case side1 => repeat (first | exact (Kd.R_reads' HO211.out).2.2 | (with_reducible refine Kd.C_alloc ?_ _) | (with_reducible refine Kd.C_drewN ?_ _) | (with_reducible refine Kd.C_drew ?_))); (case side2 => exact (Kd.R_reads' HO211.out).2.1); (case side3 => repeat (first | exact (Kd.R_reads' HO201.out).2.2 | (with_reducible refine Kd.C_alloc ?_ _) | (with_reducible refine Kd.C_drewN ?_ _) | (with_reducible refine Kd.C_drew ?_))); (case side4 => exact (Kd.R_reads' HO201.out).2.1); rintro e w' ⟨rfl, ⟨nd, rfl⟩⟩; refine ⟨_, rfl, ?_⟩))
          go_meet
          case rel => exact ⟨_, (true), (by first | rfl | (simp; done) | (simp [*]; done)), H', ⟨by first | omega | exact Nat.le_refl _⟩, ⟨by (with_reducible repeat (first | apply Kd.R_alloc | apply Kd.R_drewN | apply Kd.R_drew)); exact Kd.R_mono HO201.out (fun _ hk => hk.2)⟩, ⟨by (with_reducible repeat (first | apply Kd.S_alloc | apply Kd.S_drewN | apply Kd.S_drew)); exact HO204.out⟩, ⟨by (with_reducible repeat (first | apply Kd.S_alloc | apply Kd.S_drewN | apply Kd.S_drew)); exact HO207.out⟩, ⟨by (with_reducible repeat (first | apply Kd.R_alloc | apply Kd.R_drewN | apply Kd.R_drew)); exact Kd.R_mono HO211.out (fun _ hk => hk.2)⟩, ⟨by repeat (first | (with_reducible first | exact HB.out | apply below_alloc | apply pw_below_drewN | apply below_drew1) | exact HB.out | exact Below.refl _ _)⟩⟩
      case rest =>
        clear HC13
        try clear c1
        try clear c2
        try clear p2
        try clear c4
        try clear c4b0
        try clear c6
        try clear c6b0
        try clear c11
        try clear c14
        try clear c16
        try clear c25
        try clear c26
        obtain ⟨kq, x53_12, rfl, HA, HJ12, HO_6, HO_8, HO_9, HO_10, HB⟩ := hcut
        cases kq with
        | zero => exact absurd HA.out (by simp [laws_FnExactCountInState.j0])
        | succ kj12 =>
          have H := HA.out
          clear HA
          simp only [laws_FnExactCountInState.j0] at H
          by_cases c30 : x53_12 = true
          · subst c30
            have H1 : (some false) = some r := by rw [if_pos rfl] at H; exact H
            clear H
            have H := H1
            clear H1
            obtain rfl := Option.some.inj H
            go_wp2
            go_ret
            exact ⟨by first | rfl | (simp [errW_none, errW_some] <;> rfl) | (simp [*, errW_none, errW_some] <;> rfl), by repeat (first | (with_reducible first | exact HB.out | apply below_alloc | apply pw_below_drewN | apply below_drew1) | exact HB.out | exact Below.refl _ _)⟩
          · replace c30 := Bool.eq_false_iff.mpr c30
            subst c30
            have H1 : ((laws_toStringSS.f kj12 l0).bind fun t213 => ((laws_eqStringSS.f kj12 t202 t213).bind fun t216 => (if t216 = true then ((laws_toStringSS.f kj12 l1).bind fun t217 => ((laws_eqStringSS.f kj12 t205 t217).bind fun t220 => (if t220 = true then ((laws_markStringSS.f kj12 t202 1).bind fun t221 => ((laws_markStringSS.f kj12 t205 t221).bind fun t222 => (if t222 < 0 then (laws_FnExactCountInState.j1 kj12 l0 l1 t198 t199 t208 true) else ((laws_eqIntS.f kj12 t208 t198).bind fun t223 => (if t223 = true then (laws_FnExactCountInState.j1 kj12 l0 l1 t198 t199 t208 (t209 != t199)) else (laws_FnExactCountInState.j1 kj12 l0 l1 t198 t199 t208 true)))))) else (some false)))) else (some false)))) = some r := by rw [if_neg (show ¬ (false = true) by decide)] at H; exact H
            clear H
            have H := H1
            clear H1
            replace H := Option.bind_eq_some_iff.mp H
            obtain ⟨t213, A310, H⟩ := H
            replace H : ((laws_eqStringSS.f kj12 t202 t213).bind fun t216 => (if t216 = true then ((laws_toStringSS.f kj12 l1).bind fun t217 => ((laws_eqStringSS.f kj12 t205 t217).bind fun t220 => (if t220 = true then ((laws_markStringSS.f kj12 t202 1).bind fun t221 => ((laws_markStringSS.f kj12 t205 t221).bind fun t222 => (if t222 < 0 then (laws_FnExactCountInState.j1 kj12 l0 l1 t198 t199 t208 true) else ((laws_eqIntS.f kj12 t208 t198).bind fun t223 => (if t223 = true then (laws_FnExactCountInState.j1 kj12 l0 l1 t198 t199 t208 (t209 != t199)) else (laws_FnExactCountInState.j1 kj12 l0 l1 t198 t199 t208 true)))))) else (some false)))) else (some false))) = some r := H
            have A31 := Aside0.mk A310
            clear A310
            replace H := Option.bind_eq_some_iff.mp H
            obtain ⟨t216, A320, H⟩ := H
            replace H : (if t216 = true then ((laws_toStringSS.f kj12 l1).bind fun t217 => ((laws_eqStringSS.f kj12 t205 t217).bind fun t220 => (if t220 = true then ((laws_markStringSS.f kj12 t202 1).bind fun t221 => ((laws_markStringSS.f kj12 t205 t221).bind fun t222 => (if t222 < 0 then (laws_FnExactCountInState.j1 kj12 l0 l1 t198 t199 t208 true) else ((laws_eqIntS.f kj12 t208 t198).bind fun t223 => (if t223 = true then (laws_FnExactCountInState.j1 kj12 l0 l1 t198 t199 t208 (t209 != t199)) else (laws_FnExactCountInState.j1 kj12 l0 l1 t198 t199 t208 true)))))) else (some false)))) else (some false)) = some r := H
            have A32 := Aside0.mk A320
            clear A320
            by_cases c33 : t216 = true
            · subst c33
              have H1 : ((laws_toStringSS.f kj12 l1).bind fun t217 => ((laws_eqStringSS.f kj12 t205 t217).bind fun t220 => (if t220 = true then ((laws_markStringSS.f kj12 t202 1).bind fun t221 => ((laws_markStringSS.f kj12 t205 t221).bind fun t222 => (if t222 < 0 then (laws_FnExactCountInState.j1 kj12 l0 l1 t198 t199 t208 true) else ((laws_eqIntS.f kj12 t208 t198).bind fun t223 => (if t223 = true then (laws_FnExactCountInState.j1 kj12 l0 l1 t198 t199 t208 (t209 != t199)) else (laws_FnExactCountInState.j1 kj12 l0 l1 t198 t199 t208 true)))))) else (some false)))) = some r := by rw [if_pos rfl] at H; exact H
              clear H
              have H := H1
              clear H1
              replace H := Option.bind_eq_some_iff.mp H
              obtain ⟨t217, A340, H⟩ := H
              replace H : ((laws_eqStringSS.f kj12 t205 t217).bind fun t220 => (if t220 = true then ((laws_markStringSS.f kj12 t202 1).bind fun t221 => ((laws_markStringSS.f kj12 t205 t221).bind fun t222 => (if t222 < 0 then (laws_FnExactCountInState.j1 kj12 l0 l1 t198 t199 t208 true) else ((laws_eqIntS.f kj12 t208 t198).bind fun t223 => (if t223 = true then (laws_FnExactCountInState.j1 kj12 l0 l1 t198 t199 t208 (t209 != t199)) else (laws_FnExactCountInState.j1 kj12 l0 l1 t198 t199 t208 true)))))) else (some false))) = some r := H
              have A34 := Aside0.mk A340
              clear A340
              replace H := Option.bind_eq_some_iff.mp H
              obtain ⟨t220, A350, H⟩ := H
              replace H : (if t220 = true then ((laws_markStringSS.f kj12 t202 1).bind fun t221 => ((laws_markStringSS.f kj12 t205 t221).bind fun t222 => (if t222 < 0 then (laws_FnExactCountInState.j1 kj12 l0 l1 t198 t199 t208 true) else ((laws_eqIntS.f kj12 t208 t198).bind fun t223 => (if t223 = true then (laws_FnExactCountInState.j1 kj12 l0 l1 t198 t199 t208 (t209 != t199)) else (laws_FnExactCountInState.j1 kj12 l0 l1 t198 t199 t208 true)))))) else (some false)) = some r := H
              have A35 := Aside0.mk A350
              clear A350
              by_cases c36 : t220 = true
              · subst c36
                have H1 : ((laws_markStringSS.f kj12 t202 1).bind fun t221 => ((laws_markStringSS.f kj12 t205 t221).bind fun t222 => (if t222 < 0 then (laws_FnExactCountInState.j1 kj12 l0 l1 t198 t199 t208 true) else ((laws_eqIntS.f kj12 t208 t198).bind fun t223 => (if t223 = true then (laws_FnExactCountInState.j1 kj12 l0 l1 t198 t199 t208 (t209 != t199)) else (laws_FnExactCountInState.j1 kj12 l0 l1 t198 t199 t208 true)))))) = some r := by rw [if_pos rfl] at H; exact H
                clear H
                have H := H1
                clear H1
                replace H := Option.bind_eq_some_iff.mp H
                obtain ⟨t221, A370, H⟩ := H
                replace H : ((laws_markStringSS.f kj12 t205 t221).bind fun t222 => (if t222 < 0 then (laws_FnExactCountInState.j1 kj12 l0 l1 t198 t199 t208 true) else ((laws_eqIntS.f kj12 t208 t198).bind fun t223 => (if t223 = true then (laws_FnExactCountInState.j1 kj12 l0 l1 t198 t199 t208 (t209 != t199)) else (laws_FnExactCountInState.j1 kj12 l0 l1 t198 t199 t208 true))))) = some r := H
                have A37 := Aside0.mk A370
                clear A370
                replace H := Option.bind_eq_some_iff.mp H
                obtain ⟨t222, A380, H⟩ := H
                replace H : (if t222 < 0 then (laws_FnExactCountInState.j1 kj12 l0 l1 t198 t199 t208 true) else ((laws_eqIntS.f kj12 t208 t198).bind fun t223 => (if t223 = true then (laws_FnExactCountInState.j1 kj12 l0 l1 t198 t199 t208 (t209 != t199)) else (laws_FnExactCountInState.j1 kj12 l0 l1 t198 t199 t208 true)))) = some r := H
                have A38 := Aside0.mk A380
                clear A380
                have HC39 := Aside0.mk H
                clear H
                go_upto_region 21 with (first | ((with_reducible refine gate_callee (f := 16) rfl ?_); refine goesL_ (some 56) rfl rfl Try.func16 (by kernel_rfl) rfl #[.slice A0 l0.length c0] rfl (by (try simp only [List.map_toArray, List.map_cons, List.map_nil]); first | done | rfl | (simp only [List.length_drop, List.length_take]; rfl)) ?_; (with_reducible refine (laws_toStringSS.calls kj12 _ _ l0 t213 _ ?side1 ?side2 A31.out).mono ?_); (case side1 => repeat (first | exact (Kd.C_below HR0.out HB.out) | exact HR0.out | (with_reducible refine Kd.C_alloc ?_ _) | (with_reducible refine Kd.C_drewN ?_ _) | (with_reducible refine Kd.C_drew ?_))); (case side2 => exact HC0.out); rintro e w40 ⟨v214, rfl, ho0, hb⟩; refine ⟨_, rfl, ?_⟩; (first | (have n0_ := Aside0.mk (Kd.R_below (by (with_reducible repeat (first | apply Kd.R_alloc | apply Kd.R_drewN | apply Kd.R_drew)); exact HO_6.out) hb)) | (have n0_ := Aside0.mk True.intro)); (first | (have n1_ := Aside0.mk (Kd.S_elder' (by (with_reducible repeat (first | apply Kd.S_alloc | apply Kd.S_drewN | apply Kd.S_drew)); exact HO_8.out) (Kd.S_base ho0) hb)) | (have n1_ := Aside0.mk True.intro)); (first | (have n2_ := Aside0.mk (Kd.S_elder' (by (with_reducible repeat (first | apply Kd.S_alloc | apply Kd.S_drewN | apply Kd.S_drew)); exact HO_9.out) (Kd.S_base ho0) hb)) | (have n2_ := Aside0.mk True.intro)); (first | (have n3_ := Aside0.mk (Kd.R_below (by (with_reducible repeat (first | apply Kd.R_alloc | apply Kd.R_drewN | apply Kd.R_drew)); exact HO_10.out) hb)) | (have n3_ := Aside0.mk True.intro)); (first | (have n4_ := Aside0.mk (Kd.S_lower (Kd.S_new' (Kd.S_new' ho0 (Kd.S_lt (by (with_reducible repeat (first | apply Kd.S_alloc | apply Kd.S_drewN | apply Kd.S_drew)); exact HO_8.out))) (Kd.S_lt (by (with_reducible repeat (first | apply Kd.S_alloc | apply Kd.S_drewN | apply Kd.S_drew)); exact HO_9.out))) (below_size (by repeat (first | (with_reducible first | exact HB.out | apply below_alloc | apply pw_below_drewN | apply below_drew1) | exact HB.out | exact Below.refl _ _))))) | (have n4_ := Aside0.mk True.intro)); have n5_ := Aside0.mk (below_step (by repeat (first | (with_reducible first | exact HB.out | apply below_alloc | apply pw_below_drewN | apply below_drew1) | exact HB.out | exact Below.refl _ _)) hb); clear HO_6; clear HO_8; clear HO_9; clear HO_10; clear HB; have HO_6 := n0_; have HO_8 := n1_; have HO_9 := n2_; have HO_10 := n3_; have HO215 := n4_; have HB := n5_; clear n0_ n1_ n2_ n3_ n4_ n5_; (try clear hb); (try clear hb2); (try clear hk); (try clear hi); (try clear ho0); obtain ⟨Ao41, co41, eo41⟩ := Kd.S_slice HO215.out; subst eo41) | ((with_reducible refine gate_callee (f := 18) rfl ?_); refine goesL_ (some 57) rfl rfl Try.func18 (by kernel_rfl) rfl #[.slice Ao21 t202.length co21, .slice Ao41 t213.length co41] rfl (by (try simp only [List.map_toArray, List.map_cons, List.map_nil]); first | done | rfl | (simp only [List.length_drop, List.length_take]; rfl)) ?_; (with_reducible refine (laws_eqStringSS.calls kj12 _ _ t202 _ _ t213 true _ ?side1 ?side2 ?side3 ?side4 A32.out).mono ?_); (case side1 => repeat (first | exact (Kd.S_reads' HO_8.out).2.2 | (with_reducible refine Kd.C_alloc ?_ _) | (with_reducible refine Kd.C_drewN ?_ _) | (with_reducible refine Kd.C_drew ?_))); (case side2 => exact (Kd.S_reads' HO_8.out).2.1); (case side3 => repeat (first | exact (Kd.S_reads' HO215.out).2.2 | (with_reducible refine Kd.C_alloc ?_ _) | (with_reducible refine Kd.C_drewN ?_ _) | (with_reducible refine Kd.C_drew ?_))); (case side4 => exact (Kd.S_reads' HO215.out).2.1); rintro e w' ⟨rfl, ⟨nd, rfl⟩⟩; refine ⟨_, rfl, ?_⟩) | ((with_reducible refine gate_callee (f := 16) rfl ?_); refine goesL_ (some 61) rfl rfl Try.func16 (by kernel_rfl) rfl #[.slice A1 l1.length c1] rfl (by (try simp only [List.map_toArray, List.map_cons, List.map_nil]); first | done | rfl | (simp only [List.length_drop, List.length_take]; rfl)) ?_; (with_reducible refine (laws_toStringSS.calls kj12 _ _ l1 t217 _ ?side1 ?side2 A34.out).mono ?_); (case side1 => repeat (first | exact (Kd.C_below HR1.out (by repeat (first | (with_reducible first | exact HB.out | apply below_alloc | apply pw_below_drewN | apply below_drew1) | exact HB.out | exact Below.refl _ _))) | (with_reducible refine Kd.C_alloc ?_ _) | (with_reducible refine Kd.C_drewN ?_ _) | (with_reducible refine Kd.C_drew ?_))); (case side2 => exact HC1.out); rintro e w42 ⟨v218, rfl, ho0, hb⟩; refine ⟨_, rfl, ?_⟩; (first | (have n0_ := Aside0.mk (Kd.R_below (by (with_reducible repeat (first | apply Kd.R_alloc | apply Kd.R_drewN | apply Kd.R_drew)); exact HO_6.out) hb)) | (have n0_ := Aside0.mk True.intro)); (first | (have n1_ := Aside0.mk (Kd.S_elder' (by (with_reducible repeat (first | apply Kd.S_alloc | apply Kd.S_drewN | apply Kd.S_drew)); exact HO_8.out) (Kd.S_base ho0) hb)) | (have n1_ := Aside0.mk True.intro)); (first | (have n2_ := Aside0.mk (Kd.S_elder' (by (with_reducible repeat (first | apply Kd.S_alloc | apply Kd.S_drewN | apply Kd.S_drew)); exact HO_9.out) (Kd.S_base ho0) hb)) | (have n2_ := Aside0.mk True.intro)); (first | (have n3_ := Aside0.mk (Kd.R_below (by (with_reducible repeat (first | apply Kd.R_alloc | apply Kd.R_drewN | apply Kd.R_drew)); exact HO_10.out) hb)) | (have n3_ := Aside0.mk True.intro)); (first | (have n4_ := Aside0.mk (Kd.S_elder' (by (with_reducible repeat (first | apply Kd.S_alloc | apply Kd.S_drewN | apply Kd.S_drew)); exact HO215.out) (Kd.S_base ho0) hb)) | (have n4_ := Aside0.mk True.intro)); (first | (have n5_ := Aside0.mk (Kd.S_lower (Kd.S_new' (Kd.S_new' (Kd.S_new' ho0 (Kd.S_lt (by (with_reducible repeat (first | apply Kd.S_alloc | apply Kd.S_drewN | apply Kd.S_drew)); exact HO_8.out))) (Kd.S_lt (by (with_reducible repeat (first | apply Kd.S_alloc | apply Kd.S_drewN | apply Kd.S_drew)); exact HO_9.out))) (Kd.S_lt (by (with_reducible repeat (first | apply Kd.S_alloc | apply Kd.S_drewN | apply Kd.S_drew)); exact HO215.out))) (below_size (by repeat (first | (with_reducible first | exact HB.out | apply below_alloc | apply pw_below_drewN | apply below_drew1) | exact HB.out | exact Below.refl _ _))))) | (have n5_ := Aside0.mk True.intro)); have n6_ := Aside0.mk (below_step (by repeat (first | (with_reducible first | exact HB.out | apply below_alloc | apply pw_below_drewN | apply below_drew1) | exact HB.out | exact Below.refl _ _)) hb); clear HO_6; clear HO_8; clear HO_9; clear HO_10; clear HO215; clear HB; have HO_6 := n0_; have HO_8 := n1_; have HO_9 := n2_; have HO_10 := n3_; have HO215 := n4_; have HO219 := n5_; have HB := n6_; clear n0_ n1_ n2_ n3_ n4_ n5_ n6_; (try clear hb); (try clear hb2); (try clear hk); (try clear hi); (try clear ho0); obtain ⟨Ao43, co43, eo43⟩ := Kd.S_slice HO219.out; subst eo43) | ((with_reducible refine gate_callee (f := 18) rfl ?_); refine goesL_ (some 62) rfl rfl Try.func18 (by kernel_rfl) rfl #[.slice Ao22 t205.length co22, .slice Ao43 t217.length co43] rfl (by (try simp only [List.map_toArray, List.map_cons, List.map_nil]); first | done | rfl | (simp only [List.length_drop, List.length_take]; rfl)) ?_; (with_reducible refine (laws_eqStringSS.calls kj12 _ _ t205 _ _ t217 true _ ?side1 ?side2 ?side3 ?side4 A35.out).mono ?_); (case side1 => repeat (first | exact (Kd.S_reads' HO_9.out).2.2 | (with_reducible refine Kd.C_alloc ?_ _) | (with_reducible refine Kd.C_drewN ?_ _) | (with_reducible refine Kd.C_drew ?_))); (case side2 => exact (Kd.S_reads' HO_9.out).2.1); (case side3 => repeat (first | exact (Kd.S_reads' HO219.out).2.2 | (with_reducible refine Kd.C_alloc ?_ _) | (with_reducible refine Kd.C_drewN ?_ _) | (with_reducible refine Kd.C_drew ?_))); (case side4 => exact (Kd.S_reads' HO219.out).2.1); rintro e w' ⟨rfl, ⟨nd, rfl⟩⟩; refine ⟨_, rfl, ?_⟩) | ((with_reducible refine gate_callee (f := 27) rfl ?_); refine goesL_ (some 66) rfl rfl Try.func27 (by kernel_rfl) rfl #[.slice Ao21 t202.length co21, .int .i64 1] rfl (by (try simp only [List.map_toArray, List.map_cons, List.map_nil]); first | done | rfl | (simp only [List.length_drop, List.length_take]; rfl)) ?_; (with_reducible refine (laws_markStringSS.calls kj12 ?p101_ (.slice Ao21 t202.length co21) t202 1 t221 w _ ?side1 ?side2 A37.out).mono ?_); (case side1 => repeat (first | (with_reducible first | exact HB.out | apply below_alloc | apply pw_below_drewN | apply below_drew1) | exact HB.out | exact Below.refl _ _)); (case side2 => exact HO_8.out); rintro e w44 ⟨rfl, hb, hkp⟩; refine ⟨_, rfl, ?_⟩; (first | (have n0_ := Aside0.mk (Kd.R_mono (ok' := fun k_ => some k_ ≠ (v210 : Value).ownBlock) (R_keptT HO_6.out hkp (fun k_ h_ => h_.2) (by decide)) (fun k_ hk_ => by first | exact hk_ | exact hk_.1 | exact hk_.2 | exact hk_.1.1 | exact hk_.1.2 | exact hk_.2.1 | exact hk_.2.2 | exact hk_.1.1.1 | exact hk_.1.1.2 | exact ⟨hk_.1, hk_.2⟩ | exact ⟨hk_.1.1, hk_.1.2⟩ | exact ⟨hk_.1.1, hk_.2⟩ | exact ⟨hk_.1.2, hk_.2⟩ | simp_all))) | (have n0_ := Aside0.mk (Kd.R_mono (ok' := fun k_ => some k_ ≠ (v210 : Value).ownBlock) (Kd.R_reok rfl (Kd.R_kept (Kd.R_tight rfl HO_6.out) hkp (fun k_ e_ h_ => by first | exact h_.1 e_ | exact h_.1.1 e_ | exact h_.1.2 e_ | exact h_.1.1.1 e_ | exact h_.1.1.2 e_ | exact h_.1.2.1 e_ | exact h_.1.2.2 e_ | simp_all)) (fun k_ e_ => HO_6.out.1 k_ e_)) (fun k_ hk_ => by first | exact hk_ | exact hk_.1 | exact hk_.2 | exact hk_.1.1 | exact hk_.1.2 | exact hk_.2.1 | exact hk_.2.2 | exact hk_.1.1.1 | exact hk_.1.1.2 | exact ⟨hk_.1, hk_.2⟩ | exact ⟨hk_.1.1, hk_.1.2⟩ | exact ⟨hk_.1.1, hk_.2⟩ | exact ⟨hk_.1.2, hk_.2⟩ | simp_all))) | (have n0_ := Aside0.mk True.intro)); (first | (have n1_ := Aside0.mk (Kd.S_mono (ok' := fun k_ => some k_ ≠ (.slice Ao41 t213.length co41 : Value).ownBlock ∧ some k_ ≠ (.slice Ao43 t217.length co43 : Value).ownBlock) (Kd.S_kept HO_9.out hkp (fun k_ h9_ h8_ => absurd h8_.1.1.1.2 (Nat.not_lt.mpr h9_.1.1.2))) (fun k_ hk_ => ⟨hk_.1.2, hk_.2⟩))) | (have n1_ := Aside0.mk (Kd.R_mono (ok' := fun k_ => some k_ ≠ (.slice Ao41 t213.length co41 : Value).ownBlock ∧ some k_ ≠ (.slice Ao43 t217.length co43 : Value).ownBlock) (R_keptT HO_9.out hkp (fun k_ h_ => h_.2) (by decide)) (fun k_ hk_ => by first | exact hk_ | exact hk_.1 | exact hk_.2 | exact hk_.1.1 | exact hk_.1.2 | exact hk_.2.1 | exact hk_.2.2 | exact hk_.1.1.1 | exact hk_.1.1.2 | exact ⟨hk_.1, hk_.2⟩ | exact ⟨hk_.1.1, hk_.1.2⟩ | exact ⟨hk_.1.1, hk_.2⟩ | exact ⟨hk_.1.2, hk_.2⟩ | simp_all))) | (have n1_ := Aside0.mk (Kd.R_mono (ok' := fun k_ => some k_ ≠ (.slice Ao41 t213.length co41 : Value).ownBlock ∧ some k_ ≠ (.slice Ao43 t217.length co43 : Value).ownBlock) (Kd.R_reok rfl (Kd.R_kept (Kd.R_tight rfl HO_9.out) hkp (fun k_ e_ h_ => by first | exact h_.1 e_ | exact h_.1.1 e_ | exact h_.1.2 e_ | exact h_.1.1.1 e_ | exact h_.1.1.2 e_ | exact h_.1.2.1 e_ | exact h_.1.2.2 e_ | simp_all)) (fun k_ e_ => HO_9.out.1 k_ e_)) (fun k_ hk_ => by first | exact hk_ | exact hk_.1 | exact hk_.2 | exact hk_.1.1 | exact hk_.1.2 | exact hk_.2.1 | exact hk_.2.2 | exact hk_.1.1.1 | exact hk_.1.1.2 | exact ⟨hk_.1, hk_.2⟩ | exact ⟨hk_.1.1, hk_.1.2⟩ | exact ⟨hk_.1.1, hk_.2⟩ | exact ⟨hk_.1.2, hk_.2⟩ | simp_all))) | (have n1_ := Aside0.mk True.intro)); (first | (have n2_ := Aside0.mk (Kd.R_mono (ok' := fun k_ => some k_ ≠ (v200 : Value).ownBlock) (R_keptT HO_10.out hkp (fun k_ h_ => h_.2) (by decide)) (fun k_ hk_ => by first | exact hk_ | exact hk_.1 | exact hk_.2 | exact hk_.1.1 | exact hk_.1.2 | exact hk_.2.1 | exact hk_.2.2 | exact hk_.1.1.1 | exact hk_.1.1.2 | exact ⟨hk_.1, hk_.2⟩ | exact ⟨hk_.1.1, hk_.1.2⟩ | exact ⟨hk_.1.1, hk_.2⟩ | exact ⟨hk_.1.2, hk_.2⟩ | simp_all))) | (have n2_ := Aside0.mk (Kd.R_mono (ok' := fun k_ => some k_ ≠ (v200 : Value).ownBlock) (Kd.R_reok rfl (Kd.R_kept (Kd.R_tight rfl HO_10.out) hkp (fun k_ e_ h_ => by first | exact h_.1 e_ | exact h_.1.1 e_ | exact h_.1.2 e_ | exact h_.1.1.1 e_ | exact h_.1.1.2 e_ | exact h_.1.2.1 e_ | exact h_.1.2.2 e_ | simp_all)) (fun k_ e_ => HO_10.out.1 k_ e_)) (fun k_ hk_ => by first | exact hk_ | exact hk_.1 | exact hk_.2 | exact hk_.1.1 | exact hk_.1.2 | exact hk_.2.1 | exact hk_.2.2 | exact hk_.1.1.1 | exact hk_.1.1.2 | exact ⟨hk_.1, hk_.2⟩ | exact ⟨hk_.1.1, hk_.1.2⟩ | exact ⟨hk_.1.1, hk_.2⟩ | exact ⟨hk_.1.2, hk_.2⟩ | simp_all))) | (have n2_ := Aside0.mk True.intro)); (first | (have n3_ := Aside0.mk (Kd.R_mono (ok' := fun k_ => some k_ ≠ (.slice Ao22 t205.length co22 : Value).ownBlock ∧ some k_ ≠ (.slice Ao43 t217.length co43 : Value).ownBlock) (R_keptT HO215.out hkp (fun k_ h_ => h_.2) (by decide)) (fun k_ hk_ => by first | exact hk_ | exact hk_.1 | exact hk_.2 | exact hk_.1.1 | exact hk_.1.2 | exact hk_.2.1 | exact hk_.2.2 | exact hk_.1.1.1 | exact hk_.1.1.2 | exact ⟨hk_.1, hk_.2⟩ | exact ⟨hk_.1.1, hk_.1.2⟩ | exact ⟨hk_.1.1, hk_.2⟩ | exact ⟨hk_.1.2, hk_.2⟩ | simp_all))) | (have n3_ := Aside0.mk (Kd.R_mono (ok' := fun k_ => some k_ ≠ (.slice Ao22 t205.length co22 : Value).ownBlock ∧ some k_ ≠ (.slice Ao43 t217.length co43 : Value).ownBlock) (Kd.R_reok rfl (Kd.R_kept (Kd.R_tight rfl HO215.out) hkp (fun k_ e_ h_ => by first | exact h_.1 e_ | exact h_.1.1 e_ | exact h_.1.2 e_ | exact h_.1.1.1 e_ | exact h_.1.1.2 e_ | exact h_.1.2.1 e_ | exact h_.1.2.2 e_ | simp_all)) (fun k_ e_ => HO215.out.1 k_ e_)) (fun k_ hk_ => by first | exact hk_ | exact hk_.1 | exact hk_.2 | exact hk_.1.1 | exact hk_.1.2 | exact hk_.2.1 | exact hk_.2.2 | exact hk_.1.1.1 | exact hk_.1.1.2 | exact ⟨hk_.1, hk_.2⟩ | exact ⟨hk_.1.1, hk_.1.2⟩ | exact ⟨hk_.1.1, hk_.2⟩ | exact ⟨hk_.1.2, hk_.2⟩ | simp_all))) | (have n3_ := Aside0.mk True.intro)); (first | (have n4_ := Aside0.mk (Kd.R_mono (ok' := fun k_ => some k_ ≠ (.slice Ao22 t205.length co22 : Value).ownBlock ∧ some k_ ≠ (.slice Ao41 t213.length co41 : Value).ownBlock) (R_keptT HO219.out hkp (fun k_ h_ => h_.2) (by decide)) (fun k_ hk_ => by first | exact hk_ | exact hk_.1 | exact hk_.2 | exact hk_.1.1 | exact hk_.1.2 | exact hk_.2.1 | exact hk_.2.2 | exact hk_.1.1.1 | exact hk_.1.1.2 | exact ⟨hk_.1, hk_.2⟩ | exact ⟨hk_.1.1, hk_.1.2⟩ | exact ⟨hk_.1.1, hk_.2⟩ | exact ⟨hk_.1.2, hk_.2⟩ | simp_all))) | (have n4_ := Aside0.mk (Kd.R_mono (ok' := fun k_ => some k_ ≠ (.slice Ao22 t205.length co22 : Value).ownBlock ∧ some k_ ≠ (.slice Ao41 t213.length co41 : Value).ownBlock) (Kd.R_reok rfl (Kd.R_kept (Kd.R_tight rfl HO219.out) hkp (fun k_ e_ h_ => by first | exact h_.1 e_ | exact h_.1.1 e_ | exact h_.1.2 e_ | exact h_.1.1.1 e_ | exact h_.1.1.2 e_ | exact h_.1.2.1 e_ | exact h_.1.2.2 e_ | simp_all)) (fun k_ e_ => HO219.out.1 k_ e_)) (fun k_ hk_ => by first | exact hk_ | exact hk_.1 | exact hk_.2 | exact hk_.1.1 | exact hk_.1.2 | exact hk_.2.1 | exact hk_.2.2 | exact hk_.1.1.1 | exact hk_.1.1.2 | exact ⟨hk_.1, hk_.2⟩ | exact ⟨hk_.1.1, hk_.1.2⟩ | exact ⟨hk_.1.1, hk_.2⟩ | exact ⟨hk_.1.2, hk_.2⟩ | simp_all))) | (have n4_ := Aside0.mk True.intro)); have n5_ := Aside0.mk (hb); clear HO_6; clear HO_9; clear HO_10; clear HO215; clear HO219; clear HB; clear HO_8; have HO_6 := n0_; have HO_9 := n1_; have HO_10 := n2_; have HO215 := n3_; have HO219 := n4_; have HB := n5_; clear n0_ n1_ n2_ n3_ n4_ n5_; (try clear hb); (try clear hkp)) | ((with_reducible refine gate_callee (f := 27) rfl ?_); refine goesL_ (some 69) rfl rfl Try.func27 (by kernel_rfl) rfl #[.slice Ao22 t205.length co22, .int .i64 t221] rfl (by (try simp only [List.map_toArray, List.map_cons, List.map_nil]); first | done | rfl | (simp only [List.length_drop, List.length_take]; rfl)) ?_; (with_reducible refine (laws_markStringSS.calls kj12 ?p102_ (.slice Ao22 t205.length co22) t205 t221 t222 w _ ?side1 ?side2 A38.out).mono ?_); (case side1 => repeat (first | (with_reducible first | exact HB.out | apply below_alloc | apply pw_below_drewN | apply below_drew1) | exact HB.out | exact Below.refl _ _)); (case side2 => exact HO_9.out); rintro e w45 ⟨rfl, hb, hkp⟩; refine ⟨_, rfl, ?_⟩; (first | (have n0_ := Aside0.mk (Kd.R_mono (ok' := fun k_ => some k_ ≠ (v210 : Value).ownBlock) (R_keptT HO_6.out hkp (fun k_ h_ => h_.2) (by decide)) (fun k_ hk_ => by first | exact hk_ | exact hk_.1 | exact hk_.2 | exact hk_.1.1 | exact hk_.1.2 | exact hk_.2.1 | exact hk_.2.2 | exact hk_.1.1.1 | exact hk_.1.1.2 | exact ⟨hk_.1, hk_.2⟩ | exact ⟨hk_.1.1, hk_.1.2⟩ | exact ⟨hk_.1.1, hk_.2⟩ | exact ⟨hk_.1.2, hk_.2⟩ | simp_all))) | (have n0_ := Aside0.mk (Kd.R_mono (ok' := fun k_ => some k_ ≠ (v210 : Value).ownBlock) (Kd.R_reok rfl (Kd.R_kept (Kd.R_tight rfl HO_6.out) hkp (fun k_ e_ h_ => by first | exact h_.1 e_ | exact h_.1.1 e_ | exact h_.1.2 e_ | exact h_.1.1.1 e_ | exact h_.1.1.2 e_ | exact h_.1.2.1 e_ | exact h_.1.2.2 e_ | simp_all)) (fun k_ e_ => HO_6.out.1 k_ e_)) (fun k_ hk_ => by first | exact hk_ | exact hk_.1 | exact hk_.2 | exact hk_.1.1 | exact hk_.1.2 | exact hk_.2.1 | exact hk_.2.2 | exact hk_.1.1.1 | exact hk_.1.1.2 | exact ⟨hk_.1, hk_.2⟩ | exact ⟨hk_.1.1, hk_.1.2⟩ | exact ⟨hk_.1.1, hk_.2⟩ | exact ⟨hk_.1.2, hk_.2⟩ | simp_all))) | (have n0_ := Aside0.mk True.intro)); (first | (have n1_ := Aside0.mk (Kd.R_mono (ok' := fun k_ => some k_ ≠ (v200 : Value).ownBlock) (R_keptT HO_10.out hkp (fun k_ h_ => h_.2) (by decide)) (fun k_ hk_ => by first | exact hk_ | exact hk_.1 | exact hk_.2 | exact hk_.1.1 | exact hk_.1.2 | exact hk_.2.1 | exact hk_.2.2 | exact hk_.1.1.1 | exact hk_.1.1.2 | exact ⟨hk_.1, hk_.2⟩ | exact ⟨hk_.1.1, hk_.1.2⟩ | exact ⟨hk_.1.1, hk_.2⟩ | exact ⟨hk_.1.2, hk_.2⟩ | simp_all))) | (have n1_ := Aside0.mk (Kd.R_mono (ok' := fun k_ => some k_ ≠ (v200 : Value).ownBlock) (Kd.R_reok rfl (Kd.R_kept (Kd.R_tight rfl HO_10.out) hkp (fun k_ e_ h_ => by first | exact h_.1 e_ | exact h_.1.1 e_ | exact h_.1.2 e_ | exact h_.1.1.1 e_ | exact h_.1.1.2 e_ | exact h_.1.2.1 e_ | exact h_.1.2.2 e_ | simp_all)) (fun k_ e_ => HO_10.out.1 k_ e_)) (fun k_ hk_ => by first | exact hk_ | exact hk_.1 | exact hk_.2 | exact hk_.1.1 | exact hk_.1.2 | exact hk_.2.1 | exact hk_.2.2 | exact hk_.1.1.1 | exact hk_.1.1.2 | exact ⟨hk_.1, hk_.2⟩ | exact ⟨hk_.1.1, hk_.1.2⟩ | exact ⟨hk_.1.1, hk_.2⟩ | exact ⟨hk_.1.2, hk_.2⟩ | simp_all))) | (have n1_ := Aside0.mk True.intro)); (first | (have n2_ := Aside0.mk (Kd.R_mono (ok' := fun k_ => some k_ ≠ (.slice Ao43 t217.length co43 : Value).ownBlock) (R_keptT HO215.out hkp (fun k_ h_ => h_.2) (by decide)) (fun k_ hk_ => by first | exact hk_ | exact hk_.1 | exact hk_.2 | exact hk_.1.1 | exact hk_.1.2 | exact hk_.2.1 | exact hk_.2.2 | exact hk_.1.1.1 | exact hk_.1.1.2 | exact ⟨hk_.1, hk_.2⟩ | exact ⟨hk_.1.1, hk_.1.2⟩ | exact ⟨hk_.1.1, hk_.2⟩ | exact ⟨hk_.1.2, hk_.2⟩ | simp_all))) | (have n2_ := Aside0.mk (Kd.R_mono (ok' := fun k_ => some k_ ≠ (.slice Ao43 t217.length co43 : Value).ownBlock) (Kd.R_reok rfl (Kd.R_kept (Kd.R_tight rfl HO215.out) hkp (fun k_ e_ h_ => by first | exact h_.1 e_ | exact h_.1.1 e_ | exact h_.1.2 e_ | exact h_.1.1.1 e_ | exact h_.1.1.2 e_ | exact h_.1.2.1 e_ | exact h_.1.2.2 e_ | simp_all)) (fun k_ e_ => HO215.out.1 k_ e_)) (fun k_ hk_ => by first | exact hk_ | exact hk_.1 | exact hk_.2 | exact hk_.1.1 | exact hk_.1.2 | exact hk_.2.1 | exact hk_.2.2 | exact hk_.1.1.1 | exact hk_.1.1.2 | exact ⟨hk_.1, hk_.2⟩ | exact ⟨hk_.1.1, hk_.1.2⟩ | exact ⟨hk_.1.1, hk_.2⟩ | exact ⟨hk_.1.2, hk_.2⟩ | simp_all))) | (have n2_ := Aside0.mk True.intro)); (first | (have n3_ := Aside0.mk (Kd.R_mono (ok' := fun k_ => some k_ ≠ (.slice Ao41 t213.length co41 : Value).ownBlock) (R_keptT HO219.out hkp (fun k_ h_ => h_.2) (by decide)) (fun k_ hk_ => by first | exact hk_ | exact hk_.1 | exact hk_.2 | exact hk_.1.1 | exact hk_.1.2 | exact hk_.2.1 | exact hk_.2.2 | exact hk_.1.1.1 | exact hk_.1.1.2 | exact ⟨hk_.1, hk_.2⟩ | exact ⟨hk_.1.1, hk_.1.2⟩ | exact ⟨hk_.1.1, hk_.2⟩ | exact ⟨hk_.1.2, hk_.2⟩ | simp_all))) | (have n3_ := Aside0.mk (Kd.R_mono (ok' := fun k_ => some k_ ≠ (.slice Ao41 t213.length co41 : Value).ownBlock) (Kd.R_reok rfl (Kd.R_kept (Kd.R_tight rfl HO219.out) hkp (fun k_ e_ h_ => by first | exact h_.1 e_ | exact h_.1.1 e_ | exact h_.1.2 e_ | exact h_.1.1.1 e_ | exact h_.1.1.2 e_ | exact h_.1.2.1 e_ | exact h_.1.2.2 e_ | simp_all)) (fun k_ e_ => HO219.out.1 k_ e_)) (fun k_ hk_ => by first | exact hk_ | exact hk_.1 | exact hk_.2 | exact hk_.1.1 | exact hk_.1.2 | exact hk_.2.1 | exact hk_.2.2 | exact hk_.1.1.1 | exact hk_.1.1.2 | exact ⟨hk_.1, hk_.2⟩ | exact ⟨hk_.1.1, hk_.1.2⟩ | exact ⟨hk_.1.1, hk_.2⟩ | exact ⟨hk_.1.2, hk_.2⟩ | simp_all))) | (have n3_ := Aside0.mk True.intro)); have n4_ := Aside0.mk (hb); clear HO_6; clear HO_10; clear HO215; clear HO219; clear HB; clear HO_9; have HO_6 := n0_; have HO_10 := n1_; have HO215 := n2_; have HO219 := n3_; have HB := n4_; clear n0_ n1_ n2_ n3_ n4_; (try clear hb); (try clear hkp)))
                (try simp only [Act.put, List.setIfInBounds_toArray, List.set_cons_zero, List.set_cons_succ])
                go_cut [82] (fun v82 wc => ∃ (kq : Nat) (x82_38 : Bool), v82 = .bool x82_38 ∧ Aside0 (laws_FnExactCountInState.j1 kq l0 l1 t198 t199 t208 x82_38 = some r) ∧ Aside0 (kq ≤ kj12) ∧ Aside0 (Kd.R (Kd.int .i64) 3 wc w.heap.size (fun k_ => some k_ ≠ (v210 : Value).ownBlock) v200 t198) ∧ Aside0 (Kd.R (Kd.int .i64) 3 wc w.heap.size (fun k_ => some k_ ≠ (v200 : Value).ownBlock) v210 t208) ∧ Aside0 (Below w.heap.size w wc))
                case first =>
                  have H := HC39.out
                  clear HC39
                  by_cases c46 : t222 < 0
                  · rw [if_pos c46] at H
                    have c46b0 : decide (t222 < 0) = true := decide_eq_true c46
                    clear c46
                    (first | rw [c46b0] | (simp only [i64_w, i32_w]; rw [c46b0]) | skip)
                    have H' := Aside0.mk H
                    clear H
                    go_wp2
                    go_meet
                    case rel => exact ⟨_, (true), (by first | rfl | (simp; done) | (simp [*]; done)), H', ⟨by have := HJ12.out; first | omega | exact Nat.le_refl _⟩, ⟨by (with_reducible repeat (first | apply Kd.R_alloc | apply Kd.R_drewN | apply Kd.R_drew)); exact HO_6.out⟩, ⟨by (with_reducible repeat (first | apply Kd.R_alloc | apply Kd.R_drewN | apply Kd.R_drew)); exact HO_10.out⟩, ⟨by repeat (first | (with_reducible first | exact HB.out | apply below_alloc | apply pw_below_drewN | apply below_drew1) | exact HB.out | exact Below.refl _ _)⟩⟩
                  · rw [if_neg c46] at H
                    have c46b0 : decide (t222 < 0) = false := decide_eq_false c46
                    clear c46
                    (first | rw [c46b0] | (simp only [i64_w, i32_w]; rw [c46b0]) | skip)
                    replace H := Option.bind_eq_some_iff.mp H
                    obtain ⟨t223, A470, H⟩ := H
                    replace H : (if t223 = true then (laws_FnExactCountInState.j1 kj12 l0 l1 t198 t199 t208 (t209 != t199)) else (laws_FnExactCountInState.j1 kj12 l0 l1 t198 t199 t208 true)) = some r := H
                    have A47 := Aside0.mk A470
                    clear A470
                    by_cases c48 : t223 = true
                    · subst c48
                      have H1 : (laws_FnExactCountInState.j1 kj12 l0 l1 t198 t199 t208 (t209 != t199)) = some r := by rw [if_pos rfl] at H; exact H
                      clear H
                      have H := H1
                      clear H1
                      have H' := Aside0.mk H
                      clear H
                      obtain ⟨Ao49, co49, eo49⟩ := Kd.R_slice HO_10.out
                      subst eo49
                      obtain ⟨Ao50, co50, eo50⟩ := Kd.R_slice HO_6.out
                      subst eo50
                      go_wp2_with (first | (go_at_call 26; (with_reducible refine (laws_eqIntS.calls kj12 _ _ t208 _ _ t198 true _ ?side1 ?side2 ?side3 ?side4 A47.out).mono ?_); (case side1 => repeat (first | exact (Kd.R_reads' HO_10.out).2.2 | (with_reducible refine Kd.C_alloc ?_ _) | (with_reducible refine Kd.C_drewN ?_ _) | (with_reducible refine Kd.C_drew ?_))); (case side2 => exact (Kd.R_reads' HO_10.out).2.1); (case side3 => repeat (first | exact (Kd.R_reads' HO_6.out).2.2 | (with_reducible refine Kd.C_alloc ?_ _) | (with_reducible refine Kd.C_drewN ?_ _) | (with_reducible refine Kd.C_drew ?_))); (case side4 => exact (Kd.R_reads' HO_6.out).2.1); rintro e w' ⟨rfl, ⟨nd, rfl⟩⟩))
                      go_meet
                      case rel => exact ⟨_, ((t209 != t199)), (by first | rfl | (simp; done) | (simp [*]; done)), H', ⟨by have := HJ12.out; first | omega | exact Nat.le_refl _⟩, ⟨by (with_reducible repeat (first | apply Kd.R_alloc | apply Kd.R_drewN | apply Kd.R_drew)); exact HO_6.out⟩, ⟨by (with_reducible repeat (first | apply Kd.R_alloc | apply Kd.R_drewN | apply Kd.R_drew)); exact HO_10.out⟩, ⟨by repeat (first | (with_reducible first | exact HB.out | apply below_alloc | apply pw_below_drewN | apply below_drew1) | exact HB.out | exact Below.refl _ _)⟩⟩
                    · replace c48 := Bool.eq_false_iff.mpr c48
                      subst c48
                      have H1 : (laws_FnExactCountInState.j1 kj12 l0 l1 t198 t199 t208 true) = some r := by rw [if_neg (show ¬ (false = true) by decide)] at H; exact H
                      clear H
                      have H := H1
                      clear H1
                      have H' := Aside0.mk H
                      clear H
                      obtain ⟨Ao51, co51, eo51⟩ := Kd.R_slice HO_10.out
                      subst eo51
                      obtain ⟨Ao52, co52, eo52⟩ := Kd.R_slice HO_6.out
                      subst eo52
                      go_wp2_with (first | (go_at_call 26; (with_reducible refine (laws_eqIntS.calls kj12 _ _ t208 _ _ t198 false _ ?side1 ?side2 ?side3 ?side4 A47.out).mono ?_); (case side1 => repeat (first | exact (Kd.R_reads' HO_10.out).2.2 | (with_reducible refine Kd.C_alloc ?_ _) | (with_reducible refine Kd.C_drewN ?_ _) | (with_reducible refine Kd.C_drew ?_))); (case side2 => exact (Kd.R_reads' HO_10.out).2.1); (case side3 => repeat (first | exact (Kd.R_reads' HO_6.out).2.2 | (with_reducible refine Kd.C_alloc ?_ _) | (with_reducible refine Kd.C_drewN ?_ _) | (with_reducible refine Kd.C_drew ?_))); (case side4 => exact (Kd.R_reads' HO_6.out).2.1); rintro e w' ⟨rfl, ⟨nd, rfl⟩⟩))
                      go_meet
                      case rel => exact ⟨_, (true), (by first | rfl | (simp; done) | (simp [*]; done)), H', ⟨by have := HJ12.out; first | omega | exact Nat.le_refl _⟩, ⟨by (with_reducible repeat (first | apply Kd.R_alloc | apply Kd.R_drewN | apply Kd.R_drew)); exact HO_6.out⟩, ⟨by (with_reducible repeat (first | apply Kd.R_alloc | apply Kd.R_drewN | apply Kd.R_drew)); exact HO_10.out⟩, ⟨by repeat (first | (with_reducible first | exact HB.out | apply below_alloc | apply pw_below_drewN | apply below_drew1) | exact HB.out | exact Below.refl _ _)⟩⟩
                case rest =>
                  clear HC39
                  try clear c1
                  try clear c2
                  try clear p2
                  try clear c3
                  try clear c4
                  try clear c4b0
                  try clear c6
                  try clear c6b0
                  try clear c11
                  try clear c14
                  try clear c16
                  try clear c18
                  try clear c25
                  try clear c26
                  try clear c27
                  try clear c30
                  try clear c33
                  try clear c36
                  try clear c41
                  try clear c42
                  try clear c46
                  try clear c46b0
                  try clear c48
                  try clear p2
                  obtain ⟨kq, x82_38, rfl, HA, HJ38, HO_6, HO_10, HB⟩ := hcut
                  cases kq with
                  | zero => exact absurd HA.out (by simp [laws_FnExactCountInState.j1])
                  | succ kj38 =>
                    have H := HA.out
                    clear HA
                    simp only [laws_FnExactCountInState.j1] at H
                    by_cases c53 : x82_38 = true
                    · subst c53
                      have H1 : (some false) = some r := by rw [if_pos rfl] at H; exact H
                      clear H
                      have H := H1
                      clear H1
                      obtain rfl := Option.some.inj H
                      go_wp2
                      go_ret
                      exact ⟨by first | rfl | (simp [errW_none, errW_some] <;> rfl) | (simp [*, errW_none, errW_some] <;> rfl), by repeat (first | (with_reducible first | exact HB.out | apply below_alloc | apply pw_below_drewN | apply below_drew1) | exact HB.out | exact Below.refl _ _)⟩
                    · replace c53 := Bool.eq_false_iff.mpr c53
                      subst c53
                      have H1 : ((laws_markIntS.f kj38 t208 1).bind fun bt224 => ((laws_heldIntS.f kj38 bt224.2 1).bind fun t226 => (if t226 < 0 then (some false) else (if t226 = bt224.1 then ((laws_toStringSS.f kj38 l0).bind fun t227 => ((laws_toStringSS.f kj38 l1).bind fun t230 => ((impl_CountInState.f kj38 t227 t230).bind fun bt233 => ((laws_eqIntS.f kj38 bt233.1 t198).bind fun t237 => (if t237 = true then (laws_FnExactCountInState.j2 kj38 bt224.2 bt224.1 (bt233.2 != t199)) else (laws_FnExactCountInState.j2 kj38 bt224.2 bt224.1 true)))))) else (some false))))) = some r := by rw [if_neg (show ¬ (false = true) by decide)] at H; exact H
                      clear H
                      have H := H1
                      clear H1
                      replace H := Option.bind_eq_some_iff.mp H
                      obtain ⟨⟨t224, t225⟩, A540, H⟩ := H
                      replace H : ((laws_heldIntS.f kj38 t225 1).bind fun t226 => (if t226 < 0 then (some false) else (if t226 = t224 then ((laws_toStringSS.f kj38 l0).bind fun t227 => ((laws_toStringSS.f kj38 l1).bind fun t230 => ((impl_CountInState.f kj38 t227 t230).bind fun bt233 => ((laws_eqIntS.f kj38 bt233.1 t198).bind fun t237 => (if t237 = true then (laws_FnExactCountInState.j2 kj38 t225 t224 (bt233.2 != t199)) else (laws_FnExactCountInState.j2 kj38 t225 t224 true)))))) else (some false)))) = some r := H
                      have A54 := Aside0.mk A540
                      clear A540
                      replace H := Option.bind_eq_some_iff.mp H
                      obtain ⟨t226, A550, H⟩ := H
                      replace H : (if t226 < 0 then (some false) else (if t226 = t224 then ((laws_toStringSS.f kj38 l0).bind fun t227 => ((laws_toStringSS.f kj38 l1).bind fun t230 => ((impl_CountInState.f kj38 t227 t230).bind fun bt233 => ((laws_eqIntS.f kj38 bt233.1 t198).bind fun t237 => (if t237 = true then (laws_FnExactCountInState.j2 kj38 t225 t224 (bt233.2 != t199)) else (laws_FnExactCountInState.j2 kj38 t225 t224 true)))))) else (some false))) = some r := H
                      have A55 := Aside0.mk A550
                      clear A550
                      by_cases c56 : t226 < 0
                      · rw [if_pos c56] at H
                        have c56b0 : decide (t226 < 0) = true := decide_eq_true c56
                        clear c56
                        obtain rfl := Option.some.inj H
                        obtain ⟨Ao57, co57, eo57⟩ := Kd.R_slice HO_10.out
                        subst eo57
                        go_wp2_with (first | ((with_reducible refine gate_callee (f := 28) rfl ?_); refine goesL_ (some 85) rfl rfl Try.func28 (by kernel_rfl) rfl #[.slice Ao57 t208.length co57, .int .i64 1] rfl (by (try simp only [List.map_toArray, List.map_cons, List.map_nil]); first | done | rfl | (simp only [List.length_drop, List.length_take]; rfl)) ?_; (with_reducible refine (laws_markIntS.calls kj38 (fun k_ => some k_ = (.slice Ao57 t208.length co57 : Value).ownBlock) (.slice Ao57 t208.length co57) t208 1 t224 t225 w _ ?side1 ?side2 A54.out).mono ?_); (case side1 => repeat (first | (with_reducible first | exact HB.out | apply below_alloc | apply pw_below_drewN | apply below_drew1) | exact HB.out | exact Below.refl _ _)); (case side2 => exact Kd.R_tight rfl HO_10.out); rintro e w58 ⟨rfl, hy0, hb, hkp⟩; refine ⟨_, rfl, ?_⟩; have n0_ := Aside0.mk (Kd.R_mono (ok' := fun k_ => some k_ ≠ (.slice Ao57 t208.length co57 : Value).ownBlock) (Kd.R_keptB (HO_6.out) hkp (fun k_ hk_ hs_ => (hk_) hs_)) (fun k_ hk_ => hk_.1)); have n1_ := Aside0.mk (Kd.R_reok rfl hy0 (fun k_ e_ => HO_10.out.1 k_ e_)); have n2_ := Aside0.mk (hb); clear HO_6; clear HO_10; clear HB; have HO_6 := n0_; have HO_10 := n1_; have HB := n2_; clear n0_ n1_ n2_; (try clear hb); (try clear hkp); (try clear hy0)) | ((with_reducible refine gate_callee (f := 29) rfl ?_); refine goesL_ (some 88) rfl rfl Try.func29 (by kernel_rfl) rfl #[.slice Ao57 t225.length co57, .int .i64 1] rfl (by (try simp only [List.map_toArray, List.map_cons, List.map_nil]); first | done | (rw [show t225.length = t208.length from (Kd.R_reads' HO_10.out).1.symm] <;> rfl) | rfl | (simp only [List.length_drop, List.length_take]; rfl)) ?_; (with_reducible refine (laws_heldIntS.calls kj38 _ _ t225 1 t226 _ ?side1 ?side2 A55.out).mono ?_); (case side1 => repeat (first | exact (Kd.R_reads' HO_10.out).2.2 | (with_reducible refine Kd.C_alloc ?_ _) | (with_reducible refine Kd.C_drewN ?_ _) | (with_reducible refine Kd.C_drew ?_))); (case side2 => rw [show t225.length = t208.length from (Kd.R_reads' HO_10.out).1.symm]; exact (Kd.R_reads' HO_10.out).2.1); rintro e w' ⟨rfl, ⟨nd, rfl⟩⟩; refine ⟨_, rfl, ?_⟩))
                        go_ret
                        exact ⟨by first | rfl | (simp [errW_none, errW_some] <;> rfl) | (simp [*, errW_none, errW_some] <;> rfl), by repeat (first | (with_reducible first | exact HB.out | apply below_alloc | apply pw_below_drewN | apply below_drew1) | exact HB.out | exact Below.refl _ _)⟩
                      · rw [if_neg c56] at H
                        have c56b0 : decide (t226 < 0) = false := decide_eq_false c56
                        clear c56
                        by_cases c59 : t226 = t224
                        · rw [if_pos c59] at H
                          have c59b0 : (t226 == t224) = true := beq_iff_eq.mpr c59
                          have c59b1 : (t226 != t224) = false := bne_eq_false_iff_eq.mpr c59
                          clear c59
                          replace H := Option.bind_eq_some_iff.mp H
                          obtain ⟨t227, A600, H⟩ := H
                          replace H : ((laws_toStringSS.f kj38 l1).bind fun t230 => ((impl_CountInState.f kj38 t227 t230).bind fun bt233 => ((laws_eqIntS.f kj38 bt233.1 t198).bind fun t237 => (if t237 = true then (laws_FnExactCountInState.j2 kj38 t225 t224 (bt233.2 != t199)) else (laws_FnExactCountInState.j2 kj38 t225 t224 true))))) = some r := H
                          have A60 := Aside0.mk A600
                          clear A600
                          replace H := Option.bind_eq_some_iff.mp H
                          obtain ⟨t230, A610, H⟩ := H
                          replace H : ((impl_CountInState.f kj38 t227 t230).bind fun bt233 => ((laws_eqIntS.f kj38 bt233.1 t198).bind fun t237 => (if t237 = true then (laws_FnExactCountInState.j2 kj38 t225 t224 (bt233.2 != t199)) else (laws_FnExactCountInState.j2 kj38 t225 t224 true)))) = some r := H
                          have A61 := Aside0.mk A610
                          clear A610
                          replace H := Option.bind_eq_some_iff.mp H
                          obtain ⟨⟨t233, t234⟩, A620, H⟩ := H
                          replace H : ((laws_eqIntS.f kj38 t233 t198).bind fun t237 => (if t237 = true then (laws_FnExactCountInState.j2 kj38 t225 t224 (t234 != t199)) else (laws_FnExactCountInState.j2 kj38 t225 t224 true))) = some r := H
                          have A62 := Aside0.mk A620
                          clear A620
                          have HC63 := Aside0.mk H
                          clear H
                          obtain ⟨Ao64, co64, eo64⟩ := Kd.R_slice HO_10.out
                          subst eo64
                          go_upto_region 32 with (first | ((with_reducible refine gate_callee (f := 28) rfl ?_); refine goesL_ (some 85) rfl rfl Try.func28 (by kernel_rfl) rfl #[.slice Ao64 t208.length co64, .int .i64 1] rfl (by (try simp only [List.map_toArray, List.map_cons, List.map_nil]); first | done | rfl | (simp only [List.length_drop, List.length_take]; rfl)) ?_; (with_reducible refine (laws_markIntS.calls kj38 (fun k_ => some k_ = (.slice Ao64 t208.length co64 : Value).ownBlock) (.slice Ao64 t208.length co64) t208 1 t224 t225 w _ ?side1 ?side2 A54.out).mono ?_); (case side1 => repeat (first | (with_reducible first | exact HB.out | apply below_alloc | apply pw_below_drewN | apply below_drew1) | exact HB.out | exact Below.refl _ _)); (case side2 => exact Kd.R_tight rfl HO_10.out); rintro e w65 ⟨rfl, hy0, hb, hkp⟩; refine ⟨_, rfl, ?_⟩; have n0_ := Aside0.mk (Kd.R_mono (ok' := fun k_ => some k_ ≠ (.slice Ao64 t208.length co64 : Value).ownBlock) (Kd.R_keptB (HO_6.out) hkp (fun k_ hk_ hs_ => (hk_) hs_)) (fun k_ hk_ => hk_.1)); have n1_ := Aside0.mk (Kd.R_reok rfl hy0 (fun k_ e_ => HO_10.out.1 k_ e_)); have n2_ := Aside0.mk (hb); clear HO_6; clear HO_10; clear HB; have HO_6 := n0_; have HO_10 := n1_; have HB := n2_; clear n0_ n1_ n2_; (try clear hb); (try clear hkp); (try clear hy0)) | ((with_reducible refine gate_callee (f := 29) rfl ?_); refine goesL_ (some 88) rfl rfl Try.func29 (by kernel_rfl) rfl #[.slice Ao64 t225.length co64, .int .i64 1] rfl (by (try simp only [List.map_toArray, List.map_cons, List.map_nil]); first | done | (rw [show t225.length = t208.length from (Kd.R_reads' HO_10.out).1.symm] <;> rfl) | rfl | (simp only [List.length_drop, List.length_take]; rfl)) ?_; (with_reducible refine (laws_heldIntS.calls kj38 _ _ t225 1 t226 _ ?side1 ?side2 A55.out).mono ?_); (case side1 => repeat (first | exact (Kd.R_reads' HO_10.out).2.2 | (with_reducible refine Kd.C_alloc ?_ _) | (with_reducible refine Kd.C_drewN ?_ _) | (with_reducible refine Kd.C_drew ?_))); (case side2 => rw [show t225.length = t208.length from (Kd.R_reads' HO_10.out).1.symm]; exact (Kd.R_reads' HO_10.out).2.1); rintro e w' ⟨rfl, ⟨nd, rfl⟩⟩; refine ⟨_, rfl, ?_⟩) | ((with_reducible refine gate_callee (f := 16) rfl ?_); refine goesL_ (some 96) rfl rfl Try.func16 (by kernel_rfl) rfl #[.slice A0 l0.length c0] rfl (by (try simp only [List.map_toArray, List.map_cons, List.map_nil]); first | done | rfl | (simp only [List.length_drop, List.length_take]; rfl)) ?_; (with_reducible refine (laws_toStringSS.calls kj38 _ _ l0 t227 _ ?side1 ?side2 A60.out).mono ?_); (case side1 => repeat (first | exact (Kd.C_below HR0.out (by repeat (first | (with_reducible first | exact HB.out | apply below_alloc | apply pw_below_drewN | apply below_drew1) | exact HB.out | exact Below.refl _ _))) | (with_reducible refine Kd.C_alloc ?_ _) | (with_reducible refine Kd.C_drewN ?_ _) | (with_reducible refine Kd.C_drew ?_))); (case side2 => exact HC0.out); rintro e w66 ⟨v228, rfl, ho0, hb⟩; refine ⟨_, rfl, ?_⟩; have n0_ := Aside0.mk (Kd.R_below (by (with_reducible repeat (first | apply Kd.R_alloc | apply Kd.R_drewN | apply Kd.R_drew)); exact HO_6.out) hb); have n1_ := Aside0.mk (Kd.R_below (by (with_reducible repeat (first | apply Kd.R_alloc | apply Kd.R_drewN | apply Kd.R_drew)); exact HO_10.out) hb); have n2_ := Aside0.mk (Kd.S_lower ho0 (below_size (by repeat (first | (with_reducible first | exact HB.out | apply below_alloc | apply pw_below_drewN | apply below_drew1) | exact HB.out | exact Below.refl _ _)))); have n3_ := Aside0.mk (below_step (by repeat (first | (with_reducible first | exact HB.out | apply below_alloc | apply pw_below_drewN | apply below_drew1) | exact HB.out | exact Below.refl _ _)) hb); clear HO_6; clear HO_10; clear HB; have HO_6 := n0_; have HO_10 := n1_; have HO229 := n2_; have HB := n3_; clear n0_ n1_ n2_ n3_; (try clear hb); (try clear hb2); (try clear hk); (try clear hi); (try clear ho0)) | ((with_reducible refine gate_callee (f := 16) rfl ?_); refine goesL_ (some 98) rfl rfl Try.func16 (by kernel_rfl) rfl #[.slice A1 l1.length c1] rfl (by (try simp only [List.map_toArray, List.map_cons, List.map_nil]); first | done | rfl | (simp only [List.length_drop, List.length_take]; rfl)) ?_; (with_reducible refine (laws_toStringSS.calls kj38 _ _ l1 t230 _ ?side1 ?side2 A61.out).mono ?_); (case side1 => repeat (first | exact (Kd.C_below HR1.out HB.out) | exact HR1.out | (with_reducible refine Kd.C_alloc ?_ _) | (with_reducible refine Kd.C_drewN ?_ _) | (with_reducible refine Kd.C_drew ?_))); (case side2 => exact HC1.out); rintro e w67 ⟨v231, rfl, ho0, hb⟩; refine ⟨_, rfl, ?_⟩; have n0_ := Aside0.mk (Kd.R_below (by (with_reducible repeat (first | apply Kd.R_alloc | apply Kd.R_drewN | apply Kd.R_drew)); exact HO_6.out) hb); have n1_ := Aside0.mk (Kd.R_below (by (with_reducible repeat (first | apply Kd.R_alloc | apply Kd.R_drewN | apply Kd.R_drew)); exact HO_10.out) hb); have n2_ := Aside0.mk (Kd.S_elder' (by (with_reducible repeat (first | apply Kd.S_alloc | apply Kd.S_drewN | apply Kd.S_drew)); exact HO229.out) (Kd.S_base ho0) hb); have n3_ := Aside0.mk (Kd.S_lower (Kd.S_new' ho0 (Kd.S_lt (by (with_reducible repeat (first | apply Kd.S_alloc | apply Kd.S_drewN | apply Kd.S_drew)); exact HO229.out))) (below_size (by repeat (first | (with_reducible first | exact HB.out | apply below_alloc | apply pw_below_drewN | apply below_drew1) | exact HB.out | exact Below.refl _ _)))); have n4_ := Aside0.mk (below_step (by repeat (first | (with_reducible first | exact HB.out | apply below_alloc | apply pw_below_drewN | apply below_drew1) | exact HB.out | exact Below.refl _ _)) hb); clear HO_6; clear HO_10; clear HO229; clear HB; have HO_6 := n0_; have HO_10 := n1_; have HO229 := n2_; have HO232 := n3_; have HB := n4_; clear n0_ n1_ n2_ n3_ n4_; (try clear hb); (try clear hb2); (try clear hk); (try clear hi); (try clear ho0); obtain ⟨Ao68, co68, eo68⟩ := Kd.S_slice HO229.out; subst eo68; obtain ⟨Ao69, co69, eo69⟩ := Kd.S_slice HO232.out; subst eo69) | ((with_reducible refine gate_callee (f := 42) rfl ?_); refine goesL_ (some 99) rfl rfl Try.func42 (by kernel_rfl) rfl #[.slice Ao68 t227.length co68, .slice Ao69 t230.length co69] rfl (by (try simp only [List.map_toArray, List.map_cons, List.map_nil]); first | done | rfl | (simp only [List.length_drop, List.length_take]; rfl)) ?_; (with_reducible refine (impl_CountInState.calls kj38 _ _ t227 _ _ t230 t233 t234 _ ?side1 ?side2 ?side3 ?side4 A62.out).mono ?_); (case side1 => repeat (first | exact (Kd.S_reads' HO229.out).2.2 | (with_reducible refine Kd.C_alloc ?_ _) | (with_reducible refine Kd.C_drewN ?_ _) | (with_reducible refine Kd.C_drew ?_))); (case side2 => exact (Kd.S_reads' HO229.out).2.1); (case side3 => repeat (first | exact (Kd.S_reads' HO232.out).2.2 | (with_reducible refine Kd.C_alloc ?_ _) | (with_reducible refine Kd.C_drewN ?_ _) | (with_reducible refine Kd.C_drew ?_))); (case side4 => exact (Kd.S_reads' HO232.out).2.1); rintro e w70 ⟨v235, rfl, ho0, hb⟩; refine ⟨_, rfl, ?_⟩; have n0_ := Aside0.mk (Kd.R_elder' (by (with_reducible repeat (first | apply Kd.R_alloc | apply Kd.R_drewN | apply Kd.R_drew)); exact HO_6.out) (Kd.R_base ho0) hb); have n1_ := Aside0.mk (Kd.R_elder' (by (with_reducible repeat (first | apply Kd.R_alloc | apply Kd.R_drewN | apply Kd.R_drew)); exact HO_10.out) (Kd.R_base ho0) hb); have n2_ := Aside0.mk (Kd.S_below (by (with_reducible repeat (first | apply Kd.S_alloc | apply Kd.S_drewN | apply Kd.S_drew)); exact HO229.out) hb); have n3_ := Aside0.mk (Kd.S_below (by (with_reducible repeat (first | apply Kd.S_alloc | apply Kd.S_drewN | apply Kd.S_drew)); exact HO232.out) hb); have n4_ := Aside0.mk (Kd.R_lower (Kd.R_new' (Kd.R_new' ho0 (Kd.R_lt (by (with_reducible repeat (first | apply Kd.R_alloc | apply Kd.R_drewN | apply Kd.R_drew)); exact HO_6.out))) (Kd.R_lt (by (with_reducible repeat (first | apply Kd.R_alloc | apply Kd.R_drewN | apply Kd.R_drew)); exact HO_10.out))) (below_size (by repeat (first | (with_reducible first | exact HB.out | apply below_alloc | apply pw_below_drewN | apply below_drew1) | exact HB.out | exact Below.refl _ _)))); have n5_ := Aside0.mk (below_step (by repeat (first | (with_reducible first | exact HB.out | apply below_alloc | apply pw_below_drewN | apply below_drew1) | exact HB.out | exact Below.refl _ _)) hb); clear HO_6; clear HO_10; clear HO229; clear HO232; clear HB; have HO_6 := n0_; have HO_10 := n1_; have HO229 := n2_; have HO232 := n3_; have HO236 := n4_; have HB := n5_; clear n0_ n1_ n2_ n3_ n4_ n5_; (try clear hb); (try clear hb2); (try clear hk); (try clear hi); (try clear ho0)))
                          (try simp only [Act.put, List.setIfInBounds_toArray, List.set_cons_zero, List.set_cons_succ])
                          go_cut [110] (fun v110 wc => ∃ (kq : Nat) (x110_62 : Bool), v110 = .bool x110_62 ∧ Aside0 (laws_FnExactCountInState.j2 kq t225 t224 x110_62 = some r) ∧ Aside0 (kq ≤ kj38) ∧ Aside0 (Kd.R (Kd.int .i64) 3 wc w.heap.size (fun _ => True) (.slice Ao64 t208.length co64) t225) ∧ Aside0 (Below w.heap.size w wc))
                          case first =>
                            have H := HC63.out
                            clear HC63
                            replace H := Option.bind_eq_some_iff.mp H
                            obtain ⟨t237, A710, H⟩ := H
                            replace H : (if t237 = true then (laws_FnExactCountInState.j2 kj38 t225 t224 (t234 != t199)) else (laws_FnExactCountInState.j2 kj38 t225 t224 true)) = some r := H
                            have A71 := Aside0.mk A710
                            clear A710
                            by_cases c72 : t237 = true
                            · subst c72
                              have H1 : (laws_FnExactCountInState.j2 kj38 t225 t224 (t234 != t199)) = some r := by rw [if_pos rfl] at H; exact H
                              clear H
                              have H := H1
                              clear H1
                              have H' := Aside0.mk H
                              clear H
                              obtain ⟨Ao73, co73, eo73⟩ := Kd.R_slice HO236.out
                              subst eo73
                              obtain ⟨Ao74, co74, eo74⟩ := Kd.R_slice HO_6.out
                              subst eo74
                              go_wp2_with (first | ((with_reducible refine gate_callee (f := 26) rfl ?_); refine goesL_ (some 104) rfl rfl Try.func26 (by kernel_rfl) rfl #[.slice Ao73 t233.length co73, .slice Ao74 t198.length co74] rfl (by (try simp only [List.map_toArray, List.map_cons, List.map_nil]); first | done | rfl | (simp only [List.length_drop, List.length_take]; rfl)) ?_; (with_reducible refine (laws_eqIntS.calls kj38 _ _ t233 _ _ t198 true _ ?side1 ?side2 ?side3 ?side4 A71.out).mono ?_); (case side1 => repeat (first | exact (Kd.R_reads' HO236.out).2.2 | (with_reducible refine Kd.C_alloc ?_ _) | (with_reducible refine Kd.C_drewN ?_ _) | (with_reducible refine Kd.C_drew ?_))); (case side2 => exact (Kd.R_reads' HO236.out).2.1); (case side3 => repeat (first | exact (Kd.R_reads' HO_6.out).2.2 | (with_reducible refine Kd.C_alloc ?_ _) | (with_reducible refine Kd.C_drewN ?_ _) | (with_reducible refine Kd.C_drew ?_))); (case side4 => exact (Kd.R_reads' HO_6.out).2.1); rintro e w' ⟨rfl, ⟨nd, rfl⟩⟩; refine ⟨_, rfl, ?_⟩))
                              go_meet
                              case rel => exact ⟨_, ((t234 != t199)), (by first | rfl | (simp; done) | (simp [*]; done)), H', ⟨by have := HJ12.out; have := HJ38.out; first | omega | exact Nat.le_refl _⟩, ⟨by (with_reducible repeat (first | apply Kd.R_alloc | apply Kd.R_drewN | apply Kd.R_drew)); exact Kd.R_mono HO_10.out (fun _ hk => trivial)⟩, ⟨by repeat (first | (with_reducible first | exact HB.out | apply below_alloc | apply pw_below_drewN | apply below_drew1) | exact HB.out | exact Below.refl _ _)⟩⟩
                            · replace c72 := Bool.eq_false_iff.mpr c72
                              subst c72
                              have H1 : (laws_FnExactCountInState.j2 kj38 t225 t224 true) = some r := by rw [if_neg (show ¬ (false = true) by decide)] at H; exact H
                              clear H
                              have H := H1
                              clear H1
                              have H' := Aside0.mk H
                              clear H
                              obtain ⟨Ao75, co75, eo75⟩ := Kd.R_slice HO236.out
                              subst eo75
                              obtain ⟨Ao76, co76, eo76⟩ := Kd.R_slice HO_6.out
                              subst eo76
                              go_wp2_with (first | ((with_reducible refine gate_callee (f := 26) rfl ?_); refine goesL_ (some 104) rfl rfl Try.func26 (by kernel_rfl) rfl #[.slice Ao75 t233.length co75, .slice Ao76 t198.length co76] rfl (by (try simp only [List.map_toArray, List.map_cons, List.map_nil]); first | done | rfl | (simp only [List.length_drop, List.length_take]; rfl)) ?_; (with_reducible refine (laws_eqIntS.calls kj38 _ _ t233 _ _ t198 false _ ?side1 ?side2 ?side3 ?side4 A71.out).mono ?_); (case side1 => repeat (first | exact (Kd.R_reads' HO236.out).2.2 | (with_reducible refine Kd.C_alloc ?_ _) | (with_reducible refine Kd.C_drewN ?_ _) | (with_reducible refine Kd.C_drew ?_))); (case side2 => exact (Kd.R_reads' HO236.out).2.1); (case side3 => repeat (first | exact (Kd.R_reads' HO_6.out).2.2 | (with_reducible refine Kd.C_alloc ?_ _) | (with_reducible refine Kd.C_drewN ?_ _) | (with_reducible refine Kd.C_drew ?_))); (case side4 => exact (Kd.R_reads' HO_6.out).2.1); rintro e w' ⟨rfl, ⟨nd, rfl⟩⟩; refine ⟨_, rfl, ?_⟩))
                              go_meet
                              case rel => exact ⟨_, (true), (by first | rfl | (simp; done) | (simp [*]; done)), H', ⟨by have := HJ12.out; have := HJ38.out; first | omega | exact Nat.le_refl _⟩, ⟨by (with_reducible repeat (first | apply Kd.R_alloc | apply Kd.R_drewN | apply Kd.R_drew)); exact Kd.R_mono HO_10.out (fun _ hk => trivial)⟩, ⟨by repeat (first | (with_reducible first | exact HB.out | apply below_alloc | apply pw_below_drewN | apply below_drew1) | exact HB.out | exact Below.refl _ _)⟩⟩
                          case rest =>
                            clear HC63
                            try clear c1
                            try clear c2
                            try clear p2
                            try clear c3
                            try clear c4
                            try clear c4b0
                            try clear c5
                            try clear c6
                            try clear c6b0
                            try clear c7
                            try clear c11
                            try clear c14
                            try clear c16
                            try clear c18
                            try clear c25
                            try clear c26
                            try clear c27
                            try clear c28
                            try clear c29
                            try clear c30
                            try clear c33
                            try clear c36
                            try clear c41
                            try clear c42
                            try clear c46
                            try clear c46b0
                            try clear c48
                            try clear c53
                            try clear c56
                            try clear c56b0
                            try clear c59
                            try clear c59b0
                            try clear c59b1
                            try clear c72
                            try clear p2
                            obtain ⟨kq, x110_62, rfl, HA, HJ62, HO_10, HB⟩ := hcut
                            have hl10_62 := (Kd.R_reads' HO_10.out).1
                            rw [hl10_62] at HO_10
                            (try simp only [hl10_62])
                            cases kq with
                            | zero => exact absurd HA.out (by simp [laws_FnExactCountInState.j2])
                            | succ kj62 =>
                              have H := HA.out
                              clear HA
                              simp only [laws_FnExactCountInState.j2] at H
                              by_cases c77 : x110_62 = true
                              · subst c77
                                have H1 : (some false) = some r := by rw [if_pos rfl] at H; exact H
                                clear H
                                have H := H1
                                clear H1
                                obtain rfl := Option.some.inj H
                                go_wp2
                                go_ret
                                exact ⟨by first | rfl | (simp [errW_none, errW_some] <;> rfl) | (simp [*, errW_none, errW_some] <;> rfl), by repeat (first | (with_reducible first | exact HB.out | apply below_alloc | apply pw_below_drewN | apply below_drew1) | exact HB.out | exact Below.refl _ _)⟩
                              · replace c77 := Bool.eq_false_iff.mpr c77
                                subst c77
                                have H1 : ((laws_heldIntS.f kj62 t225 1).bind fun t238 => (if t238 < 0 then (some false) else (if t238 = t224 then (some true) else (some false)))) = some r := by rw [if_neg (show ¬ (false = true) by decide)] at H; exact H
                                clear H
                                have H := H1
                                clear H1
                                replace H := Option.bind_eq_some_iff.mp H
                                obtain ⟨t238, A780, H⟩ := H
                                replace H : (if t238 < 0 then (some false) else (if t238 = t224 then (some true) else (some false))) = some r := H
                                have A78 := Aside0.mk A780
                                clear A780
                                by_cases c79 : t238 < 0
                                · rw [if_pos c79] at H
                                  have c79b0 : decide (t238 < 0) = true := decide_eq_true c79
                                  clear c79
                                  obtain rfl := Option.some.inj H
                                  go_wp2_with (first | ((with_reducible refine gate_callee (f := 29) rfl ?_); refine goesL_ (some 113) rfl rfl Try.func29 (by kernel_rfl) rfl #[.slice Ao64 t225.length co64, .int .i64 1] rfl (by (try simp only [List.map_toArray, List.map_cons, List.map_nil]); first | done | rfl | (simp only [List.length_drop, List.length_take]; rfl)) ?_; (with_reducible refine (laws_heldIntS.calls kj62 _ _ t225 1 t238 _ ?side1 ?side2 A78.out).mono ?_); (case side1 => repeat (first | exact (Kd.R_reads' HO_10.out).2.2 | (with_reducible refine Kd.C_alloc ?_ _) | (with_reducible refine Kd.C_drewN ?_ _) | (with_reducible refine Kd.C_drew ?_))); (case side2 => exact (Kd.R_reads' HO_10.out).2.1); rintro e w' ⟨rfl, ⟨nd, rfl⟩⟩; refine ⟨_, rfl, ?_⟩))
                                  go_ret
                                  exact ⟨by first | rfl | (simp [errW_none, errW_some] <;> rfl) | (simp [*, errW_none, errW_some] <;> rfl), by repeat (first | (with_reducible first | exact HB.out | apply below_alloc | apply pw_below_drewN | apply below_drew1) | exact HB.out | exact Below.refl _ _)⟩
                                · rw [if_neg c79] at H
                                  have c79b0 : decide (t238 < 0) = false := decide_eq_false c79
                                  clear c79
                                  by_cases c80 : t238 = t224
                                  · rw [if_pos c80] at H
                                    have c80b0 : (t238 == t224) = true := beq_iff_eq.mpr c80
                                    have c80b1 : (t238 != t224) = false := bne_eq_false_iff_eq.mpr c80
                                    clear c80
                                    obtain rfl := Option.some.inj H
                                    go_wp2_with (first | ((with_reducible refine gate_callee (f := 29) rfl ?_); refine goesL_ (some 113) rfl rfl Try.func29 (by kernel_rfl) rfl #[.slice Ao64 t225.length co64, .int .i64 1] rfl (by (try simp only [List.map_toArray, List.map_cons, List.map_nil]); first | done | rfl | (simp only [List.length_drop, List.length_take]; rfl)) ?_; (with_reducible refine (laws_heldIntS.calls kj62 _ _ t225 1 t238 _ ?side1 ?side2 A78.out).mono ?_); (case side1 => repeat (first | exact (Kd.R_reads' HO_10.out).2.2 | (with_reducible refine Kd.C_alloc ?_ _) | (with_reducible refine Kd.C_drewN ?_ _) | (with_reducible refine Kd.C_drew ?_))); (case side2 => exact (Kd.R_reads' HO_10.out).2.1); rintro e w' ⟨rfl, ⟨nd, rfl⟩⟩; refine ⟨_, rfl, ?_⟩))
                                    go_ret
                                    exact ⟨by first | rfl | (simp [errW_none, errW_some] <;> rfl) | (simp [*, errW_none, errW_some] <;> rfl), by repeat (first | (with_reducible first | exact HB.out | apply below_alloc | apply pw_below_drewN | apply below_drew1) | exact HB.out | exact Below.refl _ _)⟩
                                  · rw [if_neg c80] at H
                                    have c80b0 : (t238 == t224) = false := beq_eq_false_iff_ne.mpr c80
                                    have c80b1 : (t238 != t224) = true := bne_iff_ne.mpr c80
                                    obtain rfl := Option.some.inj H
                                    go_wp2_with (first | ((with_reducible refine gate_callee (f := 29) rfl ?_); refine goesL_ (some 113) rfl rfl Try.func29 (by kernel_rfl) rfl #[.slice Ao64 t225.length co64, .int .i64 1] rfl (by (try simp only [List.map_toArray, List.map_cons, List.map_nil]); first | done | rfl | (simp only [List.length_drop, List.length_take]; rfl)) ?_; (with_reducible refine (laws_heldIntS.calls kj62 _ _ t225 1 t238 _ ?side1 ?side2 A78.out).mono ?_); (case side1 => repeat (first | exact (Kd.R_reads' HO_10.out).2.2 | (with_reducible refine Kd.C_alloc ?_ _) | (with_reducible refine Kd.C_drewN ?_ _) | (with_reducible refine Kd.C_drew ?_))); (case side2 => exact (Kd.R_reads' HO_10.out).2.1); rintro e w' ⟨rfl, ⟨nd, rfl⟩⟩; refine ⟨_, rfl, ?_⟩))
                                    go_ret
                                    exact ⟨by first | rfl | (simp [errW_none, errW_some] <;> rfl) | (simp [*, errW_none, errW_some] <;> rfl), by repeat (first | (with_reducible first | exact HB.out | apply below_alloc | apply pw_below_drewN | apply below_drew1) | exact HB.out | exact Below.refl _ _)⟩
                        · rw [if_neg c59] at H
                          have c59b0 : (t226 == t224) = false := beq_eq_false_iff_ne.mpr c59
                          have c59b1 : (t226 != t224) = true := bne_iff_ne.mpr c59
                          obtain rfl := Option.some.inj H
                          obtain ⟨Ao81, co81, eo81⟩ := Kd.R_slice HO_10.out
                          subst eo81
                          go_wp2_with (first | ((with_reducible refine gate_callee (f := 28) rfl ?_); refine goesL_ (some 85) rfl rfl Try.func28 (by kernel_rfl) rfl #[.slice Ao81 t208.length co81, .int .i64 1] rfl (by (try simp only [List.map_toArray, List.map_cons, List.map_nil]); first | done | rfl | (simp only [List.length_drop, List.length_take]; rfl)) ?_; (with_reducible refine (laws_markIntS.calls kj38 (fun k_ => some k_ = (.slice Ao81 t208.length co81 : Value).ownBlock) (.slice Ao81 t208.length co81) t208 1 t224 t225 w _ ?side1 ?side2 A54.out).mono ?_); (case side1 => repeat (first | (with_reducible first | exact HB.out | apply below_alloc | apply pw_below_drewN | apply below_drew1) | exact HB.out | exact Below.refl _ _)); (case side2 => exact Kd.R_tight rfl HO_10.out); rintro e w82 ⟨rfl, hy0, hb, hkp⟩; refine ⟨_, rfl, ?_⟩; have n0_ := Aside0.mk (Kd.R_mono (ok' := fun k_ => some k_ ≠ (.slice Ao81 t208.length co81 : Value).ownBlock) (Kd.R_keptB (HO_6.out) hkp (fun k_ hk_ hs_ => (hk_) hs_)) (fun k_ hk_ => hk_.1)); have n1_ := Aside0.mk (Kd.R_reok rfl hy0 (fun k_ e_ => HO_10.out.1 k_ e_)); have n2_ := Aside0.mk (hb); clear HO_6; clear HO_10; clear HB; have HO_6 := n0_; have HO_10 := n1_; have HB := n2_; clear n0_ n1_ n2_; (try clear hb); (try clear hkp); (try clear hy0)) | ((with_reducible refine gate_callee (f := 29) rfl ?_); refine goesL_ (some 88) rfl rfl Try.func29 (by kernel_rfl) rfl #[.slice Ao81 t225.length co81, .int .i64 1] rfl (by (try simp only [List.map_toArray, List.map_cons, List.map_nil]); first | done | (rw [show t225.length = t208.length from (Kd.R_reads' HO_10.out).1.symm] <;> rfl) | rfl | (simp only [List.length_drop, List.length_take]; rfl)) ?_; (with_reducible refine (laws_heldIntS.calls kj38 _ _ t225 1 t226 _ ?side1 ?side2 A55.out).mono ?_); (case side1 => repeat (first | exact (Kd.R_reads' HO_10.out).2.2 | (with_reducible refine Kd.C_alloc ?_ _) | (with_reducible refine Kd.C_drewN ?_ _) | (with_reducible refine Kd.C_drew ?_))); (case side2 => rw [show t225.length = t208.length from (Kd.R_reads' HO_10.out).1.symm]; exact (Kd.R_reads' HO_10.out).2.1); rintro e w' ⟨rfl, ⟨nd, rfl⟩⟩; refine ⟨_, rfl, ?_⟩))
                          go_ret
                          exact ⟨by first | rfl | (simp [errW_none, errW_some] <;> rfl) | (simp [*, errW_none, errW_some] <;> rfl), by repeat (first | (with_reducible first | exact HB.out | apply below_alloc | apply pw_below_drewN | apply below_drew1) | exact HB.out | exact Below.refl _ _)⟩
              · replace c36 := Bool.eq_false_iff.mpr c36
                subst c36
                have H1 : (some false) = some r := by rw [if_neg (show ¬ (false = true) by decide)] at H; exact H
                clear H
                have H := H1
                clear H1
                obtain rfl := Option.some.inj H
                go_wp2_with (first | ((with_reducible refine gate_callee (f := 16) rfl ?_); refine goesL_ (some 56) rfl rfl Try.func16 (by kernel_rfl) rfl #[.slice A0 l0.length c0] rfl (by (try simp only [List.map_toArray, List.map_cons, List.map_nil]); first | done | rfl | (simp only [List.length_drop, List.length_take]; rfl)) ?_; (with_reducible refine (laws_toStringSS.calls kj12 _ _ l0 t213 _ ?side1 ?side2 A31.out).mono ?_); (case side1 => repeat (first | exact (Kd.C_below HR0.out HB.out) | exact HR0.out | (with_reducible refine Kd.C_alloc ?_ _) | (with_reducible refine Kd.C_drewN ?_ _) | (with_reducible refine Kd.C_drew ?_))); (case side2 => exact HC0.out); rintro e w83 ⟨v214, rfl, ho0, hb⟩; refine ⟨_, rfl, ?_⟩; have n0_ := Aside0.mk (Kd.R_below (by (with_reducible repeat (first | apply Kd.R_alloc | apply Kd.R_drewN | apply Kd.R_drew)); exact HO_6.out) hb); have n1_ := Aside0.mk (Kd.S_elder' (by (with_reducible repeat (first | apply Kd.S_alloc | apply Kd.S_drewN | apply Kd.S_drew)); exact HO_8.out) (Kd.S_base ho0) hb); have n2_ := Aside0.mk (Kd.S_elder' (by (with_reducible repeat (first | apply Kd.S_alloc | apply Kd.S_drewN | apply Kd.S_drew)); exact HO_9.out) (Kd.S_base ho0) hb); have n3_ := Aside0.mk (Kd.R_below (by (with_reducible repeat (first | apply Kd.R_alloc | apply Kd.R_drewN | apply Kd.R_drew)); exact HO_10.out) hb); have n4_ := Aside0.mk (Kd.S_lower (Kd.S_new' (Kd.S_new' ho0 (Kd.S_lt (by (with_reducible repeat (first | apply Kd.S_alloc | apply Kd.S_drewN | apply Kd.S_drew)); exact HO_8.out))) (Kd.S_lt (by (with_reducible repeat (first | apply Kd.S_alloc | apply Kd.S_drewN | apply Kd.S_drew)); exact HO_9.out))) (below_size (by repeat (first | (with_reducible first | exact HB.out | apply below_alloc | apply pw_below_drewN | apply below_drew1) | exact HB.out | exact Below.refl _ _)))); have n5_ := Aside0.mk (below_step (by repeat (first | (with_reducible first | exact HB.out | apply below_alloc | apply pw_below_drewN | apply below_drew1) | exact HB.out | exact Below.refl _ _)) hb); clear HO_6; clear HO_8; clear HO_9; clear HO_10; clear HB; have HO_6 := n0_; have HO_8 := n1_; have HO_9 := n2_; have HO_10 := n3_; have HO215 := n4_; have HB := n5_; clear n0_ n1_ n2_ n3_ n4_ n5_; (try clear hb); (try clear hb2); (try clear hk); (try clear hi); (try clear ho0); obtain ⟨Ao84, co84, eo84⟩ := Kd.S_slice HO215.out; subst eo84) | ((with_reducible refine gate_callee (f := 18) rfl ?_); refine goesL_ (some 57) rfl rfl Try.func18 (by kernel_rfl) rfl #[.slice Ao21 t202.length co21, .slice Ao84 t213.length co84] rfl (by (try simp only [List.map_toArray, List.map_cons, List.map_nil]); first | done | rfl | (simp only [List.length_drop, List.length_take]; rfl)) ?_; (with_reducible refine (laws_eqStringSS.calls kj12 _ _ t202 _ _ t213 true _ ?side1 ?side2 ?side3 ?side4 A32.out).mono ?_); (case side1 => repeat (first | exact (Kd.S_reads' HO_8.out).2.2 | (with_reducible refine Kd.C_alloc ?_ _) | (with_reducible refine Kd.C_drewN ?_ _) | (with_reducible refine Kd.C_drew ?_))); (case side2 => exact (Kd.S_reads' HO_8.out).2.1); (case side3 => repeat (first | exact (Kd.S_reads' HO215.out).2.2 | (with_reducible refine Kd.C_alloc ?_ _) | (with_reducible refine Kd.C_drewN ?_ _) | (with_reducible refine Kd.C_drew ?_))); (case side4 => exact (Kd.S_reads' HO215.out).2.1); rintro e w' ⟨rfl, ⟨nd, rfl⟩⟩; refine ⟨_, rfl, ?_⟩) | ((with_reducible refine gate_callee (f := 16) rfl ?_); refine goesL_ (some 61) rfl rfl Try.func16 (by kernel_rfl) rfl #[.slice A1 l1.length c1] rfl (by (try simp only [List.map_toArray, List.map_cons, List.map_nil]); first | done | rfl | (simp only [List.length_drop, List.length_take]; rfl)) ?_; (with_reducible refine (laws_toStringSS.calls kj12 _ _ l1 t217 _ ?side1 ?side2 A34.out).mono ?_); (case side1 => repeat (first | exact (Kd.C_below HR1.out (by repeat (first | (with_reducible first | exact HB.out | apply below_alloc | apply pw_below_drewN | apply below_drew1) | exact HB.out | exact Below.refl _ _))) | (with_reducible refine Kd.C_alloc ?_ _) | (with_reducible refine Kd.C_drewN ?_ _) | (with_reducible refine Kd.C_drew ?_))); (case side2 => exact HC1.out); rintro e w85 ⟨v218, rfl, ho0, hb⟩; refine ⟨_, rfl, ?_⟩; have n0_ := Aside0.mk (Kd.R_below (by (with_reducible repeat (first | apply Kd.R_alloc | apply Kd.R_drewN | apply Kd.R_drew)); exact HO_6.out) hb); have n1_ := Aside0.mk (Kd.S_elder' (by (with_reducible repeat (first | apply Kd.S_alloc | apply Kd.S_drewN | apply Kd.S_drew)); exact HO_8.out) (Kd.S_base ho0) hb); have n2_ := Aside0.mk (Kd.S_elder' (by (with_reducible repeat (first | apply Kd.S_alloc | apply Kd.S_drewN | apply Kd.S_drew)); exact HO_9.out) (Kd.S_base ho0) hb); have n3_ := Aside0.mk (Kd.R_below (by (with_reducible repeat (first | apply Kd.R_alloc | apply Kd.R_drewN | apply Kd.R_drew)); exact HO_10.out) hb); have n4_ := Aside0.mk (Kd.S_elder' (by (with_reducible repeat (first | apply Kd.S_alloc | apply Kd.S_drewN | apply Kd.S_drew)); exact HO215.out) (Kd.S_base ho0) hb); have n5_ := Aside0.mk (Kd.S_lower (Kd.S_new' (Kd.S_new' (Kd.S_new' ho0 (Kd.S_lt (by (with_reducible repeat (first | apply Kd.S_alloc | apply Kd.S_drewN | apply Kd.S_drew)); exact HO_8.out))) (Kd.S_lt (by (with_reducible repeat (first | apply Kd.S_alloc | apply Kd.S_drewN | apply Kd.S_drew)); exact HO_9.out))) (Kd.S_lt (by (with_reducible repeat (first | apply Kd.S_alloc | apply Kd.S_drewN | apply Kd.S_drew)); exact HO215.out))) (below_size (by repeat (first | (with_reducible first | exact HB.out | apply below_alloc | apply pw_below_drewN | apply below_drew1) | exact HB.out | exact Below.refl _ _)))); have n6_ := Aside0.mk (below_step (by repeat (first | (with_reducible first | exact HB.out | apply below_alloc | apply pw_below_drewN | apply below_drew1) | exact HB.out | exact Below.refl _ _)) hb); clear HO_6; clear HO_8; clear HO_9; clear HO_10; clear HO215; clear HB; have HO_6 := n0_; have HO_8 := n1_; have HO_9 := n2_; have HO_10 := n3_; have HO215 := n4_; have HO219 := n5_; have HB := n6_; clear n0_ n1_ n2_ n3_ n4_ n5_ n6_; (try clear hb); (try clear hb2); (try clear hk); (try clear hi); (try clear ho0); obtain ⟨Ao86, co86, eo86⟩ := Kd.S_slice HO219.out; subst eo86) | ((with_reducible refine gate_callee (f := 18) rfl ?_); refine goesL_ (some 62) rfl rfl Try.func18 (by kernel_rfl) rfl #[.slice Ao22 t205.length co22, .slice Ao86 t217.length co86] rfl (by (try simp only [List.map_toArray, List.map_cons, List.map_nil]); first | done | rfl | (simp only [List.length_drop, List.length_take]; rfl)) ?_; (with_reducible refine (laws_eqStringSS.calls kj12 _ _ t205 _ _ t217 false _ ?side1 ?side2 ?side3 ?side4 A35.out).mono ?_); (case side1 => repeat (first | exact (Kd.S_reads' HO_9.out).2.2 | (with_reducible refine Kd.C_alloc ?_ _) | (with_reducible refine Kd.C_drewN ?_ _) | (with_reducible refine Kd.C_drew ?_))); (case side2 => exact (Kd.S_reads' HO_9.out).2.1); (case side3 => repeat (first | exact (Kd.S_reads' HO219.out).2.2 | (with_reducible refine Kd.C_alloc ?_ _) | (with_reducible refine Kd.C_drewN ?_ _) | (with_reducible refine Kd.C_drew ?_))); (case side4 => exact (Kd.S_reads' HO219.out).2.1); rintro e w' ⟨rfl, ⟨nd, rfl⟩⟩; refine ⟨_, rfl, ?_⟩))
                go_ret
                exact ⟨by first | rfl | (simp [errW_none, errW_some] <;> rfl) | (simp [*, errW_none, errW_some] <;> rfl), by repeat (first | (with_reducible first | exact HB.out | apply below_alloc | apply pw_below_drewN | apply below_drew1) | exact HB.out | exact Below.refl _ _)⟩
            · replace c33 := Bool.eq_false_iff.mpr c33
              subst c33
              have H1 : (some false) = some r := by rw [if_neg (show ¬ (false = true) by decide)] at H; exact H
              clear H
              have H := H1
              clear H1
              obtain rfl := Option.some.inj H
              go_wp2_with (first | ((with_reducible refine gate_callee (f := 16) rfl ?_); refine goesL_ (some 56) rfl rfl Try.func16 (by kernel_rfl) rfl #[.slice A0 l0.length c0] rfl (by (try simp only [List.map_toArray, List.map_cons, List.map_nil]); first | done | rfl | (simp only [List.length_drop, List.length_take]; rfl)) ?_; (with_reducible refine (laws_toStringSS.calls kj12 _ _ l0 t213 _ ?side1 ?side2 A31.out).mono ?_); (case side1 => repeat (first | exact (Kd.C_below HR0.out HB.out) | exact HR0.out | (with_reducible refine Kd.C_alloc ?_ _) | (with_reducible refine Kd.C_drewN ?_ _) | (with_reducible refine Kd.C_drew ?_))); (case side2 => exact HC0.out); rintro e w87 ⟨v214, rfl, ho0, hb⟩; refine ⟨_, rfl, ?_⟩; have n0_ := Aside0.mk (Kd.R_below (by (with_reducible repeat (first | apply Kd.R_alloc | apply Kd.R_drewN | apply Kd.R_drew)); exact HO_6.out) hb); have n1_ := Aside0.mk (Kd.S_elder' (by (with_reducible repeat (first | apply Kd.S_alloc | apply Kd.S_drewN | apply Kd.S_drew)); exact HO_8.out) (Kd.S_base ho0) hb); have n2_ := Aside0.mk (Kd.S_elder' (by (with_reducible repeat (first | apply Kd.S_alloc | apply Kd.S_drewN | apply Kd.S_drew)); exact HO_9.out) (Kd.S_base ho0) hb); have n3_ := Aside0.mk (Kd.R_below (by (with_reducible repeat (first | apply Kd.R_alloc | apply Kd.R_drewN | apply Kd.R_drew)); exact HO_10.out) hb); have n4_ := Aside0.mk (Kd.S_lower (Kd.S_new' (Kd.S_new' ho0 (Kd.S_lt (by (with_reducible repeat (first | apply Kd.S_alloc | apply Kd.S_drewN | apply Kd.S_drew)); exact HO_8.out))) (Kd.S_lt (by (with_reducible repeat (first | apply Kd.S_alloc | apply Kd.S_drewN | apply Kd.S_drew)); exact HO_9.out))) (below_size (by repeat (first | (with_reducible first | exact HB.out | apply below_alloc | apply pw_below_drewN | apply below_drew1) | exact HB.out | exact Below.refl _ _)))); have n5_ := Aside0.mk (below_step (by repeat (first | (with_reducible first | exact HB.out | apply below_alloc | apply pw_below_drewN | apply below_drew1) | exact HB.out | exact Below.refl _ _)) hb); clear HO_6; clear HO_8; clear HO_9; clear HO_10; clear HB; have HO_6 := n0_; have HO_8 := n1_; have HO_9 := n2_; have HO_10 := n3_; have HO215 := n4_; have HB := n5_; clear n0_ n1_ n2_ n3_ n4_ n5_; (try clear hb); (try clear hb2); (try clear hk); (try clear hi); (try clear ho0); obtain ⟨Ao88, co88, eo88⟩ := Kd.S_slice HO215.out; subst eo88) | ((with_reducible refine gate_callee (f := 18) rfl ?_); refine goesL_ (some 57) rfl rfl Try.func18 (by kernel_rfl) rfl #[.slice Ao21 t202.length co21, .slice Ao88 t213.length co88] rfl (by (try simp only [List.map_toArray, List.map_cons, List.map_nil]); first | done | rfl | (simp only [List.length_drop, List.length_take]; rfl)) ?_; (with_reducible refine (laws_eqStringSS.calls kj12 _ _ t202 _ _ t213 false _ ?side1 ?side2 ?side3 ?side4 A32.out).mono ?_); (case side1 => repeat (first | exact (Kd.S_reads' HO_8.out).2.2 | (with_reducible refine Kd.C_alloc ?_ _) | (with_reducible refine Kd.C_drewN ?_ _) | (with_reducible refine Kd.C_drew ?_))); (case side2 => exact (Kd.S_reads' HO_8.out).2.1); (case side3 => repeat (first | exact (Kd.S_reads' HO215.out).2.2 | (with_reducible refine Kd.C_alloc ?_ _) | (with_reducible refine Kd.C_drewN ?_ _) | (with_reducible refine Kd.C_drew ?_))); (case side4 => exact (Kd.S_reads' HO215.out).2.1); rintro e w' ⟨rfl, ⟨nd, rfl⟩⟩; refine ⟨_, rfl, ?_⟩))
              go_ret
              exact ⟨by first | rfl | (simp [errW_none, errW_some] <;> rfl) | (simp [*, errW_none, errW_some] <;> rfl), by repeat (first | (with_reducible first | exact HB.out | apply below_alloc | apply pw_below_drewN | apply below_drew1) | exact HB.out | exact Below.refl _ _)⟩

end Go.Proofs.Ytcnhdcgiapjpoaa.PFnExactCountInState
