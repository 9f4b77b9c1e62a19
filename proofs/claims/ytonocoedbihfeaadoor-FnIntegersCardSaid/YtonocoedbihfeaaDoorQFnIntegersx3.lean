/- What the functions of FnIntegers compute, each with its proof: this session's own text. -/
import Derived.Test.YtonocoedbihfeaaDoorQFnIntegersx0
import Derived.Test.YtonocoedbihfeaaDoorQFnIntegersx1
import Derived.Test.YtonocoedbihfeaaDoorQFnIntegersx2
namespace Go.Proofs.YtonocoedbihfeaaDoor.PFnIntegers
open Go.RowKit Go.Proofs.YtonocoedbihfeaaDoorW.PrintWords Go.Proofs.YtonocoedbihfeaaDoorW.PrintLast Go.Proofs.YtonocoedbihfeaaDoorW.PrintMore Go.Proofs.YtonocoedbihfeaaDoor.Sh
attribute [local go_sem] max2_int min2_int max_two min_two max_three min_three max_four min_four   -- for this text's walks alone
set_option linter.unusedVariables false
set_option linter.unusedSimpArgs false

/-! ### laws_FnIntegers: function 4 -/
mutual
def laws_FnIntegers.j0 : Nat → Int → Int → Int → Int → Bool → Option (Bool)
 | 0, _, _, _, _, _ => none
 | k + 1, x9, x10, x11, x12, x65 => if x65 = true then (some false) else (if x10 < 1 then (laws_FnIntegers.j1 k x9 x10 x11 x12 true) else (laws_FnIntegers.j1 k x9 x10 x11 x12 (decide (x10 > 1000000000000))))
def laws_FnIntegers.j1 : Nat → Int → Int → Int → Int → Bool → Option (Bool)
 | 0, _, _, _, _, _ => none
 | k + 1, x9, x10, x11, x12, x71 => if x71 = true then (if x11 = 0 then (some (x12 == 0)) else (some false)) else (if x12 < 0 then (laws_FnIntegers.j2 k x9 x10 x11 true) else (if x12 ≥ x10 then (laws_FnIntegers.j2 k x9 x10 x11 true) else (if x10 = 0 then (none) else (laws_FnIntegers.j2 k x9 x10 x11 ((Int.tmod (wrap64 ((Int.tmod x9 x10) - x12)) x10) != 0)))))
def laws_FnIntegers.j2 : Nat → Int → Int → Int → Bool → Option (Bool)
 | 0, _, _, _, _ => none
 | k + 1, x9, x10, x11, x94 => if x94 = true then (some false) else (if x9 < 0 then (some (x11 == 0)) else (if x9 > 1000000000000 then (some (x11 == 0)) else (if (wrap64 (x11 * x10)) ≥ x9 then (some (decide ((wrap64 ((wrap64 (x11 * x10)) - x9)) < x10))) else (some false))))
end
def laws_FnIntegers.f (k : Nat) (l0 : List Int) : Option (Bool) := (laws_big.f l0).bind fun t238 => (if t238 = true then (some true) else ((spec_DrawParseInt.f k l0).bind fun t239 => ((impl_ParseInt.f k t239).bind fun bt240 => ((spec_DrawFormatInt.f k l0).bind fun t242 => ((impl_FormatInt.f t242).bind fun t243 => ((impl_ParseInt.f k t243).bind fun bt244 => ((spec_DrawCeilDiv.f k l0).bind fun bt246 => ((impl_CeilDiv.f bt246.1 bt246.2).bind fun t248 => ((impl_Mod.f bt246.1 bt246.2).bind fun t249 => (if bt240.2 = true then ((impl_FormatInt.f bt240.1).bind fun t250 => (if t250.toList = t239.toList then (if t242 ≥ 0 then (if (bt244.2 != (decide (t242 ≤ 1000000000000))) = true then (laws_FnIntegers.j0 k bt246.1 bt246.2 t248 t249 true) else (if bt244.2 = true then (laws_FnIntegers.j0 k bt246.1 bt246.2 t248 t249 (bt244.1 != t242)) else (laws_FnIntegers.j0 k bt246.1 bt246.2 t248 t249 false))) else (if (bt244.2 != false) = true then (laws_FnIntegers.j0 k bt246.1 bt246.2 t248 t249 true) else (if bt244.2 = true then (laws_FnIntegers.j0 k bt246.1 bt246.2 t248 t249 (bt244.1 != t242)) else (laws_FnIntegers.j0 k bt246.1 bt246.2 t248 t249 false)))) else (laws_FnIntegers.j0 k bt246.1 bt246.2 t248 t249 true))) else (if t242 ≥ 0 then (if (bt244.2 != (decide (t242 ≤ 1000000000000))) = true then (laws_FnIntegers.j0 k bt246.1 bt246.2 t248 t249 true) else (if bt244.2 = true then (laws_FnIntegers.j0 k bt246.1 bt246.2 t248 t249 (bt244.1 != t242)) else (laws_FnIntegers.j0 k bt246.1 bt246.2 t248 t249 false))) else (if (bt244.2 != false) = true then (laws_FnIntegers.j0 k bt246.1 bt246.2 t248 t249 true) else (if bt244.2 = true then (laws_FnIntegers.j0 k bt246.1 bt246.2 t248 t249 (bt244.1 != t242)) else (laws_FnIntegers.j0 k bt246.1 bt246.2 t248 t249 false))))))))))))))
theorem laws_FnIntegers.mono_l : ∀ k, (∀ y0 y1 y2 y3 y4, LeO (laws_FnIntegers.j0 k y0 y1 y2 y3 y4) (laws_FnIntegers.j0 (k + 1) y0 y1 y2 y3 y4)) ∧ (∀ y0 y1 y2 y3 y4, LeO (laws_FnIntegers.j1 k y0 y1 y2 y3 y4) (laws_FnIntegers.j1 (k + 1) y0 y1 y2 y3 y4)) ∧ (∀ y0 y1 y2 y3, LeO (laws_FnIntegers.j2 k y0 y1 y2 y3) (laws_FnIntegers.j2 (k + 1) y0 y1 y2 y3))
 | 0 => ⟨fun _ _ _ _ _ r h => by simp [laws_FnIntegers.j0] at h, fun _ _ _ _ _ r h => by simp [laws_FnIntegers.j1] at h, fun _ _ _ _ r h => by simp [laws_FnIntegers.j2] at h⟩
 | k + 1 => by
  obtain ⟨ih0, ih1, ih2⟩ := laws_FnIntegers.mono_l k
  refine ⟨?_, ?_, ?_⟩
  ·intro y0 y1 y2 y3 y4
   unfold laws_FnIntegers.j0
   repeat' first
   | (with_reducible exact ih0 _ _ _ _ _)
   | (with_reducible exact ih1 _ _ _ _ _)
   | (with_reducible exact ih2 _ _ _ _)
   | (with_reducible exact impl_ParseInt.mono _ _)
   | (with_reducible exact spec_DrawCeilDiv.mono _ _)
   | (with_reducible exact spec_DrawFormatInt.mono _ _)
   | (with_reducible exact spec_DrawParseInt.mono _ _)
   | (with_reducible exact LeO.refl _)
   | (with_reducible exact LeO.none _)
   | (with_reducible refine LeO.ite ?_ ?_)
   | (with_reducible refine LeO.bind ?_ (fun _ => ?_))
   | exact ih0 _ _ _ _ _
   | exact ih1 _ _ _ _ _
   | exact ih2 _ _ _ _
   | exact impl_ParseInt.mono _ _
   | exact spec_DrawCeilDiv.mono _ _
   | exact spec_DrawFormatInt.mono _ _
   | exact spec_DrawParseInt.mono _ _
   | exact LeO.none _
   | refine LeO.ite ?_ ?_
   | refine LeO.bind ?_ (fun _ => ?_)
  ·intro y0 y1 y2 y3 y4
   unfold laws_FnIntegers.j1
   repeat' first
   | (with_reducible exact ih0 _ _ _ _ _)
   | (with_reducible exact ih1 _ _ _ _ _)
   | (with_reducible exact ih2 _ _ _ _)
   | (with_reducible exact impl_ParseInt.mono _ _)
   | (with_reducible exact spec_DrawCeilDiv.mono _ _)
   | (with_reducible exact spec_DrawFormatInt.mono _ _)
   | (with_reducible exact spec_DrawParseInt.mono _ _)
   | (with_reducible exact LeO.refl _)
   | (with_reducible exact LeO.none _)
   | (with_reducible refine LeO.ite ?_ ?_)
   | (with_reducible refine LeO.bind ?_ (fun _ => ?_))
   | exact ih0 _ _ _ _ _
   | exact ih1 _ _ _ _ _
   | exact ih2 _ _ _ _
   | exact impl_ParseInt.mono _ _
   | exact spec_DrawCeilDiv.mono _ _
   | exact spec_DrawFormatInt.mono _ _
   | exact spec_DrawParseInt.mono _ _
   | exact LeO.none _
   | refine LeO.ite ?_ ?_
   | refine LeO.bind ?_ (fun _ => ?_)
  ·intro y0 y1 y2 y3
   unfold laws_FnIntegers.j2
   repeat' first
   | (with_reducible exact ih0 _ _ _ _ _)
   | (with_reducible exact ih1 _ _ _ _ _)
   | (with_reducible exact ih2 _ _ _ _)
   | (with_reducible exact impl_ParseInt.mono _ _)
   | (with_reducible exact spec_DrawCeilDiv.mono _ _)
   | (with_reducible exact spec_DrawFormatInt.mono _ _)
   | (with_reducible exact spec_DrawParseInt.mono _ _)
   | (with_reducible exact LeO.refl _)
   | (with_reducible exact LeO.none _)
   | (with_reducible refine LeO.ite ?_ ?_)
   | (with_reducible refine LeO.bind ?_ (fun _ => ?_))
   | exact ih0 _ _ _ _ _
   | exact ih1 _ _ _ _ _
   | exact ih2 _ _ _ _
   | exact impl_ParseInt.mono _ _
   | exact spec_DrawCeilDiv.mono _ _
   | exact spec_DrawFormatInt.mono _ _
   | exact spec_DrawParseInt.mono _ _
   | exact LeO.none _
   | refine LeO.ite ?_ ?_
   | refine LeO.bind ?_ (fun _ => ?_)
theorem laws_FnIntegers.mono : ∀ a0 k, LeO (laws_FnIntegers.f k a0) (laws_FnIntegers.f (k + 1) a0) := by
 intro a0 k
 obtain ⟨ih0, ih1, ih2⟩ := laws_FnIntegers.mono_l k
 unfold laws_FnIntegers.f
 repeat' first
   | (with_reducible exact ih0 _ _ _ _ _)
   | (with_reducible exact ih1 _ _ _ _ _)
   | (with_reducible exact ih2 _ _ _ _)
   | (with_reducible exact impl_ParseInt.mono _ _)
   | (with_reducible exact spec_DrawCeilDiv.mono _ _)
   | (with_reducible exact spec_DrawFormatInt.mono _ _)
   | (with_reducible exact spec_DrawParseInt.mono _ _)
   | (with_reducible exact LeO.refl _)
   | (with_reducible exact LeO.none _)
   | (with_reducible refine LeO.ite ?_ ?_)
   | (with_reducible refine LeO.bind ?_ (fun _ => ?_))
   | exact ih0 _ _ _ _ _
   | exact ih1 _ _ _ _ _
   | exact ih2 _ _ _ _
   | exact impl_ParseInt.mono _ _
   | exact spec_DrawCeilDiv.mono _ _
   | exact spec_DrawFormatInt.mono _ _
   | exact spec_DrawParseInt.mono _ _
   | exact LeO.none _
   | refine LeO.ite ?_ ?_
   | refine LeO.bind ?_ (fun _ => ?_)
set_option maxHeartbeats 8000000 in
set_option maxRecDepth 100000 in
theorem laws_FnIntegers.calls (k : Nat) (A0 : Option Addr) (c0 : Nat) (l0 : List Int) (r : Bool) (w : World) (hr0 : Kd.C (Kd.int .u8) w A0 l0.length l0) (hc0 : l0.length ≤ c0) (htab : Tab w) (h : laws_FnIntegers.f k l0 = some r) :
  Calls Tryd.prog 4 #[.slice A0 l0.length c0] w fun e w' => e = .returned (.bool r) ∧ Below w.heap.size w w' := by
 have HTAB := Aside0.mk htab
 clear htab
 have HR0 := Aside0.mk hr0
 have HC0 := Aside0.mk hc0
 clear hr0 hc0
 have HB := Aside0.mk (Below.refl w.heap.size w)
 have H : ((laws_big.f l0).bind fun t238 => (if t238 = true then (some true) else ((spec_DrawParseInt.f k l0).bind fun t239 => ((impl_ParseInt.f k t239).bind fun bt240 => ((spec_DrawFormatInt.f k l0).bind fun t242 => ((impl_FormatInt.f t242).bind fun t243 => ((impl_ParseInt.f k t243).bind fun bt244 => ((spec_DrawCeilDiv.f k l0).bind fun bt246 => ((impl_CeilDiv.f bt246.1 bt246.2).bind fun t248 => ((impl_Mod.f bt246.1 bt246.2).bind fun t249 => (if bt240.2 = true then ((impl_FormatInt.f bt240.1).bind fun t250 => (if t250.toList = t239.toList then (if t242 ≥ 0 then (if (bt244.2 != (decide (t242 ≤ 1000000000000))) = true then (laws_FnIntegers.j0 k bt246.1 bt246.2 t248 t249 true) else (if bt244.2 = true then (laws_FnIntegers.j0 k bt246.1 bt246.2 t248 t249 (bt244.1 != t242)) else (laws_FnIntegers.j0 k bt246.1 bt246.2 t248 t249 false))) else (if (bt244.2 != false) = true then (laws_FnIntegers.j0 k bt246.1 bt246.2 t248 t249 true) else (if bt244.2 = true then (laws_FnIntegers.j0 k bt246.1 bt246.2 t248 t249 (bt244.1 != t242)) else (laws_FnIntegers.j0 k bt246.1 bt246.2 t248 t249 false)))) else (laws_FnIntegers.j0 k bt246.1 bt246.2 t248 t249 true))) else (if t242 ≥ 0 then (if (bt244.2 != (decide (t242 ≤ 1000000000000))) = true then (laws_FnIntegers.j0 k bt246.1 bt246.2 t248 t249 true) else (if bt244.2 = true then (laws_FnIntegers.j0 k bt246.1 bt246.2 t248 t249 (bt244.1 != t242)) else (laws_FnIntegers.j0 k bt246.1 bt246.2 t248 t249 false))) else (if (bt244.2 != false) = true then (laws_FnIntegers.j0 k bt246.1 bt246.2 t248 t249 true) else (if bt244.2 = true then (laws_FnIntegers.j0 k bt246.1 bt246.2 t248 t249 (bt244.1 != t242)) else (laws_FnIntegers.j0 k bt246.1 bt246.2 t248 t249 false))))))))))))))) = some r := h
 clear h
 replace H := Option.bind_eq_some_iff.mp H
 obtain ⟨t238, A20, H⟩ := H
 replace H : (if t238 = true then (some true) else ((spec_DrawParseInt.f k l0).bind fun t239 => ((impl_ParseInt.f k t239).bind fun bt240 => ((spec_DrawFormatInt.f k l0).bind fun t242 => ((impl_FormatInt.f t242).bind fun t243 => ((impl_ParseInt.f k t243).bind fun bt244 => ((spec_DrawCeilDiv.f k l0).bind fun bt246 => ((impl_CeilDiv.f bt246.1 bt246.2).bind fun t248 => ((impl_Mod.f bt246.1 bt246.2).bind fun t249 => (if bt240.2 = true then ((impl_FormatInt.f bt240.1).bind fun t250 => (if t250.toList = t239.toList then (if t242 ≥ 0 then (if (bt244.2 != (decide (t242 ≤ 1000000000000))) = true then (laws_FnIntegers.j0 k bt246.1 bt246.2 t248 t249 true) else (if bt244.2 = true then (laws_FnIntegers.j0 k bt246.1 bt246.2 t248 t249 (bt244.1 != t242)) else (laws_FnIntegers.j0 k bt246.1 bt246.2 t248 t249 false))) else (if (bt244.2 != false) = true then (laws_FnIntegers.j0 k bt246.1 bt246.2 t248 t249 true) else (if bt244.2 = true then (laws_FnIntegers.j0 k bt246.1 bt246.2 t248 t249 (bt244.1 != t242)) else (laws_FnIntegers.j0 k bt246.1 bt246.2 t248 t249 false)))) else (laws_FnIntegers.j0 k bt246.1 bt246.2 t248 t249 true))) else (if t242 ≥ 0 then (if (bt244.2 != (decide (t242 ≤ 1000000000000))) = true then (laws_FnIntegers.j0 k bt246.1 bt246.2 t248 t249 true) else (if bt244.2 = true then (laws_FnIntegers.j0 k bt246.1 bt246.2 t248 t249 (bt244.1 != t242)) else (laws_FnIntegers.j0 k bt246.1 bt246.2 t248 t249 false))) else (if (bt244.2 != false) = true then (laws_FnIntegers.j0 k bt246.1 bt246.2 t248 t249 true) else (if bt244.2 = true then (laws_FnIntegers.j0 k bt246.1 bt246.2 t248 t249 (bt244.1 != t242)) else (laws_FnIntegers.j0 k bt246.1 bt246.2 t248 t249 false)))))))))))))) = some r := H
 have A2 := Aside0.mk A20
 clear A20
 by_cases c3 : t238 = true
 ·subst c3
  have H1 : (some true) = some r := by rw [if_pos rfl] at H; exact H
  clear H
  have H := H1
  clear H1
  obtain rfl := Option.some.inj H
  go_enter Tryd.func4, Tryd.ntmps4
  go_wp2_with (first | ((with_reducible refine gate_callee (f := 7) rfl ?_); refine goesL_ (some 14) rfl rfl Tryd.func7 (by kernel_rfl) rfl #[.slice A0 l0.length c0] rfl (by (try simp only [List.map_toArray, List.map_cons, List.map_nil]); first | done | rfl | (simp only [List.length_drop, List.length_take]; rfl)) ?_; (with_reducible refine (laws_big.calls _ _ l0 true _ ?side1 ?side2 A2.out).mono ?_); (case side1 => repeat (first | exact HR0.out | (with_reducible refine Kd.C_alloc ?_ _) | (with_reducible refine Kd.C_drewN ?_ _) | (with_reducible refine Kd.C_drew ?_))); (case side2 => exact HC0.out); rintro e w' ⟨rfl, ⟨nd, rfl⟩⟩; refine ⟨_, rfl, ?_⟩))
  go_ret
  exact ⟨by first | rfl | (simp [errW_none, errW_some] <;> rfl) | (simp [*, errW_none, errW_some] <;> rfl), by repeat (first | (with_reducible first | exact HB.out | apply below_alloc | apply pw_below_drewN | apply below_drew1) | exact HB.out)⟩
 ·replace c3 := Bool.eq_false_iff.mpr c3
  subst c3
  have H1 : ((spec_DrawParseInt.f k l0).bind fun t239 => ((impl_ParseInt.f k t239).bind fun bt240 => ((spec_DrawFormatInt.f k l0).bind fun t242 => ((impl_FormatInt.f t242).bind fun t243 => ((impl_ParseInt.f k t243).bind fun bt244 => ((spec_DrawCeilDiv.f k l0).bind fun bt246 => ((impl_CeilDiv.f bt246.1 bt246.2).bind fun t248 => ((impl_Mod.f bt246.1 bt246.2).bind fun t249 => (if bt240.2 = true then ((impl_FormatInt.f bt240.1).bind fun t250 => (if t250.toList = t239.toList then (if t242 ≥ 0 then (if (bt244.2 != (decide (t242 ≤ 1000000000000))) = true then (laws_FnIntegers.j0 k bt246.1 bt246.2 t248 t249 true) else (if bt244.2 = true then (laws_FnIntegers.j0 k bt246.1 bt246.2 t248 t249 (bt244.1 != t242)) else (laws_FnIntegers.j0 k bt246.1 bt246.2 t248 t249 false))) else (if (bt244.2 != false) = true then (laws_FnIntegers.j0 k bt246.1 bt246.2 t248 t249 true) else (if bt244.2 = true then (laws_FnIntegers.j0 k bt246.1 bt246.2 t248 t249 (bt244.1 != t242)) else (laws_FnIntegers.j0 k bt246.1 bt246.2 t248 t249 false)))) else (laws_FnIntegers.j0 k bt246.1 bt246.2 t248 t249 true))) else (if t242 ≥ 0 then (if (bt244.2 != (decide (t242 ≤ 1000000000000))) = true then (laws_FnIntegers.j0 k bt246.1 bt246.2 t248 t249 true) else (if bt244.2 = true then (laws_FnIntegers.j0 k bt246.1 bt246.2 t248 t249 (bt244.1 != t242)) else (laws_FnIntegers.j0 k bt246.1 bt246.2 t248 t249 false))) else (if (bt244.2 != false) = true then (laws_FnIntegers.j0 k bt246.1 bt246.2 t248 t249 true) else (if bt244.2 = true then (laws_FnIntegers.j0 k bt246.1 bt246.2 t248 t249 (bt244.1 != t242)) else (laws_FnIntegers.j0 k bt246.1 bt246.2 t248 t249 false))))))))))))) = some r := by rw [if_neg (show ¬ (false = true) by decide)] at H; exact H
  clear H
  have H := H1
  clear H1
  replace H := Option.bind_eq_some_iff.mp H
  obtain ⟨t239, A40, H⟩ := H
  replace H : ((impl_ParseInt.f k t239).bind fun bt240 => ((spec_DrawFormatInt.f k l0).bind fun t242 => ((impl_FormatInt.f t242).bind fun t243 => ((impl_ParseInt.f k t243).bind fun bt244 => ((spec_DrawCeilDiv.f k l0).bind fun bt246 => ((impl_CeilDiv.f bt246.1 bt246.2).bind fun t248 => ((impl_Mod.f bt246.1 bt246.2).bind fun t249 => (if bt240.2 = true then ((impl_FormatInt.f bt240.1).bind fun t250 => (if t250.toList = t239.toList then (if t242 ≥ 0 then (if (bt244.2 != (decide (t242 ≤ 1000000000000))) = true then (laws_FnIntegers.j0 k bt246.1 bt246.2 t248 t249 true) else (if bt244.2 = true then (laws_FnIntegers.j0 k bt246.1 bt246.2 t248 t249 (bt244.1 != t242)) else (laws_FnIntegers.j0 k bt246.1 bt246.2 t248 t249 false))) else (if (bt244.2 != false) = true then (laws_FnIntegers.j0 k bt246.1 bt246.2 t248 t249 true) else (if bt244.2 = true then (laws_FnIntegers.j0 k bt246.1 bt246.2 t248 t249 (bt244.1 != t242)) else (laws_FnIntegers.j0 k bt246.1 bt246.2 t248 t249 false)))) else (laws_FnIntegers.j0 k bt246.1 bt246.2 t248 t249 true))) else (if t242 ≥ 0 then (if (bt244.2 != (decide (t242 ≤ 1000000000000))) = true then (laws_FnIntegers.j0 k bt246.1 bt246.2 t248 t249 true) else (if bt244.2 = true then (laws_FnIntegers.j0 k bt246.1 bt246.2 t248 t249 (bt244.1 != t242)) else (laws_FnIntegers.j0 k bt246.1 bt246.2 t248 t249 false))) else (if (bt244.2 != false) = true then (laws_FnIntegers.j0 k bt246.1 bt246.2 t248 t249 true) else (if bt244.2 = true then (laws_FnIntegers.j0 k bt246.1 bt246.2 t248 t249 (bt244.1 != t242)) else (laws_FnIntegers.j0 k bt246.1 bt246.2 t248 t249 false)))))))))))) = some r := H
  have A4 := Aside0.mk A40
  clear A40
  replace H := Option.bind_eq_some_iff.mp H
  obtain ⟨⟨t240, t241⟩, A50, H⟩ := H
  replace H : ((spec_DrawFormatInt.f k l0).bind fun t242 => ((impl_FormatInt.f t242).bind fun t243 => ((impl_ParseInt.f k t243).bind fun bt244 => ((spec_DrawCeilDiv.f k l0).bind fun bt246 => ((impl_CeilDiv.f bt246.1 bt246.2).bind fun t248 => ((impl_Mod.f bt246.1 bt246.2).bind fun t249 => (if t241 = true then ((impl_FormatInt.f t240).bind fun t250 => (if t250.toList = t239.toList then (if t242 ≥ 0 then (if (bt244.2 != (decide (t242 ≤ 1000000000000))) = true then (laws_FnIntegers.j0 k bt246.1 bt246.2 t248 t249 true) else (if bt244.2 = true then (laws_FnIntegers.j0 k bt246.1 bt246.2 t248 t249 (bt244.1 != t242)) else (laws_FnIntegers.j0 k bt246.1 bt246.2 t248 t249 false))) else (if (bt244.2 != false) = true then (laws_FnIntegers.j0 k bt246.1 bt246.2 t248 t249 true) else (if bt244.2 = true then (laws_FnIntegers.j0 k bt246.1 bt246.2 t248 t249 (bt244.1 != t242)) else (laws_FnIntegers.j0 k bt246.1 bt246.2 t248 t249 false)))) else (laws_FnIntegers.j0 k bt246.1 bt246.2 t248 t249 true))) else (if t242 ≥ 0 then (if (bt244.2 != (decide (t242 ≤ 1000000000000))) = true then (laws_FnIntegers.j0 k bt246.1 bt246.2 t248 t249 true) else (if bt244.2 = true then (laws_FnIntegers.j0 k bt246.1 bt246.2 t248 t249 (bt244.1 != t242)) else (laws_FnIntegers.j0 k bt246.1 bt246.2 t248 t249 false))) else (if (bt244.2 != false) = true then (laws_FnIntegers.j0 k bt246.1 bt246.2 t248 t249 true) else (if bt244.2 = true then (laws_FnIntegers.j0 k bt246.1 bt246.2 t248 t249 (bt244.1 != t242)) else (laws_FnIntegers.j0 k bt246.1 bt246.2 t248 t249 false))))))))))) = some r := H
  have A5 := Aside0.mk A50
  clear A50
  replace H := Option.bind_eq_some_iff.mp H
  obtain ⟨t242, A60, H⟩ := H
  replace H : ((impl_FormatInt.f t242).bind fun t243 => ((impl_ParseInt.f k t243).bind fun bt244 => ((spec_DrawCeilDiv.f k l0).bind fun bt246 => ((impl_CeilDiv.f bt246.1 bt246.2).bind fun t248 => ((impl_Mod.f bt246.1 bt246.2).bind fun t249 => (if t241 = true then ((impl_FormatInt.f t240).bind fun t250 => (if t250.toList = t239.toList then (if t242 ≥ 0 then (if (bt244.2 != (decide (t242 ≤ 1000000000000))) = true then (laws_FnIntegers.j0 k bt246.1 bt246.2 t248 t249 true) else (if bt244.2 = true then (laws_FnIntegers.j0 k bt246.1 bt246.2 t248 t249 (bt244.1 != t242)) else (laws_FnIntegers.j0 k bt246.1 bt246.2 t248 t249 false))) else (if (bt244.2 != false) = true then (laws_FnIntegers.j0 k bt246.1 bt246.2 t248 t249 true) else (if bt244.2 = true then (laws_FnIntegers.j0 k bt246.1 bt246.2 t248 t249 (bt244.1 != t242)) else (laws_FnIntegers.j0 k bt246.1 bt246.2 t248 t249 false)))) else (laws_FnIntegers.j0 k bt246.1 bt246.2 t248 t249 true))) else (if t242 ≥ 0 then (if (bt244.2 != (decide (t242 ≤ 1000000000000))) = true then (laws_FnIntegers.j0 k bt246.1 bt246.2 t248 t249 true) else (if bt244.2 = true then (laws_FnIntegers.j0 k bt246.1 bt246.2 t248 t249 (bt244.1 != t242)) else (laws_FnIntegers.j0 k bt246.1 bt246.2 t248 t249 false))) else (if (bt244.2 != false) = true then (laws_FnIntegers.j0 k bt246.1 bt246.2 t248 t249 true) else (if bt244.2 = true then (laws_FnIntegers.j0 k bt246.1 bt246.2 t248 t249 (bt244.1 != t242)) else (laws_FnIntegers.j0 k bt246.1 bt246.2 t248 t249 false)))))))))) = some r := H
  have A6 := Aside0.mk A60
  clear A60
  replace H := Option.bind_eq_some_iff.mp H
  obtain ⟨t243, A70, H⟩ := H
  replace H : ((impl_ParseInt.f k t243).bind fun bt244 => ((spec_DrawCeilDiv.f k l0).bind fun bt246 => ((impl_CeilDiv.f bt246.1 bt246.2).bind fun t248 => ((impl_Mod.f bt246.1 bt246.2).bind fun t249 => (if t241 = true then ((impl_FormatInt.f t240).bind fun t250 => (if t250.toList = t239.toList then (if t242 ≥ 0 then (if (bt244.2 != (decide (t242 ≤ 1000000000000))) = true then (laws_FnIntegers.j0 k bt246.1 bt246.2 t248 t249 true) else (if bt244.2 = true then (laws_FnIntegers.j0 k bt246.1 bt246.2 t248 t249 (bt244.1 != t242)) else (laws_FnIntegers.j0 k bt246.1 bt246.2 t248 t249 false))) else (if (bt244.2 != false) = true then (laws_FnIntegers.j0 k bt246.1 bt246.2 t248 t249 true) else (if bt244.2 = true then (laws_FnIntegers.j0 k bt246.1 bt246.2 t248 t249 (bt244.1 != t242)) else (laws_FnIntegers.j0 k bt246.1 bt246.2 t248 t249 false)))) else (laws_FnIntegers.j0 k bt246.1 bt246.2 t248 t249 true))) else (if t242 ≥ 0 then (if (bt244.2 != (decide (t242 ≤ 1000000000000))) = true then (laws_FnIntegers.j0 k bt246.1 bt246.2 t248 t249 true) else (if bt244.2 = true then (laws_FnIntegers.j0 k bt246.1 bt246.2 t248 t249 (bt244.1 != t242)) else (laws_FnIntegers.j0 k bt246.1 bt246.2 t248 t249 false))) else (if (bt244.2 != false) = true then (laws_FnIntegers.j0 k bt246.1 bt246.2 t248 t249 true) else (if bt244.2 = true then (laws_FnIntegers.j0 k bt246.1 bt246.2 t248 t249 (bt244.1 != t242)) else (laws_FnIntegers.j0 k bt246.1 bt246.2 t248 t249 false))))))))) = some r := H
  have A7 := Aside0.mk A70
  clear A70
  replace H := Option.bind_eq_some_iff.mp H
  obtain ⟨⟨t244, t245⟩, A80, H⟩ := H
  replace H : ((spec_DrawCeilDiv.f k l0).bind fun bt246 => ((impl_CeilDiv.f bt246.1 bt246.2).bind fun t248 => ((impl_Mod.f bt246.1 bt246.2).bind fun t249 => (if t241 = true then ((impl_FormatInt.f t240).bind fun t250 => (if t250.toList = t239.toList then (if t242 ≥ 0 then (if (t245 != (decide (t242 ≤ 1000000000000))) = true then (laws_FnIntegers.j0 k bt246.1 bt246.2 t248 t249 true) else (if t245 = true then (laws_FnIntegers.j0 k bt246.1 bt246.2 t248 t249 (t244 != t242)) else (laws_FnIntegers.j0 k bt246.1 bt246.2 t248 t249 false))) else (if (t245 != false) = true then (laws_FnIntegers.j0 k bt246.1 bt246.2 t248 t249 true) else (if t245 = true then (laws_FnIntegers.j0 k bt246.1 bt246.2 t248 t249 (t244 != t242)) else (laws_FnIntegers.j0 k bt246.1 bt246.2 t248 t249 false)))) else (laws_FnIntegers.j0 k bt246.1 bt246.2 t248 t249 true))) else (if t242 ≥ 0 then (if (t245 != (decide (t242 ≤ 1000000000000))) = true then (laws_FnIntegers.j0 k bt246.1 bt246.2 t248 t249 true) else (if t245 = true then (laws_FnIntegers.j0 k bt246.1 bt246.2 t248 t249 (t244 != t242)) else (laws_FnIntegers.j0 k bt246.1 bt246.2 t248 t249 false))) else (if (t245 != false) = true then (laws_FnIntegers.j0 k bt246.1 bt246.2 t248 t249 true) else (if t245 = true then (laws_FnIntegers.j0 k bt246.1 bt246.2 t248 t249 (t244 != t242)) else (laws_FnIntegers.j0 k bt246.1 bt246.2 t248 t249 false)))))))) = some r := H
  have A8 := Aside0.mk A80
  clear A80
  replace H := Option.bind_eq_some_iff.mp H
  obtain ⟨⟨t246, t247⟩, A90, H⟩ := H
  replace H : ((impl_CeilDiv.f t246 t247).bind fun t248 => ((impl_Mod.f t246 t247).bind fun t249 => (if t241 = true then ((impl_FormatInt.f t240).bind fun t250 => (if t250.toList = t239.toList then (if t242 ≥ 0 then (if (t245 != (decide (t242 ≤ 1000000000000))) = true then (laws_FnIntegers.j0 k t246 t247 t248 t249 true) else (if t245 = true then (laws_FnIntegers.j0 k t246 t247 t248 t249 (t244 != t242)) else (laws_FnIntegers.j0 k t246 t247 t248 t249 false))) else (if (t245 != false) = true then (laws_FnIntegers.j0 k t246 t247 t248 t249 true) else (if t245 = true then (laws_FnIntegers.j0 k t246 t247 t248 t249 (t244 != t242)) else (laws_FnIntegers.j0 k t246 t247 t248 t249 false)))) else (laws_FnIntegers.j0 k t246 t247 t248 t249 true))) else (if t242 ≥ 0 then (if (t245 != (decide (t242 ≤ 1000000000000))) = true then (laws_FnIntegers.j0 k t246 t247 t248 t249 true) else (if t245 = true then (laws_FnIntegers.j0 k t246 t247 t248 t249 (t244 != t242)) else (laws_FnIntegers.j0 k t246 t247 t248 t249 false))) else (if (t245 != false) = true then (laws_FnIntegers.j0 k t246 t247 t248 t249 true) else (if t245 = true then (laws_FnIntegers.j0 k t246 t247 t248 t249 (t244 != t242)) else (laws_FnIntegers.j0 k t246 t247 t248 t249 false))))))) = some r := H
  have A9 := Aside0.mk A90
  clear A90
  replace H := Option.bind_eq_some_iff.mp H
  obtain ⟨t248, A100, H⟩ := H
  replace H : ((impl_Mod.f t246 t247).bind fun t249 => (if t241 = true then ((impl_FormatInt.f t240).bind fun t250 => (if t250.toList = t239.toList then (if t242 ≥ 0 then (if (t245 != (decide (t242 ≤ 1000000000000))) = true then (laws_FnIntegers.j0 k t246 t247 t248 t249 true) else (if t245 = true then (laws_FnIntegers.j0 k t246 t247 t248 t249 (t244 != t242)) else (laws_FnIntegers.j0 k t246 t247 t248 t249 false))) else (if (t245 != false) = true then (laws_FnIntegers.j0 k t246 t247 t248 t249 true) else (if t245 = true then (laws_FnIntegers.j0 k t246 t247 t248 t249 (t244 != t242)) else (laws_FnIntegers.j0 k t246 t247 t248 t249 false)))) else (laws_FnIntegers.j0 k t246 t247 t248 t249 true))) else (if t242 ≥ 0 then (if (t245 != (decide (t242 ≤ 1000000000000))) = true then (laws_FnIntegers.j0 k t246 t247 t248 t249 true) else (if t245 = true then (laws_FnIntegers.j0 k t246 t247 t248 t249 (t244 != t242)) else (laws_FnIntegers.j0 k t246 t247 t248 t249 false))) else (if (t245 != false) = true then (laws_FnIntegers.j0 k t246 t247 t248 t249 true) else (if t245 = true then (laws_FnIntegers.j0 k t246 t247 t248 t249 (t244 != t242)) else (laws_FnIntegers.j0 k t246 t247 t248 t249 false)))))) = some r := H
  have A10 := Aside0.mk A100
  clear A100
  replace H := Option.bind_eq_some_iff.mp H
  obtain ⟨t249, A110, H⟩ := H
  replace H : (if t241 = true then ((impl_FormatInt.f t240).bind fun t250 => (if t250.toList = t239.toList then (if t242 ≥ 0 then (if (t245 != (decide (t242 ≤ 1000000000000))) = true then (laws_FnIntegers.j0 k t246 t247 t248 t249 true) else (if t245 = true then (laws_FnIntegers.j0 k t246 t247 t248 t249 (t244 != t242)) else (laws_FnIntegers.j0 k t246 t247 t248 t249 false))) else (if (t245 != false) = true then (laws_FnIntegers.j0 k t246 t247 t248 t249 true) else (if t245 = true then (laws_FnIntegers.j0 k t246 t247 t248 t249 (t244 != t242)) else (laws_FnIntegers.j0 k t246 t247 t248 t249 false)))) else (laws_FnIntegers.j0 k t246 t247 t248 t249 true))) else (if t242 ≥ 0 then (if (t245 != (decide (t242 ≤ 1000000000000))) = true then (laws_FnIntegers.j0 k t246 t247 t248 t249 true) else (if t245 = true then (laws_FnIntegers.j0 k t246 t247 t248 t249 (t244 != t242)) else (laws_FnIntegers.j0 k t246 t247 t248 t249 false))) else (if (t245 != false) = true then (laws_FnIntegers.j0 k t246 t247 t248 t249 true) else (if t245 = true then (laws_FnIntegers.j0 k t246 t247 t248 t249 (t244 != t242)) else (laws_FnIntegers.j0 k t246 t247 t248 t249 false))))) = some r := H
  have A11 := Aside0.mk A110
  clear A110
  have HC12 := Aside0.mk H
  clear H
  go_enter Tryd.func4, Tryd.ntmps4
  go_upto_region 10 with (first | ((with_reducible refine gate_callee (f := 7) rfl ?_); refine goesL_ (some 14) rfl rfl Tryd.func7 (by kernel_rfl) rfl #[.slice A0 l0.length c0] rfl (by (try simp only [List.map_toArray, List.map_cons, List.map_nil]); first | done | rfl | (simp only [List.length_drop, List.length_take]; rfl)) ?_; (with_reducible refine (laws_big.calls _ _ l0 false _ ?side1 ?side2 A2.out).mono ?_); (case side1 => repeat (first | exact HR0.out | (with_reducible refine Kd.C_alloc ?_ _) | (with_reducible refine Kd.C_drewN ?_ _) | (with_reducible refine Kd.C_drew ?_))); (case side2 => exact HC0.out); rintro e w' ⟨rfl, ⟨nd, rfl⟩⟩; refine ⟨_, rfl, ?_⟩) | ((with_reducible refine gate_callee (f := 8) rfl ?_); refine goesL_ (some 16) rfl rfl Tryd.func8 (by kernel_rfl) rfl #[.slice A0 l0.length c0] rfl (by (try simp only [List.map_toArray, List.map_cons, List.map_nil]); first | done | rfl | (simp only [List.length_drop, List.length_take]; rfl)) ?_; (with_reducible refine (spec_DrawParseInt.calls k _ _ l0 t239 _ ?side1 ?side2 A4.out).mono ?_); (case side1 => repeat (first | exact HR0.out | (with_reducible refine Kd.C_alloc ?_ _) | (with_reducible refine Kd.C_drewN ?_ _) | (with_reducible refine Kd.C_drew ?_))); (case side2 => exact HC0.out); rintro e w13 ⟨rfl, hb⟩; refine ⟨_, rfl, ?_⟩; replace HB := sB0 HB hb; (try clear hb); (try clear hb2); (try clear hk); (try clear hi)) | ((with_reducible refine gate_callee (f := 9) rfl ?_); refine goesL_ (some 19) rfl rfl Tryd.func9 (by kernel_rfl) rfl #[.string t239] rfl (by (try simp only [List.map_toArray, List.map_cons, List.map_nil]); first | done | rfl | (simp only [List.length_drop, List.length_take]; rfl)) ?_; (with_reducible refine (impl_ParseInt.calls k t239 t240 t241 _ A5.out).mono ?_); rintro e w' ⟨rfl, ⟨nd, rfl⟩⟩; refine ⟨_, rfl, ?_⟩) | ((with_reducible refine gate_callee (f := 10) rfl ?_); refine goesL_ (some 23) rfl rfl Tryd.func10 (by kernel_rfl) rfl #[.slice A0 l0.length c0] rfl (by (try simp only [List.map_toArray, List.map_cons, List.map_nil]); first | done | rfl | (simp only [List.length_drop, List.length_take]; rfl)) ?_; (with_reducible refine (spec_DrawFormatInt.calls k _ _ l0 t242 _ ?side1 ?side2 A6.out).mono ?_); (case side1 => repeat (first | exact (Kd.C_below HR0.out (by repeat (first | (with_reducible first | exact HB.out | apply below_alloc | apply pw_below_drewN | apply below_drew1) | exact HB.out))) | (with_reducible refine Kd.C_alloc ?_ _) | (with_reducible refine Kd.C_drewN ?_ _) | (with_reducible refine Kd.C_drew ?_))); (case side2 => exact HC0.out); rintro e w14 ⟨rfl, hb⟩; refine ⟨_, rfl, ?_⟩; replace HB := sB0 HB hb; (try clear hb); (try clear hb2); (try clear hk); (try clear hi)) | ((with_reducible refine gate_callee (f := 6) rfl ?_); refine goesL_ (some 26) rfl rfl Tryd.func6 (by kernel_rfl) rfl #[.int .i64 t242] rfl (by (try simp only [List.map_toArray, List.map_cons, List.map_nil]); first | done | rfl | (simp only [List.length_drop, List.length_take]; rfl)) ?_; (with_reducible refine (impl_FormatInt.calls t242 t243 _ ?side1 A7.out).mono ?_); (case side1 => exact tabs_on HTAB.out (by repeat (first | (with_reducible first | exact HB.out | apply below_alloc | apply pw_below_drewN | apply below_drew1) | exact HB.out))); rintro e w' ⟨rfl, hb⟩; refine ⟨_, rfl, ?_⟩; replace HB := sB0 HB hb; (try clear hb)) | ((with_reducible refine gate_callee (f := 9) rfl ?_); refine goesL_ (some 27) rfl rfl Tryd.func9 (by kernel_rfl) rfl #[.string t243] rfl (by (try simp only [List.map_toArray, List.map_cons, List.map_nil]); first | done | rfl | (simp only [List.length_drop, List.length_take]; rfl)) ?_; (with_reducible refine (impl_ParseInt.calls k t243 t244 t245 _ A8.out).mono ?_); rintro e w' ⟨rfl, ⟨nd, rfl⟩⟩; refine ⟨_, rfl, ?_⟩) | ((with_reducible refine gate_callee (f := 11) rfl ?_); refine goesL_ (some 32) rfl rfl Tryd.func11 (by kernel_rfl) rfl #[.slice A0 l0.length c0] rfl (by (try simp only [List.map_toArray, List.map_cons, List.map_nil]); first | done | rfl | (simp only [List.length_drop, List.length_take]; rfl)) ?_; (with_reducible refine (spec_DrawCeilDiv.calls k _ _ l0 t246 t247 _ ?side1 ?side2 A9.out).mono ?_); (case side1 => repeat (first | exact (Kd.C_below HR0.out (by repeat (first | (with_reducible first | exact HB.out | apply below_alloc | apply pw_below_drewN | apply below_drew1) | exact HB.out))) | (with_reducible refine Kd.C_alloc ?_ _) | (with_reducible refine Kd.C_drewN ?_ _) | (with_reducible refine Kd.C_drew ?_))); (case side2 => exact HC0.out); rintro e w15 ⟨rfl, hb⟩; refine ⟨_, rfl, ?_⟩; replace HB := sB0 HB hb; (try clear hb); (try clear hb2); (try clear hk); (try clear hi)) | ((with_reducible refine gate_callee (f := 12) rfl ?_); refine goesL_ (some 37) rfl rfl Tryd.func12 (by kernel_rfl) rfl #[.int .i64 t246, .int .i64 t247] rfl (by (try simp only [List.map_toArray, List.map_cons, List.map_nil]); first | done | rfl | (simp only [List.length_drop, List.length_take]; rfl)) ?_; (with_reducible refine (impl_CeilDiv.calls t246 t247 t248 _ A10.out).mono ?_); rintro e w' ⟨rfl, ⟨nd, rfl⟩⟩; refine ⟨_, rfl, ?_⟩) | ((with_reducible refine gate_callee (f := 13) rfl ?_); refine goesL_ (some 40) rfl rfl Tryd.func13 (by kernel_rfl) rfl #[.int .i64 t246, .int .i64 t247] rfl (by (try simp only [List.map_toArray, List.map_cons, List.map_nil]); first | done | rfl | (simp only [List.length_drop, List.length_take]; rfl)) ?_; (with_reducible refine (impl_Mod.calls t246 t247 t249 _ A11.out).mono ?_); rintro e w' ⟨rfl, ⟨nd, rfl⟩⟩; refine ⟨_, rfl, ?_⟩))
  (try simp only [Act.put, List.setIfInBounds_toArray, List.set_cons_zero, List.set_cons_succ])
  go_cut [65] (fun v65 wc => ∃ (kq : Nat) (x65_11 : Bool), v65 = .bool x65_11 ∧ Aside0 (laws_FnIntegers.j0 kq t246 t247 t248 t249 x65_11 = some r) ∧ Aside0 (kq ≤ k) ∧ Aside0 (Below w.heap.size w wc))
  case first =>
   have H := HC12.out
   clear HC12
   by_cases c16 : t241 = true
   ·subst c16
    have H1 : ((impl_FormatInt.f t240).bind fun t250 => (if t250.toList = t239.toList then (if t242 ≥ 0 then (if (t245 != (decide (t242 ≤ 1000000000000))) = true then (laws_FnIntegers.j0 k t246 t247 t248 t249 true) else (if t245 = true then (laws_FnIntegers.j0 k t246 t247 t248 t249 (t244 != t242)) else (laws_FnIntegers.j0 k t246 t247 t248 t249 false))) else (if (t245 != false) = true then (laws_FnIntegers.j0 k t246 t247 t248 t249 true) else (if t245 = true then (laws_FnIntegers.j0 k t246 t247 t248 t249 (t244 != t242)) else (laws_FnIntegers.j0 k t246 t247 t248 t249 false)))) else (laws_FnIntegers.j0 k t246 t247 t248 t249 true))) = some r := by rw [if_pos rfl] at H; exact H
    clear H
    have H := H1
    clear H1
    replace H := Option.bind_eq_some_iff.mp H
    obtain ⟨t250, A170, H⟩ := H
    replace H : (if t250.toList = t239.toList then (if t242 ≥ 0 then (if (t245 != (decide (t242 ≤ 1000000000000))) = true then (laws_FnIntegers.j0 k t246 t247 t248 t249 true) else (if t245 = true then (laws_FnIntegers.j0 k t246 t247 t248 t249 (t244 != t242)) else (laws_FnIntegers.j0 k t246 t247 t248 t249 false))) else (if (t245 != false) = true then (laws_FnIntegers.j0 k t246 t247 t248 t249 true) else (if t245 = true then (laws_FnIntegers.j0 k t246 t247 t248 t249 (t244 != t242)) else (laws_FnIntegers.j0 k t246 t247 t248 t249 false)))) else (laws_FnIntegers.j0 k t246 t247 t248 t249 true)) = some r := H
    have A17 := Aside0.mk A170
    clear A170
    by_cases c18 : t250.toList = t239.toList
    ·rw [if_pos c18] at H
     have c18b0 : (t250.toList == t239.toList) = true := beq_iff_eq.mpr c18
     have c18b1 : (t250.toList != t239.toList) = false := bne_eq_false_iff_eq.mpr c18
     clear c18
     (first | rw [c18b0] | (simp only [i64_w, i32_w]; rw [c18b0]) | skip)
     by_cases c19 : t242 ≥ 0
     ·rw [if_pos c19] at H
      have c19b0 : decide (0 ≤ t242) = true := decide_eq_true c19
      clear c19
      by_cases c20 : (t245 != (decide (t242 ≤ 1000000000000))) = true
      ·rw [if_pos c20] at H
       have c20b0 : (t245 != (decide (t242 ≤ 1000000000000))) = true := c20
       (try (have c20b1 : decide (t245 = (decide (t242 ≤ 1000000000000))) = false := by simpa using c20))
       (try (have c20b2 : (t245 == (decide (t242 ≤ 1000000000000))) = false := by simpa using c20))
       (try (have c20b3 : ¬ (t245 = (decide (t242 ≤ 1000000000000))) := by simpa using c20))
       clear c20
       have H' := Aside0.mk H
       clear H
       go_wp2_with (first | (go_at_call 6; (with_reducible refine (impl_FormatInt.calls t240 t250 _ ?side1 A17.out).mono ?_); (case side1 => exact tabs_on HTAB.out (by repeat (first | (with_reducible first | exact HB.out | apply below_alloc | apply pw_below_drewN | apply below_drew1) | exact HB.out))); rintro e w' ⟨rfl, hb⟩; replace HB := sB0 HB hb; (try clear hb)))
       go_meet
       case rel => exact ⟨_, (true), (by first | rfl | (simp; done) | (simp [*]; done)), H', ⟨by first | omega | exact Nat.le_refl _⟩, ⟨by repeat (first | (with_reducible first | exact HB.out | apply below_alloc | apply pw_below_drewN | apply below_drew1) | exact HB.out)⟩⟩
      ·rw [if_neg c20] at H
       have c20b0 : (t245 != (decide (t242 ≤ 1000000000000))) = false := by simpa using c20
       (try (have c20b1 : decide (t245 = (decide (t242 ≤ 1000000000000))) = true := by simpa using c20))
       (try (have c20b2 : (t245 == (decide (t242 ≤ 1000000000000))) = true := by simpa using c20))
       clear c20
       by_cases c21 : t245 = true
       ·subst c21
        have H1 : (laws_FnIntegers.j0 k t246 t247 t248 t249 (t244 != t242)) = some r := by rw [if_pos rfl] at H; exact H
        clear H
        have H := H1
        clear H1
        have H' := Aside0.mk H
        clear H
        go_wp2_with (first | (go_at_call 6; (with_reducible refine (impl_FormatInt.calls t240 t250 _ ?side1 A17.out).mono ?_); (case side1 => exact tabs_on HTAB.out (by repeat (first | (with_reducible first | exact HB.out | apply below_alloc | apply pw_below_drewN | apply below_drew1) | exact HB.out))); rintro e w' ⟨rfl, hb⟩; replace HB := sB0 HB hb; (try clear hb)))
        go_meet
        case rel => exact ⟨_, ((t244 != t242)), (by first | rfl | (simp; done) | (simp [*]; done)), H', ⟨by first | omega | exact Nat.le_refl _⟩, ⟨by repeat (first | (with_reducible first | exact HB.out | apply below_alloc | apply pw_below_drewN | apply below_drew1) | exact HB.out)⟩⟩
       ·replace c21 := Bool.eq_false_iff.mpr c21
        subst c21
        have H1 : (laws_FnIntegers.j0 k t246 t247 t248 t249 false) = some r := by rw [if_neg (show ¬ (false = true) by decide)] at H; exact H
        clear H
        have H := H1
        clear H1
        have H' := Aside0.mk H
        clear H
        go_wp2_with (first | (go_at_call 6; (with_reducible refine (impl_FormatInt.calls t240 t250 _ ?side1 A17.out).mono ?_); (case side1 => exact tabs_on HTAB.out (by repeat (first | (with_reducible first | exact HB.out | apply below_alloc | apply pw_below_drewN | apply below_drew1) | exact HB.out))); rintro e w' ⟨rfl, hb⟩; replace HB := sB0 HB hb; (try clear hb)))
        go_meet
        case rel => exact ⟨_, (false), (by first | rfl | (simp; done) | (simp [*]; done)), H', ⟨by first | omega | exact Nat.le_refl _⟩, ⟨by repeat (first | (with_reducible first | exact HB.out | apply below_alloc | apply pw_below_drewN | apply below_drew1) | exact HB.out)⟩⟩
     ·rw [if_neg c19] at H
      have c19b0 : decide (0 ≤ t242) = false := decide_eq_false c19
      clear c19
      by_cases c22 : (t245 != false) = true
      ·rw [if_pos c22] at H
       have ec22 : t245 = true := by simpa using c22
       subst ec22
       have c22b0 : (true != false) = true := c22
       (try (have c22b1 : decide (t245 = false) = false := by simpa using c22))
       (try (have c22b2 : (t245 == false) = false := by simpa using c22))
       (try (have c22b3 : ¬ (t245 = false) := by simpa using c22))
       clear c22
       have H' := Aside0.mk H
       clear H
       go_wp2_with (first | (go_at_call 6; (with_reducible refine (impl_FormatInt.calls t240 t250 _ ?side1 A17.out).mono ?_); (case side1 => exact tabs_on HTAB.out (by repeat (first | (with_reducible first | exact HB.out | apply below_alloc | apply pw_below_drewN | apply below_drew1) | exact HB.out))); rintro e w' ⟨rfl, hb⟩; replace HB := sB0 HB hb; (try clear hb)))
       go_meet
       case rel => exact ⟨_, (true), (by first | rfl | (simp; done) | (simp [*]; done)), H', ⟨by first | omega | exact Nat.le_refl _⟩, ⟨by repeat (first | (with_reducible first | exact HB.out | apply below_alloc | apply pw_below_drewN | apply below_drew1) | exact HB.out)⟩⟩
      ·rw [if_neg c22] at H
       have c22b0 : (t245 != false) = false := by simpa using c22
       (try (have c22b1 : decide (t245 = false) = true := by simpa using c22))
       (try (have c22b2 : (t245 == false) = true := by simpa using c22))
       clear c22
       by_cases c23 : t245 = true
       ·subst c23
        have H1 : (laws_FnIntegers.j0 k t246 t247 t248 t249 (t244 != t242)) = some r := by rw [if_pos rfl] at H; exact H
        clear H
        have H := H1
        clear H1
        have H' := Aside0.mk H
        clear H
        go_wp2_with (first | (go_at_call 6; (with_reducible refine (impl_FormatInt.calls t240 t250 _ ?side1 A17.out).mono ?_); (case side1 => exact tabs_on HTAB.out (by repeat (first | (with_reducible first | exact HB.out | apply below_alloc | apply pw_below_drewN | apply below_drew1) | exact HB.out))); rintro e w' ⟨rfl, hb⟩; replace HB := sB0 HB hb; (try clear hb)))
        go_meet
        case rel => exact ⟨_, ((t244 != t242)), (by first | rfl | (simp; done) | (simp [*]; done)), H', ⟨by first | omega | exact Nat.le_refl _⟩, ⟨by repeat (first | (with_reducible first | exact HB.out | apply below_alloc | apply pw_below_drewN | apply below_drew1) | exact HB.out)⟩⟩
       ·replace c23 := Bool.eq_false_iff.mpr c23
        subst c23
        have H1 : (laws_FnIntegers.j0 k t246 t247 t248 t249 false) = some r := by rw [if_neg (show ¬ (false = true) by decide)] at H; exact H
        clear H
        have H := H1
        clear H1
        have H' := Aside0.mk H
        clear H
        go_wp2_with (first | (go_at_call 6; (with_reducible refine (impl_FormatInt.calls t240 t250 _ ?side1 A17.out).mono ?_); (case side1 => exact tabs_on HTAB.out (by repeat (first | (with_reducible first | exact HB.out | apply below_alloc | apply pw_below_drewN | apply below_drew1) | exact HB.out))); rintro e w' ⟨rfl, hb⟩; replace HB := sB0 HB hb; (try clear hb)))
        go_meet
        case rel => exact ⟨_, (false), (by first | rfl | (simp; done) | (simp [*]; done)), H', ⟨by first | omega | exact Nat.le_refl _⟩, ⟨by repeat (first | (with_reducible first | exact HB.out | apply below_alloc | apply pw_below_drewN | apply below_drew1) | exact HB.out)⟩⟩
    ·rw [if_neg c18] at H
     have c18b0 : (t250.toList == t239.toList) = false := beq_eq_false_iff_ne.mpr c18
     have c18b1 : (t250.toList != t239.toList) = true := bne_iff_ne.mpr c18
     (first | rw [c18b0] | (simp only [i64_w, i32_w]; rw [c18b0]) | skip)
     have H' := Aside0.mk H
     clear H
     go_wp2_with (first | (go_at_call 6; (with_reducible refine (impl_FormatInt.calls t240 t250 _ ?side1 A17.out).mono ?_); (case side1 => exact tabs_on HTAB.out (by repeat (first | (with_reducible first | exact HB.out | apply below_alloc | apply pw_below_drewN | apply below_drew1) | exact HB.out))); rintro e w' ⟨rfl, hb⟩; replace HB := sB0 HB hb; (try clear hb)))
     go_meet
     case rel => exact ⟨_, (true), (by first | rfl | (simp; done) | (simp [*]; done)), H', ⟨by first | omega | exact Nat.le_refl _⟩, ⟨by repeat (first | (with_reducible first | exact HB.out | apply below_alloc | apply pw_below_drewN | apply below_drew1) | exact HB.out)⟩⟩
   ·replace c16 := Bool.eq_false_iff.mpr c16
    subst c16
    have H1 : (if t242 ≥ 0 then (if (t245 != (decide (t242 ≤ 1000000000000))) = true then (laws_FnIntegers.j0 k t246 t247 t248 t249 true) else (if t245 = true then (laws_FnIntegers.j0 k t246 t247 t248 t249 (t244 != t242)) else (laws_FnIntegers.j0 k t246 t247 t248 t249 false))) else (if (t245 != false) = true then (laws_FnIntegers.j0 k t246 t247 t248 t249 true) else (if t245 = true then (laws_FnIntegers.j0 k t246 t247 t248 t249 (t244 != t242)) else (laws_FnIntegers.j0 k t246 t247 t248 t249 false)))) = some r := by rw [if_neg (show ¬ (false = true) by decide)] at H; exact H
    clear H
    have H := H1
    clear H1
    by_cases c24 : t242 ≥ 0
    ·rw [if_pos c24] at H
     have c24b0 : decide (0 ≤ t242) = true := decide_eq_true c24
     clear c24
     by_cases c25 : (t245 != (decide (t242 ≤ 1000000000000))) = true
     ·rw [if_pos c25] at H
      have c25b0 : (t245 != (decide (t242 ≤ 1000000000000))) = true := c25
      (try (have c25b1 : decide (t245 = (decide (t242 ≤ 1000000000000))) = false := by simpa using c25))
      (try (have c25b2 : (t245 == (decide (t242 ≤ 1000000000000))) = false := by simpa using c25))
      (try (have c25b3 : ¬ (t245 = (decide (t242 ≤ 1000000000000))) := by simpa using c25))
      clear c25
      have H' := Aside0.mk H
      clear H
      go_wp2
      go_meet
      case rel => exact ⟨_, (true), (by first | rfl | (simp; done) | (simp [*]; done)), H', ⟨by first | omega | exact Nat.le_refl _⟩, ⟨by repeat (first | (with_reducible first | exact HB.out | apply below_alloc | apply pw_below_drewN | apply below_drew1) | exact HB.out)⟩⟩
     ·rw [if_neg c25] at H
      have c25b0 : (t245 != (decide (t242 ≤ 1000000000000))) = false := by simpa using c25
      (try (have c25b1 : decide (t245 = (decide (t242 ≤ 1000000000000))) = true := by simpa using c25))
      (try (have c25b2 : (t245 == (decide (t242 ≤ 1000000000000))) = true := by simpa using c25))
      clear c25
      by_cases c26 : t245 = true
      ·subst c26
       have H1 : (laws_FnIntegers.j0 k t246 t247 t248 t249 (t244 != t242)) = some r := by rw [if_pos rfl] at H; exact H
       clear H
       have H := H1
       clear H1
       have H' := Aside0.mk H
       clear H
       go_wp2
       go_meet
       case rel => exact ⟨_, ((t244 != t242)), (by first | rfl | (simp; done) | (simp [*]; done)), H', ⟨by first | omega | exact Nat.le_refl _⟩, ⟨by repeat (first | (with_reducible first | exact HB.out | apply below_alloc | apply pw_below_drewN | apply below_drew1) | exact HB.out)⟩⟩
      ·replace c26 := Bool.eq_false_iff.mpr c26
       subst c26
       have H1 : (laws_FnIntegers.j0 k t246 t247 t248 t249 false) = some r := by rw [if_neg (show ¬ (false = true) by decide)] at H; exact H
       clear H
       have H := H1
       clear H1
       have H' := Aside0.mk H
       clear H
       go_wp2
       go_meet
       case rel => exact ⟨_, (false), (by first | rfl | (simp; done) | (simp [*]; done)), H', ⟨by first | omega | exact Nat.le_refl _⟩, ⟨by repeat (first | (with_reducible first | exact HB.out | apply below_alloc | apply pw_below_drewN | apply below_drew1) | exact HB.out)⟩⟩
    ·rw [if_neg c24] at H
     have c24b0 : decide (0 ≤ t242) = false := decide_eq_false c24
     clear c24
     by_cases c27 : (t245 != false) = true
     ·rw [if_pos c27] at H
      have ec27 : t245 = true := by simpa using c27
      subst ec27
      have c27b0 : (true != false) = true := c27
      (try (have c27b1 : decide (t245 = false) = false := by simpa using c27))
      (try (have c27b2 : (t245 == false) = false := by simpa using c27))
      (try (have c27b3 : ¬ (t245 = false) := by simpa using c27))
      clear c27
      have H' := Aside0.mk H
      clear H
      go_wp2
      go_meet
      case rel => exact ⟨_, (true), (by first | rfl | (simp; done) | (simp [*]; done)), H', ⟨by first | omega | exact Nat.le_refl _⟩, ⟨by repeat (first | (with_reducible first | exact HB.out | apply below_alloc | apply pw_below_drewN | apply below_drew1) | exact HB.out)⟩⟩
     ·rw [if_neg c27] at H
      have c27b0 : (t245 != false) = false := by simpa using c27
      (try (have c27b1 : decide (t245 = false) = true := by simpa using c27))
      (try (have c27b2 : (t245 == false) = true := by simpa using c27))
      clear c27
      by_cases c28 : t245 = true
      ·subst c28
       have H1 : (laws_FnIntegers.j0 k t246 t247 t248 t249 (t244 != t242)) = some r := by rw [if_pos rfl] at H; exact H
       clear H
       have H := H1
       clear H1
       have H' := Aside0.mk H
       clear H
       go_wp2
       go_meet
       case rel => exact ⟨_, ((t244 != t242)), (by first | rfl | (simp; done) | (simp [*]; done)), H', ⟨by first | omega | exact Nat.le_refl _⟩, ⟨by repeat (first | (with_reducible first | exact HB.out | apply below_alloc | apply pw_below_drewN | apply below_drew1) | exact HB.out)⟩⟩
      ·replace c28 := Bool.eq_false_iff.mpr c28
       subst c28
       have H1 : (laws_FnIntegers.j0 k t246 t247 t248 t249 false) = some r := by rw [if_neg (show ¬ (false = true) by decide)] at H; exact H
       clear H
       have H := H1
       clear H1
       have H' := Aside0.mk H
       clear H
       go_wp2
       go_meet
       case rel => exact ⟨_, (false), (by first | rfl | (simp; done) | (simp [*]; done)), H', ⟨by first | omega | exact Nat.le_refl _⟩, ⟨by repeat (first | (with_reducible first | exact HB.out | apply below_alloc | apply pw_below_drewN | apply below_drew1) | exact HB.out)⟩⟩
  case rest =>
   clear HC12
   try clear c1
   try clear c2
   try clear p2
   try clear c3
   try clear c4
   try clear c6
   try clear c7
   try clear c8
   try clear c9
   try clear c10
   try clear c11
   try clear c12
   try clear c13
   try clear c16
   try clear c18
   try clear c18b0
   try clear c18b1
   try clear c19
   try clear c19b0
   try clear c20
   try clear c20b0
   try clear c20b1
   try clear c20b2
   try clear c21
   try clear c22
   try clear c22b0
   try clear c22b1
   try clear c22b2
   try clear c23
   try clear c24
   try clear c24b0
   try clear c25
   try clear c25b0
   try clear c25b1
   try clear c25b2
   try clear c26
   try clear c27
   try clear c27b0
   try clear c27b1
   try clear c27b2
   try clear c28
   obtain ⟨kq, x65_11, rfl, HA, HJ11, HB⟩ := hcut
   cases kq with
   | zero => exact absurd HA.out (by simp [laws_FnIntegers.j0])
   | succ kj11 =>
    have H := HA.out
    clear HA
    simp only [laws_FnIntegers.j0] at H
    by_cases c29 : x65_11 = true
    ·subst c29
     have H1 : (some false) = some r := by rw [if_pos rfl] at H; exact H
     clear H
     have H := H1
     clear H1
     obtain rfl := Option.some.inj H
     go_wp2
     go_ret
     exact ⟨by first | rfl | (simp [errW_none, errW_some] <;> rfl) | (simp [*, errW_none, errW_some] <;> rfl), by repeat (first | (with_reducible first | exact HB.out | apply below_alloc | apply pw_below_drewN | apply below_drew1) | exact HB.out)⟩
    ·replace c29 := Bool.eq_false_iff.mpr c29
     subst c29
     have H1 : (if t247 < 1 then (laws_FnIntegers.j1 kj11 t246 t247 t248 t249 true) else (laws_FnIntegers.j1 kj11 t246 t247 t248 t249 (decide (t247 > 1000000000000)))) = some r := by rw [if_neg (show ¬ (false = true) by decide)] at H; exact H
     clear H
     have H := H1
     clear H1
     have HC30 := Aside0.mk H
     clear H
     go_upto_region 12 with (fail)
     go_cut [71] (fun v71 wc => ∃ (kq : Nat) (x71_29 : Bool), v71 = .bool x71_29 ∧ Aside0 (laws_FnIntegers.j1 kq t246 t247 t248 t249 x71_29 = some r) ∧ Aside0 (kq ≤ kj11) ∧ Aside0 (Below w.heap.size w wc))
     case first =>
      have H := HC30.out
      clear HC30
      by_cases c31 : t247 < 1
      ·rw [if_pos c31] at H
       have c31b0 : decide (t247 < 1) = true := decide_eq_true c31
       clear c31
       (first | rw [c31b0] | (simp only [i64_w, i32_w]; rw [c31b0]) | skip)
       have H' := Aside0.mk H
       clear H
       go_wp2
       go_meet
       case rel => exact ⟨_, (true), (by first | rfl | (simp; done) | (simp [*]; done)), H', ⟨by have := HJ11.out; first | omega | exact Nat.le_refl _⟩, ⟨by repeat (first | (with_reducible first | exact HB.out | apply below_alloc | apply pw_below_drewN | apply below_drew1) | exact HB.out)⟩⟩
      ·rw [if_neg c31] at H
       have c31b0 : decide (t247 < 1) = false := decide_eq_false c31
       clear c31
       (first | rw [c31b0] | (simp only [i64_w, i32_w]; rw [c31b0]) | skip)
       have H' := Aside0.mk H
       clear H
       go_wp2
       go_meet
       case rel => exact ⟨_, (decide (t247 > 1000000000000)), (by first | rfl | (simp; done) | (simp [*]; done)), H', ⟨by have := HJ11.out; first | omega | exact Nat.le_refl _⟩, ⟨by repeat (first | (with_reducible first | exact HB.out | apply below_alloc | apply pw_below_drewN | apply below_drew1) | exact HB.out)⟩⟩
     case rest =>
      clear HC30
      try clear c1
      try clear c2
      try clear p2
      try clear c3
      try clear c4
      try clear c6
      try clear c7
      try clear c8
      try clear c9
      try clear c10
      try clear c11
      try clear c12
      try clear c13
      try clear c16
      try clear c18
      try clear c18b0
      try clear c18b1
      try clear c19
      try clear c19b0
      try clear c20
      try clear c20b0
      try clear c20b1
      try clear c20b2
      try clear c21
      try clear c22
      try clear c22b0
      try clear c22b1
      try clear c22b2
      try clear c23
      try clear c24
      try clear c24b0
      try clear c25
      try clear c25b0
      try clear c25b1
      try clear c25b2
      try clear c26
      try clear c27
      try clear c27b0
      try clear c27b1
      try clear c27b2
      try clear c28
      try clear c29
      try clear c31
      try clear c31b0
      try clear p2
      obtain ⟨kq, x71_29, rfl, HA, HJ29, HB⟩ := hcut
      cases kq with
      | zero => exact absurd HA.out (by simp [laws_FnIntegers.j1])
      | succ kj29 =>
       have H := HA.out
       clear HA
       simp only [laws_FnIntegers.j1] at H
       by_cases c32 : x71_29 = true
       ·subst c32
        have H1 : (if t248 = 0 then (some (t249 == 0)) else (some false)) = some r := by rw [if_pos rfl] at H; exact H
        clear H
        have H := H1
        clear H1
        by_cases c33 : t248 = 0
        ·rw [if_pos c33] at H
         have c33b0 : (t248 == 0) = true := beq_iff_eq.mpr c33
         have c33b1 : (t248 != 0) = false := bne_eq_false_iff_eq.mpr c33
         clear c33
         obtain rfl := Option.some.inj H
         go_wp2
         go_ret
         exact ⟨by first | rfl | (simp [errW_none, errW_some] <;> rfl) | (simp [*, errW_none, errW_some] <;> rfl), by repeat (first | (with_reducible first | exact HB.out | apply below_alloc | apply pw_below_drewN | apply below_drew1) | exact HB.out)⟩
        ·rw [if_neg c33] at H
         have c33b0 : (t248 == 0) = false := beq_eq_false_iff_ne.mpr c33
         have c33b1 : (t248 != 0) = true := bne_iff_ne.mpr c33
         obtain rfl := Option.some.inj H
         go_wp2
         go_ret
         exact ⟨by first | rfl | (simp [errW_none, errW_some] <;> rfl) | (simp [*, errW_none, errW_some] <;> rfl), by repeat (first | (with_reducible first | exact HB.out | apply below_alloc | apply pw_below_drewN | apply below_drew1) | exact HB.out)⟩
       ·replace c32 := Bool.eq_false_iff.mpr c32
        subst c32
        have H1 : (if t249 < 0 then (laws_FnIntegers.j2 kj29 t246 t247 t248 true) else (if t249 ≥ t247 then (laws_FnIntegers.j2 kj29 t246 t247 t248 true) else (if t247 = 0 then (none) else (laws_FnIntegers.j2 kj29 t246 t247 t248 ((Int.tmod (wrap64 ((Int.tmod t246 t247) - t249)) t247) != 0))))) = some r := by rw [if_neg (show ¬ (false = true) by decide)] at H; exact H
        clear H
        have H := H1
        clear H1
        have HC34 := Aside0.mk H
        clear H
        go_upto_region 14 with (fail)
        go_cut [94] (fun v94 wc => ∃ (kq : Nat) (x94_33 : Bool), v94 = .bool x94_33 ∧ Aside0 (laws_FnIntegers.j2 kq t246 t247 t248 x94_33 = some r) ∧ Aside0 (kq ≤ kj29) ∧ Aside0 (Below w.heap.size w wc))
        case first =>
         have H := HC34.out
         clear HC34
         by_cases c35 : t249 < 0
         ·rw [if_pos c35] at H
          have c35b0 : decide (t249 < 0) = true := decide_eq_true c35
          clear c35
          (first | rw [c35b0] | (simp only [i64_w, i32_w]; rw [c35b0]) | skip)
          have H' := Aside0.mk H
          clear H
          go_wp2
          go_meet
          case rel => exact ⟨_, (true), (by first | rfl | (simp; done) | (simp [*]; done)), H', ⟨by have := HJ11.out; have := HJ29.out; first | omega | exact Nat.le_refl _⟩, ⟨by repeat (first | (with_reducible first | exact HB.out | apply below_alloc | apply pw_below_drewN | apply below_drew1) | exact HB.out)⟩⟩
         ·rw [if_neg c35] at H
          have c35b0 : decide (t249 < 0) = false := decide_eq_false c35
          clear c35
          (first | rw [c35b0] | (simp only [i64_w, i32_w]; rw [c35b0]) | skip)
          by_cases c36 : t249 ≥ t247
          ·rw [if_pos c36] at H
           have c36b0 : decide (t247 ≤ t249) = true := decide_eq_true c36
           clear c36
           have H' := Aside0.mk H
           clear H
           go_wp2
           go_meet
           case rel => exact ⟨_, (true), (by first | rfl | (simp; done) | (simp [*]; done)), H', ⟨by have := HJ11.out; have := HJ29.out; first | omega | exact Nat.le_refl _⟩, ⟨by repeat (first | (with_reducible first | exact HB.out | apply below_alloc | apply pw_below_drewN | apply below_drew1) | exact HB.out)⟩⟩
          ·rw [if_neg c36] at H
           have c36b0 : decide (t247 ≤ t249) = false := decide_eq_false c36
           clear c36
           by_cases c37 : t247 = 0
           ·rw [if_pos c37] at H
            exact absurd H (by simp)
           ·rw [if_neg c37] at H
            have c37b0 : (t247 == 0) = false := beq_eq_false_iff_ne.mpr c37
            have c37b1 : (t247 != 0) = true := bne_iff_ne.mpr c37
            have H' := Aside0.mk H
            clear H
            go_wp2
            go_meet
            case rel => exact ⟨_, (((Int.tmod (wrap64 ((Int.tmod t246 t247) - t249)) t247) != 0)), (by first | rfl | (simp; done) | (simp [*]; done)), H', ⟨by have := HJ11.out; have := HJ29.out; first | omega | exact Nat.le_refl _⟩, ⟨by repeat (first | (with_reducible first | exact HB.out | apply below_alloc | apply pw_below_drewN | apply below_drew1) | exact HB.out)⟩⟩
        case rest =>
         clear HC34
         try clear c1
         try clear c2
         try clear p2
         try clear c3
         try clear c4
         try clear c6
         try clear p6
         try clear c7
         try clear c8
         try clear c9
         try clear c10
         try clear c11
         try clear c12
         try clear c13
         try clear c16
         try clear c18
         try clear c18b0
         try clear c18b1
         try clear c19
         try clear c19b0
         try clear c20
         try clear c20b0
         try clear c20b1
         try clear c20b2
         try clear c21
         try clear c22
         try clear c22b0
         try clear c22b1
         try clear c22b2
         try clear c23
         try clear c24
         try clear c24b0
         try clear c25
         try clear c25b0
         try clear c25b1
         try clear c25b2
         try clear c26
         try clear c27
         try clear c27b0
         try clear c27b1
         try clear c27b2
         try clear c28
         try clear c29
         try clear c31
         try clear c31b0
         try clear c32
         try clear c33
         try clear c33b0
         try clear c33b1
         try clear c35
         try clear c35b0
         try clear c36
         try clear c36b0
         try clear c37
         try clear c37b0
         try clear c37b1
         try clear p2
         obtain ⟨kq, x94_33, rfl, HA, HJ33, HB⟩ := hcut
         cases kq with
         | zero => exact absurd HA.out (by simp [laws_FnIntegers.j2])
         | succ kj33 =>
          have H := HA.out
          clear HA
          simp only [laws_FnIntegers.j2] at H
          by_cases c38 : x94_33 = true
          ·subst c38
           have H1 : (some false) = some r := by rw [if_pos rfl] at H; exact H
           clear H
           have H := H1
           clear H1
           obtain rfl := Option.some.inj H
           go_wp2
           go_ret
           exact ⟨by first | rfl | (simp [errW_none, errW_some] <;> rfl) | (simp [*, errW_none, errW_some] <;> rfl), by repeat (first | (with_reducible first | exact HB.out | apply below_alloc | apply pw_below_drewN | apply below_drew1) | exact HB.out)⟩
          ·replace c38 := Bool.eq_false_iff.mpr c38
           subst c38
           have H1 : (if t246 < 0 then (some (t248 == 0)) else (if t246 > 1000000000000 then (some (t248 == 0)) else (if (wrap64 (t248 * t247)) ≥ t246 then (some (decide ((wrap64 ((wrap64 (t248 * t247)) - t246)) < t247))) else (some false)))) = some r := by rw [if_neg (show ¬ (false = true) by decide)] at H; exact H
           clear H
           have H := H1
           clear H1
           by_cases c39 : t246 < 0
           ·rw [if_pos c39] at H
            have c39b0 : decide (t246 < 0) = true := decide_eq_true c39
            clear c39
            obtain rfl := Option.some.inj H
            go_wp2
            go_ret
            exact ⟨by first | rfl | (simp [errW_none, errW_some] <;> rfl) | (simp [*, errW_none, errW_some] <;> rfl), by repeat (first | (with_reducible first | exact HB.out | apply below_alloc | apply pw_below_drewN | apply below_drew1) | exact HB.out)⟩
           ·rw [if_neg c39] at H
            have c39b0 : decide (t246 < 0) = false := decide_eq_false c39
            clear c39
            by_cases c40 : t246 > 1000000000000
            ·rw [if_pos c40] at H
             have c40b0 : decide (1000000000000 < t246) = true := decide_eq_true c40
             clear c40
             obtain rfl := Option.some.inj H
             go_wp2
             go_ret
             exact ⟨by first | rfl | (simp [errW_none, errW_some] <;> rfl) | (simp [*, errW_none, errW_some] <;> rfl), by repeat (first | (with_reducible first | exact HB.out | apply below_alloc | apply pw_below_drewN | apply below_drew1) | exact HB.out)⟩
            ·rw [if_neg c40] at H
             have c40b0 : decide (1000000000000 < t246) = false := decide_eq_false c40
             clear c40
             by_cases c41 : (wrap64 (t248 * t247)) ≥ t246
             ·rw [if_pos c41] at H
              have c41b0 : decide (t246 ≤ (wrap64 (t248 * t247))) = true := decide_eq_true c41
              clear c41
              obtain rfl := Option.some.inj H
              go_wp2
              go_ret
              exact ⟨by first | rfl | (simp [errW_none, errW_some] <;> rfl) | (simp [*, errW_none, errW_some] <;> rfl), by repeat (first | (with_reducible first | exact HB.out | apply below_alloc | apply pw_below_drewN | apply below_drew1) | exact HB.out)⟩
             ·rw [if_neg c41] at H
              have c41b0 : decide (t246 ≤ (wrap64 (t248 * t247))) = false := decide_eq_false c41
              clear c41
              obtain rfl := Option.some.inj H
              go_wp2
              go_ret
              exact ⟨by first | rfl | (simp [errW_none, errW_some] <;> rfl) | (simp [*, errW_none, errW_some] <;> rfl), by repeat (first | (with_reducible first | exact HB.out | apply below_alloc | apply pw_below_drewN | apply below_drew1) | exact HB.out)⟩

/-- THE ONE PURE STATEMENT of laws_FnIntegers: yours. -/
def laws_FnIntegers.Pure : Prop := ∀ (l0 : List Int), l0.length ≤ maxLen → l0.length * 1 ≤ 140737488351232 → (∀ x ∈ l0, (Lit.int .u8 x).wf = true) → ∃ k, laws_FnIntegers.f k l0 = some true
theorem laws_FnIntegers.walk (P : laws_FnIntegers.Pure) (a0 : Option Addr) (len0 cap0 : Nat) (z0 : List Int) (w : World) (htab : Tab w) (w0 : (a0 = none ∧ len0 = 0 ∧ cap0 = 0 ∧ z0 = []) ∨ ∃ x, a0 = some x ∧ len0 ≤ cap0 ∧ cap0 ≤ maxLen ∧ z0.length = cap0 ∧ (∀ i, i < z0.length → w.cell? (x.add i) = some (.int .u8 (z0.getD i 0))) ∧ ∀ n ∈ z0, (Lit.int .u8 n).wf = true) (y0 : len0 * 1 ≤ 140737488351232) :
  Calls Tryd.prog 4 #[.slice a0 len0 cap0] w fun e w' => e = .returned (.bool true) ∧ Below w.heap.size w w' := by
 obtain ⟨l0, rfl, hr0, hm0, hw0, hc0⟩ := ReadsInt.ofRowC w0
 obtain ⟨k, h⟩ := P l0 hm0 y0 hw0
 refine (laws_FnIntegers.calls k _ _ l0 true w (Kd.C_of_reads (d := (0 : Int)) (h1 := fun _ => rfl) hr0) hc0 htab h).mono ?_
 rintro e w' ⟨rfl, hd⟩
 exact ⟨rfl, hd⟩

end Go.Proofs.YtonocoedbihfeaaDoor.PFnIntegers
