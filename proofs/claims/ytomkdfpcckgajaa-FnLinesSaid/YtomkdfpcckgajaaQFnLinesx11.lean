/- What the functions of FnLines compute, each with its proof: this session's own text. -/
import Derived.Test.YtomkdfpcckgajaaQFnLinesx0
import Derived.Test.YtomkdfpcckgajaaQFnLinesx1
import Derived.Test.YtomkdfpcckgajaaQFnLinesx2
import Derived.Test.YtomkdfpcckgajaaQFnLinesx4
import Derived.Test.YtomkdfpcckgajaaQFnLinesx5
import Derived.Test.YtomkdfpcckgajaaQFnLinesx6
import Derived.Test.YtomkdfpcckgajaaQFnLinesx9
import Derived.Test.YtomkdfpcckgajaaQFnLinesx10
namespace Go.Proofs.Ytomkdfpcckgajaa.PFnLines
open Go.RowKit Go.Proofs.YtomkdfpcckgajaaW.PrintWords Go.Proofs.YtomkdfpcckgajaaW.PrintLast Go.Proofs.YtomkdfpcckgajaaW.PrintMore Go.Proofs.Ytomkdfpcckgajaa.Sh
attribute [local go_sem] max2_int min2_int max_two min_two max_three min_three max_four min_four   -- for this text's walks alone
set_option linter.unusedVariables false
set_option linter.unusedSimpArgs false

attribute [local go_sem high] eqA36
/-! ### laws_FnLines: function 3 -/
mutual
def laws_FnLines.j0 : Nat → List Int → List (S36) → Bool → Option (Bool)
 | 0, _, _, _ => none
 | k + 1, x0, x3, x40 => if x40 = true then (some false) else ((spec_DrawLinesMeet.f k x0).bind fun bt362 => ((impl_LinesMeet.f k bt362.1 bt362.2).bind fun t368 => ((impl_LinesMeet.f k bt362.2 bt362.1).bind fun t369 => (if t368 = t369 then ((impl_TurnLine.f k bt362.1).bind fun t370 => ((impl_LinesMeet.f k t370 bt362.2).bind fun t373 => (laws_FnLines.j1 k x3 (t368 != t373)))) else (laws_FnLines.j1 k x3 true)))))
def laws_FnLines.j1 : Nat → List (S36) → Bool → Option (Bool)
 | 0, _, _ => none
 | k + 1, x3, x61 => if x61 = true then (some false) else ((impl_SegmentsOf.f k x3).bind fun t374 => ((impl_IsLine.f k x3).bind fun t377 => (if t377 = true then (if (t374.length : Int) = (wrap64 ((x3.length : Int) - 1)) then (if 0 < (t374.length : Int) then (if 0 < (x3.length : Int) then (if (((rd_T38 t374 0).f0.f0) == ((rd_T36 x3 0).f0) && (((rd_T38 t374 0).f0.f1) == ((rd_T36 x3 0).f1))) = true then (some true) else ((impl_IsLine.f k x3).bind fun t380 => (if t380 = true then (some false) else (if (t374.length : Int) = 0 then ((impl_IsSimple.f k x3).bind fun t381 => (some (!t381))) else (some false))))) else (none)) else (none)) else ((impl_IsLine.f k x3).bind fun t382 => (if t382 = true then (some false) else (if (t374.length : Int) = 0 then ((impl_IsSimple.f k x3).bind fun t383 => (some (!t383))) else (some false))))) else ((impl_IsLine.f k x3).bind fun t384 => (if t384 = true then (some false) else (if (t374.length : Int) = 0 then ((impl_IsSimple.f k x3).bind fun t385 => (some (!t385))) else (some false)))))))
end
def laws_FnLines.f (k : Nat) (l0 : List Int) : Option (Bool) := (laws_big.f l0).bind fun t345 => (if t345 = true then (some true) else ((spec_DrawIsLine.f k l0).bind fun t346 => ((impl_TurnLine.f k t346).bind fun t349 => ((impl_IsLine.f k t346).bind fun t352 => ((impl_IsLine.f k t349).bind fun t353 => (if (t352 != t353) = true then (laws_FnLines.j0 k l0 t346 true) else ((impl_IsSimple.f k t346).bind fun t354 => ((impl_IsSimple.f k t349).bind fun t355 => (if (t354 != t355) = true then (laws_FnLines.j0 k l0 t346 true) else ((impl_LineSteps.f k t346).bind fun t356 => ((impl_LineSteps.f k t349).bind fun t357 => (if t356 = t357 then ((impl_TurnLine.f k t349).bind fun t358 => ((impl_EqualLines.f k t358 t346).bind fun t361 => (laws_FnLines.j0 k l0 t346 (!t361)))) else (laws_FnLines.j0 k l0 t346 true)))))))))))))
theorem laws_FnLines.mono_l : ∀ k, (∀ y0 y1 y2, LeO (laws_FnLines.j0 k y0 y1 y2) (laws_FnLines.j0 (k + 1) y0 y1 y2)) ∧ (∀ y0 y1, LeO (laws_FnLines.j1 k y0 y1) (laws_FnLines.j1 (k + 1) y0 y1))
 | 0 => ⟨fun _ _ _ r h => by simp [laws_FnLines.j0] at h, fun _ _ r h => by simp [laws_FnLines.j1] at h⟩
 | k + 1 => by
  obtain ⟨ih0, ih1⟩ := laws_FnLines.mono_l k
  refine ⟨?_, ?_⟩
  ·intro y0 y1 y2
   unfold laws_FnLines.j0
   repeat' first
   | (with_reducible exact ih0 _ _ _)
   | (with_reducible exact ih1 _ _)
   | (with_reducible exact impl_EqualLines.mono _ _ _)
   | (with_reducible exact impl_IsLine.mono _ _)
   | (with_reducible exact impl_IsSimple.mono _ _)
   | (with_reducible exact impl_LineSteps.mono _ _)
   | (with_reducible exact impl_LinesMeet.mono _ _ _)
   | (with_reducible exact impl_SegmentsOf.mono _ _)
   | (with_reducible exact impl_TurnLine.mono _ _)
   | (with_reducible exact spec_DrawIsLine.mono _ _)
   | (with_reducible exact spec_DrawLinesMeet.mono _ _)
   | (with_reducible exact LeO.refl _)
   | (with_reducible exact LeO.none _)
   | (with_reducible refine LeO.ite ?_ ?_)
   | (with_reducible refine LeO.bind ?_ (fun _ => ?_))
   | exact ih0 _ _ _
   | exact ih1 _ _
   | exact impl_EqualLines.mono _ _ _
   | exact impl_IsLine.mono _ _
   | exact impl_IsSimple.mono _ _
   | exact impl_LineSteps.mono _ _
   | exact impl_LinesMeet.mono _ _ _
   | exact impl_SegmentsOf.mono _ _
   | exact impl_TurnLine.mono _ _
   | exact spec_DrawIsLine.mono _ _
   | exact spec_DrawLinesMeet.mono _ _
   | exact LeO.none _
   | refine LeO.ite ?_ ?_
   | refine LeO.bind ?_ (fun _ => ?_)
  ·intro y0 y1
   unfold laws_FnLines.j1
   repeat' first
   | (with_reducible exact ih0 _ _ _)
   | (with_reducible exact ih1 _ _)
   | (with_reducible exact impl_EqualLines.mono _ _ _)
   | (with_reducible exact impl_IsLine.mono _ _)
   | (with_reducible exact impl_IsSimple.mono _ _)
   | (with_reducible exact impl_LineSteps.mono _ _)
   | (with_reducible exact impl_LinesMeet.mono _ _ _)
   | (with_reducible exact impl_SegmentsOf.mono _ _)
   | (with_reducible exact impl_TurnLine.mono _ _)
   | (with_reducible exact spec_DrawIsLine.mono _ _)
   | (with_reducible exact spec_DrawLinesMeet.mono _ _)
   | (with_reducible exact LeO.refl _)
   | (with_reducible exact LeO.none _)
   | (with_reducible refine LeO.ite ?_ ?_)
   | (with_reducible refine LeO.bind ?_ (fun _ => ?_))
   | exact ih0 _ _ _
   | exact ih1 _ _
   | exact impl_EqualLines.mono _ _ _
   | exact impl_IsLine.mono _ _
   | exact impl_IsSimple.mono _ _
   | exact impl_LineSteps.mono _ _
   | exact impl_LinesMeet.mono _ _ _
   | exact impl_SegmentsOf.mono _ _
   | exact impl_TurnLine.mono _ _
   | exact spec_DrawIsLine.mono _ _
   | exact spec_DrawLinesMeet.mono _ _
   | exact LeO.none _
   | refine LeO.ite ?_ ?_
   | refine LeO.bind ?_ (fun _ => ?_)
theorem laws_FnLines.mono : ∀ a0 k, LeO (laws_FnLines.f k a0) (laws_FnLines.f (k + 1) a0) := by
 intro a0 k
 obtain ⟨ih0, ih1⟩ := laws_FnLines.mono_l k
 unfold laws_FnLines.f
 repeat' first
   | (with_reducible exact ih0 _ _ _)
   | (with_reducible exact ih1 _ _)
   | (with_reducible exact impl_EqualLines.mono _ _ _)
   | (with_reducible exact impl_IsLine.mono _ _)
   | (with_reducible exact impl_IsSimple.mono _ _)
   | (with_reducible exact impl_LineSteps.mono _ _)
   | (with_reducible exact impl_LinesMeet.mono _ _ _)
   | (with_reducible exact impl_SegmentsOf.mono _ _)
   | (with_reducible exact impl_TurnLine.mono _ _)
   | (with_reducible exact spec_DrawIsLine.mono _ _)
   | (with_reducible exact spec_DrawLinesMeet.mono _ _)
   | (with_reducible exact LeO.refl _)
   | (with_reducible exact LeO.none _)
   | (with_reducible refine LeO.ite ?_ ?_)
   | (with_reducible refine LeO.bind ?_ (fun _ => ?_))
   | exact ih0 _ _ _
   | exact ih1 _ _
   | exact impl_EqualLines.mono _ _ _
   | exact impl_IsLine.mono _ _
   | exact impl_IsSimple.mono _ _
   | exact impl_LineSteps.mono _ _
   | exact impl_LinesMeet.mono _ _ _
   | exact impl_SegmentsOf.mono _ _
   | exact impl_TurnLine.mono _ _
   | exact spec_DrawIsLine.mono _ _
   | exact spec_DrawLinesMeet.mono _ _
   | exact LeO.none _
   | refine LeO.ite ?_ ?_
   | refine LeO.bind ?_ (fun _ => ?_)
def laws_FnLines.T12 : Bool × List (List Nat × List Nat) := (true, [([], []), ([0], [0]), ([1, 1], [1]), ([2], [2]), ([3, 2], [2, 3]), ([2], [2]), ([5, 2], [2, 5]), ([6, 2], [2, 6]), ([4, 7, 2], [2, 4, 7]), ([2, 8], [2, 8]), ([9, 2], [9]), ([10], [10]), ([11, 10], [10, 11]), ([12, 10], [10, 12]), ([13, 10], [10, 13]), ([10], [10]), ([15, 10], [10, 15]), ([16, 10], [10, 16]), ([14, 17, 10], [10, 14, 17]), ([10, 18], [10, 18]), ([19, 10], [19]), ([20], [20]), ([21, 20, 20], [20, 21]), ([22, 20], [20, 22]), ([23, 22, 20], [20, 23]), ([24], [24]), ([25, 24], [24, 25]), ([26, 24], [24, 26]), ([24, 27, 20], [20, 24, 27]), ([28, 24, 20], [20, 28]), ([29], [29]), ([30, 29, 29], [29, 30]), ([31, 29], [29, 31]), ([29, 32, 20], [20, 29, 32]), ([20, 33], [20, 33]), ([34, 31, 0, 1, 2, 3, 4, 5, 6, 7, 8, 9, 10, 11, 12, 13, 14, 15, 16, 17, 18, 19, 20, 21, 22, 23, 24, 25, 26, 27, 28, 29, 30, 31, 32, 33, 34], [34])])
def laws_FnLines.B12 : List Nat := [0, 1, 3, 7, 15, 7, 39, 103, 255, 511, 1023, 2047, 4095, 8191, 16383, 2047, 34815, 100351, 262143, 524287, 1048575, 2097151, 4194303, 8388607, 16777215, 33554431, 67108863, 134217727, 268435455, 536870911, 1073741823, 2147483647, 4294967295, 8589934591, 17179869183, 34359738367]
theorem laws_FnLines.tab12 : rtab .any (opsOf Try.f3 12) = laws_FnLines.T12 := by kernel_rfl
theorem laws_FnLines.bits12 : waitsOk laws_FnLines.T12.2 laws_FnLines.B12 = true := by kernel_rfl
set_option maxHeartbeats 8000000 in
set_option maxRecDepth 100000 in
theorem laws_FnLines.calls (k : Nat) (A0 : Option Addr) (c0 : Nat) (l0 : List Int) (r : Bool) (w : World) (hr0 : Kd.C (Kd.int .u8) w A0 l0.length l0) (hc0 : l0.length ≤ c0) (h : laws_FnLines.f k l0 = some r) :
  Calls Try.prog 3 #[.slice A0 l0.length c0] w fun e w' => e = .returned (.bool r) ∧ Below w.heap.size w w' := by
 have hu36 := Try.underlying36
 have HR0 := Aside0.mk hr0
 have HC0 := Aside0.mk hc0
 clear hr0 hc0
 have HB := Aside0.mk (Below.refl w.heap.size w)
 have H : ((laws_big.f l0).bind fun t345 => (if t345 = true then (some true) else ((spec_DrawIsLine.f k l0).bind fun t346 => ((impl_TurnLine.f k t346).bind fun t349 => ((impl_IsLine.f k t346).bind fun t352 => ((impl_IsLine.f k t349).bind fun t353 => (if (t352 != t353) = true then (laws_FnLines.j0 k l0 t346 true) else ((impl_IsSimple.f k t346).bind fun t354 => ((impl_IsSimple.f k t349).bind fun t355 => (if (t354 != t355) = true then (laws_FnLines.j0 k l0 t346 true) else ((impl_LineSteps.f k t346).bind fun t356 => ((impl_LineSteps.f k t349).bind fun t357 => (if t356 = t357 then ((impl_TurnLine.f k t349).bind fun t358 => ((impl_EqualLines.f k t358 t346).bind fun t361 => (laws_FnLines.j0 k l0 t346 (!t361)))) else (laws_FnLines.j0 k l0 t346 true)))))))))))))) = some r := h
 clear h
 replace H := Option.bind_eq_some_iff.mp H
 obtain ⟨t345, A20, H⟩ := H
 replace H : (if t345 = true then (some true) else ((spec_DrawIsLine.f k l0).bind fun t346 => ((impl_TurnLine.f k t346).bind fun t349 => ((impl_IsLine.f k t346).bind fun t352 => ((impl_IsLine.f k t349).bind fun t353 => (if (t352 != t353) = true then (laws_FnLines.j0 k l0 t346 true) else ((impl_IsSimple.f k t346).bind fun t354 => ((impl_IsSimple.f k t349).bind fun t355 => (if (t354 != t355) = true then (laws_FnLines.j0 k l0 t346 true) else ((impl_LineSteps.f k t346).bind fun t356 => ((impl_LineSteps.f k t349).bind fun t357 => (if t356 = t357 then ((impl_TurnLine.f k t349).bind fun t358 => ((impl_EqualLines.f k t358 t346).bind fun t361 => (laws_FnLines.j0 k l0 t346 (!t361)))) else (laws_FnLines.j0 k l0 t346 true))))))))))))) = some r := H
 have A2 := Aside0.mk A20
 clear A20
 by_cases c3 : t345 = true
 ·subst c3
  have H1 : (some true) = some r := by rw [if_pos rfl] at H; exact H
  clear H
  have H := H1
  clear H1
  obtain rfl := Option.some.inj H
  go_enter Try.func3, Try.ntmps3
  go_wp2_with (first | ((with_reducible refine gate_callee (f := 9) rfl ?_); refine gL (some 10) Try.func9 #[.slice A0 l0.length c0] ?_; (with_reducible refine (laws_big.calls _ _ l0 true _ ?side1 ?side2 A2.out).mono ?_); (case side1 => exact cM HR0.out); (case side2 => exact HC0.out); rintro e w' ⟨rfl, ⟨nd, rfl⟩⟩; refine ⟨_, rfl, ?_⟩))
  go_ret
  exact ⟨by first | rfl | (simp [errW_none, errW_some] <;> rfl) | (simp [*, errW_none, errW_some] <;> rfl), eB0 HB⟩
 ·replace c3 := Bool.eq_false_iff.mpr c3
  subst c3
  have H1 : ((spec_DrawIsLine.f k l0).bind fun t346 => ((impl_TurnLine.f k t346).bind fun t349 => ((impl_IsLine.f k t346).bind fun t352 => ((impl_IsLine.f k t349).bind fun t353 => (if (t352 != t353) = true then (laws_FnLines.j0 k l0 t346 true) else ((impl_IsSimple.f k t346).bind fun t354 => ((impl_IsSimple.f k t349).bind fun t355 => (if (t354 != t355) = true then (laws_FnLines.j0 k l0 t346 true) else ((impl_LineSteps.f k t346).bind fun t356 => ((impl_LineSteps.f k t349).bind fun t357 => (if t356 = t357 then ((impl_TurnLine.f k t349).bind fun t358 => ((impl_EqualLines.f k t358 t346).bind fun t361 => (laws_FnLines.j0 k l0 t346 (!t361)))) else (laws_FnLines.j0 k l0 t346 true)))))))))))) = some r := by rw [if_neg (show ¬ (false = true) by decide)] at H; exact H
  clear H
  have H := H1
  clear H1
  replace H := Option.bind_eq_some_iff.mp H
  obtain ⟨t346, A40, H⟩ := H
  replace H : ((impl_TurnLine.f k t346).bind fun t349 => ((impl_IsLine.f k t346).bind fun t352 => ((impl_IsLine.f k t349).bind fun t353 => (if (t352 != t353) = true then (laws_FnLines.j0 k l0 t346 true) else ((impl_IsSimple.f k t346).bind fun t354 => ((impl_IsSimple.f k t349).bind fun t355 => (if (t354 != t355) = true then (laws_FnLines.j0 k l0 t346 true) else ((impl_LineSteps.f k t346).bind fun t356 => ((impl_LineSteps.f k t349).bind fun t357 => (if t356 = t357 then ((impl_TurnLine.f k t349).bind fun t358 => ((impl_EqualLines.f k t358 t346).bind fun t361 => (laws_FnLines.j0 k l0 t346 (!t361)))) else (laws_FnLines.j0 k l0 t346 true))))))))))) = some r := H
  have A4 := Aside0.mk A40
  clear A40
  replace H := Option.bind_eq_some_iff.mp H
  obtain ⟨t349, A50, H⟩ := H
  replace H : ((impl_IsLine.f k t346).bind fun t352 => ((impl_IsLine.f k t349).bind fun t353 => (if (t352 != t353) = true then (laws_FnLines.j0 k l0 t346 true) else ((impl_IsSimple.f k t346).bind fun t354 => ((impl_IsSimple.f k t349).bind fun t355 => (if (t354 != t355) = true then (laws_FnLines.j0 k l0 t346 true) else ((impl_LineSteps.f k t346).bind fun t356 => ((impl_LineSteps.f k t349).bind fun t357 => (if t356 = t357 then ((impl_TurnLine.f k t349).bind fun t358 => ((impl_EqualLines.f k t358 t346).bind fun t361 => (laws_FnLines.j0 k l0 t346 (!t361)))) else (laws_FnLines.j0 k l0 t346 true)))))))))) = some r := H
  have A5 := Aside0.mk A50
  clear A50
  have HC6 := Aside0.mk H
  clear H
  go_enter Try.func3, Try.ntmps3
  go_upto_region 5 with (first | ((with_reducible refine gate_callee (f := 9) rfl ?_); refine gL (some 10) Try.func9 #[.slice A0 l0.length c0] ?_; (with_reducible refine (laws_big.calls _ _ l0 false _ ?side1 ?side2 A2.out).mono ?_); (case side1 => exact cM HR0.out); (case side2 => exact HC0.out); rintro e w' ⟨rfl, ⟨nd, rfl⟩⟩; refine ⟨_, rfl, ?_⟩) | ((with_reducible refine gate_callee (f := 10) rfl ?_); refine gL (some 12) Try.func10 #[.slice A0 l0.length c0] ?_; (with_reducible refine (spec_DrawIsLine.calls k _ _ l0 t346 _ ?side1 ?side2 A4.out).mono ?_); (case side1 => exact cM HR0.out); (case side2 => exact HC0.out); rintro e w7 ⟨v347, rfl, ho0, hb⟩; refine ⟨_, rfl, ?_⟩; have HO348 := Aside0.mk (Kd.R_lower ho0 (below_size (eB0 HB))); replace HB := sB0 HB hb; (try clear hb); (try clear ho0); obtain ⟨Ao8, co8, eo8⟩ := Kd.R_slice HO348.out; subst eo8) | ((with_reducible refine gate_callee (f := 11) rfl ?_); refine gL (some 14) Try.func11 #[.slice Ao8 t346.length co8] ?_; (with_reducible refine (impl_TurnLine.calls k _ _ t346 t349 _ ?side1 ?side2 A5.out).mono ?_); (case side1 => exact cM (Kd.R_reads' HO348.out).2.2); (case side2 => exact (Kd.R_reads' HO348.out).2.1); rintro e w9 ⟨v350, rfl, ho0, hb⟩; refine ⟨_, rfl, ?_⟩; have HO351 := Aside0.mk (Kd.R_lower (Kd.R_new' ho0 (Kd.R_lt (rM HO348))) (below_size (eB0 HB))); replace HO348 := Aside0.mk (Kd.R_elder' (rM HO348) (Kd.R_base ho0) hb); replace HB := sB0 HB hb; (try clear hb); (try clear ho0)))
  (try simp only [Act.put, List.setIfInBounds_toArray, List.set_cons_zero, List.set_cons_succ])
  go_cut [40] (fun v40 wc => ∃ (kq : Nat) (x40_5 : Bool), v40 = .bool x40_5 ∧ Aside0 (laws_FnLines.j0 kq l0 t346 x40_5 = some r) ∧ Aside0 (kq ≤ k) ∧ Aside0 (Kd.R k36 36 wc w.heap.size (fun _ => True) (.slice Ao8 t346.length co8) t346) ∧ Aside0 (Below w.heap.size w wc))
  case first =>
   have H := HC6.out
   clear HC6
   replace H := Option.bind_eq_some_iff.mp H
   obtain ⟨t352, A100, H⟩ := H
   replace H : ((impl_IsLine.f k t349).bind fun t353 => (if (t352 != t353) = true then (laws_FnLines.j0 k l0 t346 true) else ((impl_IsSimple.f k t346).bind fun t354 => ((impl_IsSimple.f k t349).bind fun t355 => (if (t354 != t355) = true then (laws_FnLines.j0 k l0 t346 true) else ((impl_LineSteps.f k t346).bind fun t356 => ((impl_LineSteps.f k t349).bind fun t357 => (if t356 = t357 then ((impl_TurnLine.f k t349).bind fun t358 => ((impl_EqualLines.f k t358 t346).bind fun t361 => (laws_FnLines.j0 k l0 t346 (!t361)))) else (laws_FnLines.j0 k l0 t346 true))))))))) = some r := H
   have A10 := Aside0.mk A100
   clear A100
   replace H := Option.bind_eq_some_iff.mp H
   obtain ⟨t353, A110, H⟩ := H
   replace H : (if (t352 != t353) = true then (laws_FnLines.j0 k l0 t346 true) else ((impl_IsSimple.f k t346).bind fun t354 => ((impl_IsSimple.f k t349).bind fun t355 => (if (t354 != t355) = true then (laws_FnLines.j0 k l0 t346 true) else ((impl_LineSteps.f k t346).bind fun t356 => ((impl_LineSteps.f k t349).bind fun t357 => (if t356 = t357 then ((impl_TurnLine.f k t349).bind fun t358 => ((impl_EqualLines.f k t358 t346).bind fun t361 => (laws_FnLines.j0 k l0 t346 (!t361)))) else (laws_FnLines.j0 k l0 t346 true)))))))) = some r := H
   have A11 := Aside0.mk A110
   clear A110
   by_cases c12 : (t352 != t353) = true
   ·rw [if_pos c12] at H
    have c12b0 : (t352 != t353) = true := c12
    (try (have c12b1 : decide (t352 = t353) = false := by simpa using c12))
    (try (have c12b2 : (t352 == t353) = false := by simpa using c12))
    (try (have c12b3 : ¬ (t352 = t353) := by simpa using c12))
    clear c12
    (first | rw [c12b0] | (simp only [i64_w, i32_w]; rw [c12b0]) | skip)
    have H' := Aside0.mk H
    clear H
    go_wp2_with (first | ((with_reducible refine gate_callee (f := 12) rfl ?_); refine gL (some 16) Try.func12 #[.slice Ao8 t346.length co8] ?_; (with_reducible refine (impl_IsLine.calls k _ _ t346 t352 _ ?side1 ?side2 A10.out).mono ?_); (case side1 => exact cM (Kd.R_reads' HO348.out).2.2); (case side2 => exact (Kd.R_reads' HO348.out).2.1); rintro e w13 ⟨rfl, hb⟩; refine ⟨_, rfl, ?_⟩; replace HO348 := Aside0.mk (Kd.R_below (rM HO348) hb); replace HO351 := Aside0.mk (Kd.R_below (rM HO351) hb); replace HB := sB0 HB hb; (try clear hb); obtain ⟨Ao14, co14, eo14⟩ := Kd.R_slice HO351.out; subst eo14) | ((with_reducible refine gate_callee (f := 12) rfl ?_); refine gL (some 18) Try.func12 #[.slice Ao14 t349.length co14] ?_; (with_reducible refine (impl_IsLine.calls k _ _ t349 t353 _ ?side1 ?side2 A11.out).mono ?_); (case side1 => exact cM (Kd.R_reads' HO351.out).2.2); (case side2 => exact (Kd.R_reads' HO351.out).2.1); rintro e w15 ⟨rfl, hb⟩; refine ⟨_, rfl, ?_⟩; replace HO348 := Aside0.mk (Kd.R_below (rM HO348) hb); replace HO351 := Aside0.mk (Kd.R_below (rM HO351) hb); replace HB := sB0 HB hb; (try clear hb)))
    go_meet
    case rel => exact ⟨_, (true), (by first | rfl | (simp; done) | (simp [*]; done)), H', ⟨by first | omega | exact Nat.le_refl _⟩, ⟨by (with_reducible repeat (first | apply Kd.R_alloc | apply Kd.R_drewN | apply Kd.R_drew)); exact Kd.R_mono HO348.out (fun _ hk => trivial)⟩, ⟨eB0 HB⟩⟩
   ·rw [if_neg c12] at H
    have c12b0 : (t352 != t353) = false := by simpa using c12
    (try (have c12b1 : decide (t352 = t353) = true := by simpa using c12))
    (try (have c12b2 : (t352 == t353) = true := by simpa using c12))
    clear c12
    (first | rw [c12b0] | (simp only [i64_w, i32_w]; rw [c12b0]) | skip)
    replace H := Option.bind_eq_some_iff.mp H
    obtain ⟨t354, A160, H⟩ := H
    replace H : ((impl_IsSimple.f k t349).bind fun t355 => (if (t354 != t355) = true then (laws_FnLines.j0 k l0 t346 true) else ((impl_LineSteps.f k t346).bind fun t356 => ((impl_LineSteps.f k t349).bind fun t357 => (if t356 = t357 then ((impl_TurnLine.f k t349).bind fun t358 => ((impl_EqualLines.f k t358 t346).bind fun t361 => (laws_FnLines.j0 k l0 t346 (!t361)))) else (laws_FnLines.j0 k l0 t346 true)))))) = some r := H
    have A16 := Aside0.mk A160
    clear A160
    replace H := Option.bind_eq_some_iff.mp H
    obtain ⟨t355, A170, H⟩ := H
    replace H : (if (t354 != t355) = true then (laws_FnLines.j0 k l0 t346 true) else ((impl_LineSteps.f k t346).bind fun t356 => ((impl_LineSteps.f k t349).bind fun t357 => (if t356 = t357 then ((impl_TurnLine.f k t349).bind fun t358 => ((impl_EqualLines.f k t358 t346).bind fun t361 => (laws_FnLines.j0 k l0 t346 (!t361)))) else (laws_FnLines.j0 k l0 t346 true))))) = some r := H
    have A17 := Aside0.mk A170
    clear A170
    by_cases c18 : (t354 != t355) = true
    ·rw [if_pos c18] at H
     have c18b0 : (t354 != t355) = true := c18
     (try (have c18b1 : decide (t354 = t355) = false := by simpa using c18))
     (try (have c18b2 : (t354 == t355) = false := by simpa using c18))
     (try (have c18b3 : ¬ (t354 = t355) := by simpa using c18))
     clear c18
     have H' := Aside0.mk H
     clear H
     go_wp2_with (first | ((with_reducible refine gate_callee (f := 12) rfl ?_); refine gL (some 16) Try.func12 #[.slice Ao8 t346.length co8] ?_; (with_reducible refine (impl_IsLine.calls k _ _ t346 t352 _ ?side1 ?side2 A10.out).mono ?_); (case side1 => exact cM (Kd.R_reads' HO348.out).2.2); (case side2 => exact (Kd.R_reads' HO348.out).2.1); rintro e w19 ⟨rfl, hb⟩; refine ⟨_, rfl, ?_⟩; replace HO348 := Aside0.mk (Kd.R_below (rM HO348) hb); replace HO351 := Aside0.mk (Kd.R_below (rM HO351) hb); replace HB := sB0 HB hb; (try clear hb); obtain ⟨Ao20, co20, eo20⟩ := Kd.R_slice HO351.out; subst eo20) | ((with_reducible refine gate_callee (f := 12) rfl ?_); refine gL (some 18) Try.func12 #[.slice Ao20 t349.length co20] ?_; (with_reducible refine (impl_IsLine.calls k _ _ t349 t353 _ ?side1 ?side2 A11.out).mono ?_); (case side1 => exact cM (Kd.R_reads' HO351.out).2.2); (case side2 => exact (Kd.R_reads' HO351.out).2.1); rintro e w21 ⟨rfl, hb⟩; refine ⟨_, rfl, ?_⟩; replace HO348 := Aside0.mk (Kd.R_below (rM HO348) hb); replace HO351 := Aside0.mk (Kd.R_below (rM HO351) hb); replace HB := sB0 HB hb; (try clear hb)) | (go_at_call 13; (with_reducible refine (impl_IsSimple.calls k _ _ t346 t354 _ ?side1 ?side2 A16.out).mono ?_); (case side1 => exact cM (Kd.R_reads' HO348.out).2.2); (case side2 => exact (Kd.R_reads' HO348.out).2.1); rintro e w22 ⟨rfl, hb⟩; replace HO348 := Aside0.mk (Kd.R_below (rM HO348) hb); replace HO351 := Aside0.mk (Kd.R_below (rM HO351) hb); replace HB := sB0 HB hb; (try clear hb)) | (go_at_call 13; (with_reducible refine (impl_IsSimple.calls k _ _ t349 t355 _ ?side1 ?side2 A17.out).mono ?_); (case side1 => exact cM (Kd.R_reads' HO351.out).2.2); (case side2 => exact (Kd.R_reads' HO351.out).2.1); rintro e w23 ⟨rfl, hb⟩; replace HO348 := Aside0.mk (Kd.R_below (rM HO348) hb); replace HO351 := Aside0.mk (Kd.R_below (rM HO351) hb); replace HB := sB0 HB hb; (try clear hb)))
     go_meet
     case rel => exact ⟨_, (true), (by first | rfl | (simp; done) | (simp [*]; done)), H', ⟨by first | omega | exact Nat.le_refl _⟩, ⟨by (with_reducible repeat (first | apply Kd.R_alloc | apply Kd.R_drewN | apply Kd.R_drew)); exact Kd.R_mono HO348.out (fun _ hk => trivial)⟩, ⟨eB0 HB⟩⟩
    ·rw [if_neg c18] at H
     have c18b0 : (t354 != t355) = false := by simpa using c18
     (try (have c18b1 : decide (t354 = t355) = true := by simpa using c18))
     (try (have c18b2 : (t354 == t355) = true := by simpa using c18))
     clear c18
     replace H := Option.bind_eq_some_iff.mp H
     obtain ⟨t356, A240, H⟩ := H
     replace H : ((impl_LineSteps.f k t349).bind fun t357 => (if t356 = t357 then ((impl_TurnLine.f k t349).bind fun t358 => ((impl_EqualLines.f k t358 t346).bind fun t361 => (laws_FnLines.j0 k l0 t346 (!t361)))) else (laws_FnLines.j0 k l0 t346 true))) = some r := H
     have A24 := Aside0.mk A240
     clear A240
     replace H := Option.bind_eq_some_iff.mp H
     obtain ⟨t357, A250, H⟩ := H
     replace H : (if t356 = t357 then ((impl_TurnLine.f k t349).bind fun t358 => ((impl_EqualLines.f k t358 t346).bind fun t361 => (laws_FnLines.j0 k l0 t346 (!t361)))) else (laws_FnLines.j0 k l0 t346 true)) = some r := H
     have A25 := Aside0.mk A250
     clear A250
     by_cases c26 : t356 = t357
     ·rw [if_pos c26] at H
      have c26b0 : (t356 == t357) = true := beq_iff_eq.mpr c26
      have c26b1 : (t356 != t357) = false := bne_eq_false_iff_eq.mpr c26
      clear c26
      replace H := Option.bind_eq_some_iff.mp H
      obtain ⟨t358, A270, H⟩ := H
      replace H : ((impl_EqualLines.f k t358 t346).bind fun t361 => (laws_FnLines.j0 k l0 t346 (!t361))) = some r := H
      have A27 := Aside0.mk A270
      clear A270
      replace H := Option.bind_eq_some_iff.mp H
      obtain ⟨t361, A280, H⟩ := H
      replace H : (laws_FnLines.j0 k l0 t346 (!t361)) = some r := H
      have A28 := Aside0.mk A280
      clear A280
      have H' := Aside0.mk H
      clear H
      go_wp2_with (first | ((with_reducible refine gate_callee (f := 12) rfl ?_); refine gL (some 16) Try.func12 #[.slice Ao8 t346.length co8] ?_; (with_reducible refine (impl_IsLine.calls k _ _ t346 t352 _ ?side1 ?side2 A10.out).mono ?_); (case side1 => exact cM (Kd.R_reads' HO348.out).2.2); (case side2 => exact (Kd.R_reads' HO348.out).2.1); rintro e w29 ⟨rfl, hb⟩; refine ⟨_, rfl, ?_⟩; replace HO348 := Aside0.mk (Kd.R_below (rM HO348) hb); replace HO351 := Aside0.mk (Kd.R_below (rM HO351) hb); replace HB := sB0 HB hb; (try clear hb); obtain ⟨Ao30, co30, eo30⟩ := Kd.R_slice HO351.out; subst eo30) | ((with_reducible refine gate_callee (f := 12) rfl ?_); refine gL (some 18) Try.func12 #[.slice Ao30 t349.length co30] ?_; (with_reducible refine (impl_IsLine.calls k _ _ t349 t353 _ ?side1 ?side2 A11.out).mono ?_); (case side1 => exact cM (Kd.R_reads' HO351.out).2.2); (case side2 => exact (Kd.R_reads' HO351.out).2.1); rintro e w31 ⟨rfl, hb⟩; refine ⟨_, rfl, ?_⟩; replace HO348 := Aside0.mk (Kd.R_below (rM HO348) hb); replace HO351 := Aside0.mk (Kd.R_below (rM HO351) hb); replace HB := sB0 HB hb; (try clear hb)) | (go_at_call 13; (with_reducible refine (impl_IsSimple.calls k _ _ t346 t354 _ ?side1 ?side2 A16.out).mono ?_); (case side1 => exact cM (Kd.R_reads' HO348.out).2.2); (case side2 => exact (Kd.R_reads' HO348.out).2.1); rintro e w32 ⟨rfl, hb⟩; replace HO348 := Aside0.mk (Kd.R_below (rM HO348) hb); replace HO351 := Aside0.mk (Kd.R_below (rM HO351) hb); replace HB := sB0 HB hb; (try clear hb)) | (go_at_call 13; (with_reducible refine (impl_IsSimple.calls k _ _ t349 t355 _ ?side1 ?side2 A17.out).mono ?_); (case side1 => exact cM (Kd.R_reads' HO351.out).2.2); (case side2 => exact (Kd.R_reads' HO351.out).2.1); rintro e w33 ⟨rfl, hb⟩; replace HO348 := Aside0.mk (Kd.R_below (rM HO348) hb); replace HO351 := Aside0.mk (Kd.R_below (rM HO351) hb); replace HB := sB0 HB hb; (try clear hb)) | (go_at_call 14; (with_reducible refine (impl_LineSteps.calls k _ _ t346 t356 _ ?side1 ?side2 A24.out).mono ?_); (case side1 => exact cM (Kd.R_reads' HO348.out).2.2); (case side2 => exact (Kd.R_reads' HO348.out).2.1); rintro e w34 ⟨rfl, hb⟩; replace HO348 := Aside0.mk (Kd.R_below (rM HO348) hb); replace HO351 := Aside0.mk (Kd.R_below (rM HO351) hb); replace HB := sB0 HB hb; (try clear hb)) | (go_at_call 14; (with_reducible refine (impl_LineSteps.calls k _ _ t349 t357 _ ?side1 ?side2 A25.out).mono ?_); (case side1 => exact cM (Kd.R_reads' HO351.out).2.2); (case side2 => exact (Kd.R_reads' HO351.out).2.1); rintro e w35 ⟨rfl, hb⟩; replace HO348 := Aside0.mk (Kd.R_below (rM HO348) hb); replace HO351 := Aside0.mk (Kd.R_below (rM HO351) hb); replace HB := sB0 HB hb; (try clear hb)) | (go_at_call 11; (with_reducible refine (impl_TurnLine.calls k _ _ t349 t358 _ ?side1 ?side2 A27.out).mono ?_); (case side1 => exact cM (Kd.R_reads' HO351.out).2.2); (case side2 => exact (Kd.R_reads' HO351.out).2.1); rintro e w36 ⟨v359, rfl, ho0, hb⟩; have HO360 := Aside0.mk (Kd.R_lower (Kd.R_new' (Kd.R_new' ho0 (Kd.R_lt (rM HO348))) (Kd.R_lt (rM HO351))) (below_size (eB0 HB))); replace HO348 := Aside0.mk (Kd.R_elder' (rM HO348) (Kd.R_base ho0) hb); replace HO351 := Aside0.mk (Kd.R_elder' (rM HO351) (Kd.R_base ho0) hb); replace HB := sB0 HB hb; (try clear hb); (try clear ho0); obtain ⟨Ao37, co37, eo37⟩ := Kd.R_slice HO360.out; subst eo37) | (go_at_call 15; (with_reducible refine (impl_EqualLines.calls k _ _ t358 _ _ t346 t361 _ ?side1 ?side2 ?side3 ?side4 A28.out).mono ?_); (case side1 => exact cM (Kd.R_reads' HO360.out).2.2); (case side2 => exact (Kd.R_reads' HO360.out).2.1); (case side3 => exact cM (Kd.R_reads' HO348.out).2.2); (case side4 => exact (Kd.R_reads' HO348.out).2.1); rintro e w' ⟨rfl, ⟨nd, rfl⟩⟩))
      go_meet
      case rel => exact ⟨_, (!t361), (by first | rfl | (simp; done) | (simp [*]; done)), H', ⟨by first | omega | exact Nat.le_refl _⟩, ⟨by (with_reducible repeat (first | apply Kd.R_alloc | apply Kd.R_drewN | apply Kd.R_drew)); exact Kd.R_mono HO348.out (fun _ hk => trivial)⟩, ⟨eB0 HB⟩⟩
     ·rw [if_neg c26] at H
      have c26b0 : (t356 == t357) = false := beq_eq_false_iff_ne.mpr c26
      have c26b1 : (t356 != t357) = true := bne_iff_ne.mpr c26
      have H' := Aside0.mk H
      clear H
      go_wp2_with (first | ((with_reducible refine gate_callee (f := 12) rfl ?_); refine gL (some 16) Try.func12 #[.slice Ao8 t346.length co8] ?_; (with_reducible refine (impl_IsLine.calls k _ _ t346 t352 _ ?side1 ?side2 A10.out).mono ?_); (case side1 => exact cM (Kd.R_reads' HO348.out).2.2); (case side2 => exact (Kd.R_reads' HO348.out).2.1); rintro e w38 ⟨rfl, hb⟩; refine ⟨_, rfl, ?_⟩; replace HO348 := Aside0.mk (Kd.R_below (rM HO348) hb); replace HO351 := Aside0.mk (Kd.R_below (rM HO351) hb); replace HB := sB0 HB hb; (try clear hb); obtain ⟨Ao39, co39, eo39⟩ := Kd.R_slice HO351.out; subst eo39) | ((with_reducible refine gate_callee (f := 12) rfl ?_); refine gL (some 18) Try.func12 #[.slice Ao39 t349.length co39] ?_; (with_reducible refine (impl_IsLine.calls k _ _ t349 t353 _ ?side1 ?side2 A11.out).mono ?_); (case side1 => exact cM (Kd.R_reads' HO351.out).2.2); (case side2 => exact (Kd.R_reads' HO351.out).2.1); rintro e w40 ⟨rfl, hb⟩; refine ⟨_, rfl, ?_⟩; replace HO348 := Aside0.mk (Kd.R_below (rM HO348) hb); replace HO351 := Aside0.mk (Kd.R_below (rM HO351) hb); replace HB := sB0 HB hb; (try clear hb)) | (go_at_call 13; (with_reducible refine (impl_IsSimple.calls k _ _ t346 t354 _ ?side1 ?side2 A16.out).mono ?_); (case side1 => exact cM (Kd.R_reads' HO348.out).2.2); (case side2 => exact (Kd.R_reads' HO348.out).2.1); rintro e w41 ⟨rfl, hb⟩; replace HO348 := Aside0.mk (Kd.R_below (rM HO348) hb); replace HO351 := Aside0.mk (Kd.R_below (rM HO351) hb); replace HB := sB0 HB hb; (try clear hb)) | (go_at_call 13; (with_reducible refine (impl_IsSimple.calls k _ _ t349 t355 _ ?side1 ?side2 A17.out).mono ?_); (case side1 => exact cM (Kd.R_reads' HO351.out).2.2); (case side2 => exact (Kd.R_reads' HO351.out).2.1); rintro e w42 ⟨rfl, hb⟩; replace HO348 := Aside0.mk (Kd.R_below (rM HO348) hb); replace HO351 := Aside0.mk (Kd.R_below (rM HO351) hb); replace HB := sB0 HB hb; (try clear hb)) | (go_at_call 14; (with_reducible refine (impl_LineSteps.calls k _ _ t346 t356 _ ?side1 ?side2 A24.out).mono ?_); (case side1 => exact cM (Kd.R_reads' HO348.out).2.2); (case side2 => exact (Kd.R_reads' HO348.out).2.1); rintro e w43 ⟨rfl, hb⟩; replace HO348 := Aside0.mk (Kd.R_below (rM HO348) hb); replace HO351 := Aside0.mk (Kd.R_below (rM HO351) hb); replace HB := sB0 HB hb; (try clear hb)) | (go_at_call 14; (with_reducible refine (impl_LineSteps.calls k _ _ t349 t357 _ ?side1 ?side2 A25.out).mono ?_); (case side1 => exact cM (Kd.R_reads' HO351.out).2.2); (case side2 => exact (Kd.R_reads' HO351.out).2.1); rintro e w44 ⟨rfl, hb⟩; replace HO348 := Aside0.mk (Kd.R_below (rM HO348) hb); replace HO351 := Aside0.mk (Kd.R_below (rM HO351) hb); replace HB := sB0 HB hb; (try clear hb)))
      go_meet
      case rel => exact ⟨_, (true), (by first | rfl | (simp; done) | (simp [*]; done)), H', ⟨by first | omega | exact Nat.le_refl _⟩, ⟨by (with_reducible repeat (first | apply Kd.R_alloc | apply Kd.R_drewN | apply Kd.R_drew)); exact Kd.R_mono HO348.out (fun _ hk => trivial)⟩, ⟨eB0 HB⟩⟩
  case rest =>
   clear HC6
   try clear c1
   try clear c2
   try clear p2
   try clear c3
   try clear c9
   try clear c10
   try clear c11
   try clear c12
   try clear c12b0
   try clear c12b1
   try clear c12b2
   try clear c18
   try clear c18b0
   try clear c18b1
   try clear c18b2
   try clear c26
   try clear c26b0
   try clear c26b1
   obtain ⟨kq, x40_5, rfl, HA, HJ5, HO_3, HB⟩ := hcut
   cases kq with
   | zero => exact absurd HA.out (by simp [laws_FnLines.j0])
   | succ kj5 =>
    have H := HA.out
    clear HA
    simp only [laws_FnLines.j0] at H
    by_cases c45 : x40_5 = true
    ·subst c45
     have H1 : (some false) = some r := by rw [if_pos rfl] at H; exact H
     clear H
     have H := H1
     clear H1
     obtain rfl := Option.some.inj H
     go_wp2
     go_ret
     exact ⟨by first | rfl | (simp [errW_none, errW_some] <;> rfl) | (simp [*, errW_none, errW_some] <;> rfl), eB0 HB⟩
    ·replace c45 := Bool.eq_false_iff.mpr c45
     subst c45
     have H1 : ((spec_DrawLinesMeet.f kj5 l0).bind fun bt362 => ((impl_LinesMeet.f kj5 bt362.1 bt362.2).bind fun t368 => ((impl_LinesMeet.f kj5 bt362.2 bt362.1).bind fun t369 => (if t368 = t369 then ((impl_TurnLine.f kj5 bt362.1).bind fun t370 => ((impl_LinesMeet.f kj5 t370 bt362.2).bind fun t373 => (laws_FnLines.j1 kj5 t346 (t368 != t373)))) else (laws_FnLines.j1 kj5 t346 true))))) = some r := by rw [if_neg (show ¬ (false = true) by decide)] at H; exact H
     clear H
     have H := H1
     clear H1
     replace H := Option.bind_eq_some_iff.mp H
     obtain ⟨⟨t362, t363⟩, A460, H⟩ := H
     replace H : ((impl_LinesMeet.f kj5 t362 t363).bind fun t368 => ((impl_LinesMeet.f kj5 t363 t362).bind fun t369 => (if t368 = t369 then ((impl_TurnLine.f kj5 t362).bind fun t370 => ((impl_LinesMeet.f kj5 t370 t363).bind fun t373 => (laws_FnLines.j1 kj5 t346 (t368 != t373)))) else (laws_FnLines.j1 kj5 t346 true)))) = some r := H
     have A46 := Aside0.mk A460
     clear A460
     replace H := Option.bind_eq_some_iff.mp H
     obtain ⟨t368, A470, H⟩ := H
     replace H : ((impl_LinesMeet.f kj5 t363 t362).bind fun t369 => (if t368 = t369 then ((impl_TurnLine.f kj5 t362).bind fun t370 => ((impl_LinesMeet.f kj5 t370 t363).bind fun t373 => (laws_FnLines.j1 kj5 t346 (t368 != t373)))) else (laws_FnLines.j1 kj5 t346 true))) = some r := H
     have A47 := Aside0.mk A470
     clear A470
     have HC48 := Aside0.mk H
     clear H
     go_upto_region 9 with (first | ((with_reducible refine gate_callee (f := 16) rfl ?_); refine gL (some 43) Try.func16 #[.slice A0 l0.length c0] ?_; (with_reducible refine (spec_DrawLinesMeet.calls kj5 _ _ l0 t362 t363 _ ?side1 ?side2 A46.out).mono ?_); (case side1 => exact cM (Kd.C_below HR0.out HB.out)); (case side2 => exact HC0.out); rintro e w49 ⟨v364, v366, rfl, ho0, ho1, hb⟩; refine ⟨_, rfl, ?_⟩; have HO365 := Aside0.mk (Kd.R_lower (Kd.R_new' ho0 (Kd.R_lt (rM HO_3))) (below_size (eB0 HB))); have HO367 := Aside0.mk (Kd.R_lower (Kd.R_new' ho1 (Kd.R_lt (rM HO_3))) (below_size (eB0 HB))); replace HO_3 := Aside0.mk (Kd.R_mono (Kd.R_told (Kd.R_told (Kd.R_old (rM HO_3) hb) (Kd.R_base ho0)) (Kd.R_base ho1)) (fun _ h_ => h_.1)); replace HB := sB0 HB hb; (try clear hb); (try clear ho0); (try clear ho1); obtain ⟨Ao50, co50, eo50⟩ := Kd.R_slice HO365.out; subst eo50; obtain ⟨Ao51, co51, eo51⟩ := Kd.R_slice HO367.out; subst eo51) | ((with_reducible refine gate_callee (f := 17) rfl ?_); refine gL (some 48) Try.func17 #[.slice Ao50 t362.length co50, .slice Ao51 t363.length co51] ?_; (with_reducible refine (impl_LinesMeet.calls kj5 _ _ t362 _ _ t363 t368 _ ?side1 ?side2 ?side3 ?side4 A47.out).mono ?_); (case side1 => exact cM (Kd.R_reads' HO365.out).2.2); (case side2 => exact (Kd.R_reads' HO365.out).2.1); (case side3 => exact cM (Kd.R_reads' HO367.out).2.2); (case side4 => exact (Kd.R_reads' HO367.out).2.1); rintro e w52 ⟨rfl, hb⟩; refine ⟨_, rfl, ?_⟩; replace HO_3 := Aside0.mk (Kd.R_below (rM HO_3) hb); replace HO365 := Aside0.mk (Kd.R_below (rM HO365) hb); replace HO367 := Aside0.mk (Kd.R_below (rM HO367) hb); replace HB := sB0 HB hb; (try clear hb)))
     (try simp only [Act.put, List.setIfInBounds_toArray, List.set_cons_zero, List.set_cons_succ])
     go_cut [61] (fun v61 wc => ∃ (kq : Nat) (x61_47 : Bool), v61 = .bool x61_47 ∧ Aside0 (laws_FnLines.j1 kq t346 x61_47 = some r) ∧ Aside0 (kq ≤ kj5) ∧ Aside0 (Kd.R k36 36 wc w.heap.size (fun _ => True) (.slice Ao8 t346.length co8) t346) ∧ Aside0 (Below w.heap.size w wc))
     case first =>
      have H := HC48.out
      clear HC48
      replace H := Option.bind_eq_some_iff.mp H
      obtain ⟨t369, A530, H⟩ := H
      replace H : (if t368 = t369 then ((impl_TurnLine.f kj5 t362).bind fun t370 => ((impl_LinesMeet.f kj5 t370 t363).bind fun t373 => (laws_FnLines.j1 kj5 t346 (t368 != t373)))) else (laws_FnLines.j1 kj5 t346 true)) = some r := H
      have A53 := Aside0.mk A530
      clear A530
      by_cases c54 : t368 = t369
      ·rw [if_pos c54] at H
       have c54b0 : (t368 == t369) = true := beq_iff_eq.mpr c54
       have c54b1 : (t368 != t369) = false := bne_eq_false_iff_eq.mpr c54
       clear c54
       (first | rw [c54b0] | (simp only [i64_w, i32_w]; rw [c54b0]) | skip)
       replace H := Option.bind_eq_some_iff.mp H
       obtain ⟨t370, A550, H⟩ := H
       replace H : ((impl_LinesMeet.f kj5 t370 t363).bind fun t373 => (laws_FnLines.j1 kj5 t346 (t368 != t373))) = some r := H
       have A55 := Aside0.mk A550
       clear A550
       replace H := Option.bind_eq_some_iff.mp H
       obtain ⟨t373, A560, H⟩ := H
       replace H : (laws_FnLines.j1 kj5 t346 (t368 != t373)) = some r := H
       have A56 := Aside0.mk A560
       clear A560
       have H' := Aside0.mk H
       clear H
       go_wp2_with (first | ((with_reducible refine gate_callee (f := 17) rfl ?_); refine gL (some 52) Try.func17 #[.slice Ao51 t363.length co51, .slice Ao50 t362.length co50] ?_; (with_reducible refine (impl_LinesMeet.calls kj5 _ _ t363 _ _ t362 t369 _ ?side1 ?side2 ?side3 ?side4 A53.out).mono ?_); (case side1 => exact cM (Kd.R_reads' HO367.out).2.2); (case side2 => exact (Kd.R_reads' HO367.out).2.1); (case side3 => exact cM (Kd.R_reads' HO365.out).2.2); (case side4 => exact (Kd.R_reads' HO365.out).2.1); rintro e w57 ⟨rfl, hb⟩; refine ⟨_, rfl, ?_⟩; replace HO_3 := Aside0.mk (Kd.R_below (rM HO_3) hb); replace HO365 := Aside0.mk (Kd.R_below (rM HO365) hb); replace HO367 := Aside0.mk (Kd.R_below (rM HO367) hb); replace HB := sB0 HB hb; (try clear hb)) | (go_at_call 11; (with_reducible refine (impl_TurnLine.calls kj5 _ _ t362 t370 _ ?side1 ?side2 A55.out).mono ?_); (case side1 => exact cM (Kd.R_reads' HO365.out).2.2); (case side2 => exact (Kd.R_reads' HO365.out).2.1); rintro e w58 ⟨v371, rfl, ho0, hb⟩; have HO372 := Aside0.mk (Kd.R_lower (Kd.R_new' (Kd.R_new' (Kd.R_new' ho0 (Kd.R_lt (rM HO_3))) (Kd.R_lt (rM HO365))) (Kd.R_lt (rM HO367))) (below_size (eB0 HB))); replace HO_3 := Aside0.mk (Kd.R_elder' (rM HO_3) (Kd.R_base ho0) hb); replace HO365 := Aside0.mk (Kd.R_elder' (rM HO365) (Kd.R_base ho0) hb); replace HO367 := Aside0.mk (Kd.R_elder' (rM HO367) (Kd.R_base ho0) hb); replace HB := sB0 HB hb; (try clear hb); (try clear ho0); obtain ⟨Ao59, co59, eo59⟩ := Kd.R_slice HO372.out; subst eo59) | (go_at_call 17; (with_reducible refine (impl_LinesMeet.calls kj5 _ _ t370 _ _ t363 t373 _ ?side1 ?side2 ?side3 ?side4 A56.out).mono ?_); (case side1 => exact cM (Kd.R_reads' HO372.out).2.2); (case side2 => exact (Kd.R_reads' HO372.out).2.1); (case side3 => exact cM (Kd.R_reads' HO367.out).2.2); (case side4 => exact (Kd.R_reads' HO367.out).2.1); rintro e w60 ⟨rfl, hb⟩; replace HO_3 := Aside0.mk (Kd.R_below (rM HO_3) hb); replace HO365 := Aside0.mk (Kd.R_below (rM HO365) hb); replace HO367 := Aside0.mk (Kd.R_below (rM HO367) hb); replace HO372 := Aside0.mk (Kd.R_below (rM HO372) hb); replace HB := sB0 HB hb; (try clear hb)))
       go_meet
       case rel => exact ⟨_, ((t368 != t373)), (by first | rfl | (simp; done) | (simp [*]; done)), H', ⟨by have := HJ5.out; first | omega | exact Nat.le_refl _⟩, ⟨by (with_reducible repeat (first | apply Kd.R_alloc | apply Kd.R_drewN | apply Kd.R_drew)); exact Kd.R_mono HO_3.out (fun _ hk => trivial)⟩, ⟨eB0 HB⟩⟩
      ·rw [if_neg c54] at H
       have c54b0 : (t368 == t369) = false := beq_eq_false_iff_ne.mpr c54
       have c54b1 : (t368 != t369) = true := bne_iff_ne.mpr c54
       (first | rw [c54b0] | (simp only [i64_w, i32_w]; rw [c54b0]) | skip)
       have H' := Aside0.mk H
       clear H
       go_wp2_with (first | ((with_reducible refine gate_callee (f := 17) rfl ?_); refine gL (some 52) Try.func17 #[.slice Ao51 t363.length co51, .slice Ao50 t362.length co50] ?_; (with_reducible refine (impl_LinesMeet.calls kj5 _ _ t363 _ _ t362 t369 _ ?side1 ?side2 ?side3 ?side4 A53.out).mono ?_); (case side1 => exact cM (Kd.R_reads' HO367.out).2.2); (case side2 => exact (Kd.R_reads' HO367.out).2.1); (case side3 => exact cM (Kd.R_reads' HO365.out).2.2); (case side4 => exact (Kd.R_reads' HO365.out).2.1); rintro e w61 ⟨rfl, hb⟩; refine ⟨_, rfl, ?_⟩; replace HO_3 := Aside0.mk (Kd.R_below (rM HO_3) hb); replace HO365 := Aside0.mk (Kd.R_below (rM HO365) hb); replace HO367 := Aside0.mk (Kd.R_below (rM HO367) hb); replace HB := sB0 HB hb; (try clear hb)))
       go_meet
       case rel => exact ⟨_, (true), (by first | rfl | (simp; done) | (simp [*]; done)), H', ⟨by have := HJ5.out; first | omega | exact Nat.le_refl _⟩, ⟨by (with_reducible repeat (first | apply Kd.R_alloc | apply Kd.R_drewN | apply Kd.R_drew)); exact Kd.R_mono HO_3.out (fun _ hk => trivial)⟩, ⟨eB0 HB⟩⟩
     case rest =>
      clear HC48
      try clear c1
      try clear c2
      try clear p2
      try clear c3
      try clear c4
      try clear c5
      try clear c9
      try clear c10
      try clear c11
      try clear c12
      try clear c12b0
      try clear c12b1
      try clear c12b2
      try clear c16
      try clear c17
      try clear c18
      try clear c18b0
      try clear c18b1
      try clear c18b2
      try clear c26
      try clear c26b0
      try clear c26b1
      try clear c45
      try clear c54
      try clear c54b0
      try clear c54b1
      try clear p2
      obtain ⟨kq, x61_47, rfl, HA, HJ47, HO_3, HB⟩ := hcut
      cases kq with
      | zero => exact absurd HA.out (by simp [laws_FnLines.j1])
      | succ kj47 =>
       have H := HA.out
       clear HA
       simp only [laws_FnLines.j1] at H
       by_cases c62 : x61_47 = true
       ·subst c62
        have H1 : (some false) = some r := by rw [if_pos rfl] at H; exact H
        clear H
        have H := H1
        clear H1
        obtain rfl := Option.some.inj H
        go_wp2
        go_ret
        exact ⟨by first | rfl | (simp [errW_none, errW_some] <;> rfl) | (simp [*, errW_none, errW_some] <;> rfl), eB0 HB⟩
       ·replace c62 := Bool.eq_false_iff.mpr c62
        subst c62
        have H1 : ((impl_SegmentsOf.f kj47 t346).bind fun t374 => ((impl_IsLine.f kj47 t346).bind fun t377 => (if t377 = true then (if (t374.length : Int) = (wrap64 ((t346.length : Int) - 1)) then (if 0 < (t374.length : Int) then (if 0 < (t346.length : Int) then (if (((rd_T38 t374 0).f0.f0) == ((rd_T36 t346 0).f0) && (((rd_T38 t374 0).f0.f1) == ((rd_T36 t346 0).f1))) = true then (some true) else ((impl_IsLine.f kj47 t346).bind fun t380 => (if t380 = true then (some false) else (if (t374.length : Int) = 0 then ((impl_IsSimple.f kj47 t346).bind fun t381 => (some (!t381))) else (some false))))) else (none)) else (none)) else ((impl_IsLine.f kj47 t346).bind fun t382 => (if t382 = true then (some false) else (if (t374.length : Int) = 0 then ((impl_IsSimple.f kj47 t346).bind fun t383 => (some (!t383))) else (some false))))) else ((impl_IsLine.f kj47 t346).bind fun t384 => (if t384 = true then (some false) else (if (t374.length : Int) = 0 then ((impl_IsSimple.f kj47 t346).bind fun t385 => (some (!t385))) else (some false))))))) = some r := by rw [if_neg (show ¬ (false = true) by decide)] at H; exact H
        clear H
        have H := H1
        clear H1
        replace H := Option.bind_eq_some_iff.mp H
        obtain ⟨t374, A630, H⟩ := H
        replace H : ((impl_IsLine.f kj47 t346).bind fun t377 => (if t377 = true then (if (t374.length : Int) = (wrap64 ((t346.length : Int) - 1)) then (if 0 < (t374.length : Int) then (if 0 < (t346.length : Int) then (if (((rd_T38 t374 0).f0.f0) == ((rd_T36 t346 0).f0) && (((rd_T38 t374 0).f0.f1) == ((rd_T36 t346 0).f1))) = true then (some true) else ((impl_IsLine.f kj47 t346).bind fun t380 => (if t380 = true then (some false) else (if (t374.length : Int) = 0 then ((impl_IsSimple.f kj47 t346).bind fun t381 => (some (!t381))) else (some false))))) else (none)) else (none)) else ((impl_IsLine.f kj47 t346).bind fun t382 => (if t382 = true then (some false) else (if (t374.length : Int) = 0 then ((impl_IsSimple.f kj47 t346).bind fun t383 => (some (!t383))) else (some false))))) else ((impl_IsLine.f kj47 t346).bind fun t384 => (if t384 = true then (some false) else (if (t374.length : Int) = 0 then ((impl_IsSimple.f kj47 t346).bind fun t385 => (some (!t385))) else (some false)))))) = some r := H
        have A63 := Aside0.mk A630
        clear A630
        replace H := Option.bind_eq_some_iff.mp H
        obtain ⟨t377, A640, H⟩ := H
        replace H : (if t377 = true then (if (t374.length : Int) = (wrap64 ((t346.length : Int) - 1)) then (if 0 < (t374.length : Int) then (if 0 < (t346.length : Int) then (if (((rd_T38 t374 0).f0.f0) == ((rd_T36 t346 0).f0) && (((rd_T38 t374 0).f0.f1) == ((rd_T36 t346 0).f1))) = true then (some true) else ((impl_IsLine.f kj47 t346).bind fun t380 => (if t380 = true then (some false) else (if (t374.length : Int) = 0 then ((impl_IsSimple.f kj47 t346).bind fun t381 => (some (!t381))) else (some false))))) else (none)) else (none)) else ((impl_IsLine.f kj47 t346).bind fun t382 => (if t382 = true then (some false) else (if (t374.length : Int) = 0 then ((impl_IsSimple.f kj47 t346).bind fun t383 => (some (!t383))) else (some false))))) else ((impl_IsLine.f kj47 t346).bind fun t384 => (if t384 = true then (some false) else (if (t374.length : Int) = 0 then ((impl_IsSimple.f kj47 t346).bind fun t385 => (some (!t385))) else (some false))))) = some r := H
        have A64 := Aside0.mk A640
        clear A640
        by_cases c65 : t377 = true
        ·subst c65
         have H1 : (if (t374.length : Int) = (wrap64 ((t346.length : Int) - 1)) then (if 0 < (t374.length : Int) then (if 0 < (t346.length : Int) then (if (((rd_T38 t374 0).f0.f0) == ((rd_T36 t346 0).f0) && (((rd_T38 t374 0).f0.f1) == ((rd_T36 t346 0).f1))) = true then (some true) else ((impl_IsLine.f kj47 t346).bind fun t380 => (if t380 = true then (some false) else (if (t374.length : Int) = 0 then ((impl_IsSimple.f kj47 t346).bind fun t381 => (some (!t381))) else (some false))))) else (none)) else (none)) else ((impl_IsLine.f kj47 t346).bind fun t382 => (if t382 = true then (some false) else (if (t374.length : Int) = 0 then ((impl_IsSimple.f kj47 t346).bind fun t383 => (some (!t383))) else (some false))))) = some r := by rw [if_pos rfl] at H; exact H
         clear H
         have H := H1
         clear H1
         by_cases c66 : (t374.length : Int) = (wrap64 ((t346.length : Int) - 1))
         ·rw [if_pos c66] at H
          have c66b0 : ((t374.length : Int) == (wrap64 ((t346.length : Int) - 1))) = true := beq_iff_eq.mpr c66
          have c66b1 : ((t374.length : Int) != (wrap64 ((t346.length : Int) - 1))) = false := bne_eq_false_iff_eq.mpr c66
          clear c66
          by_cases c67 : 0 < (t374.length : Int)
          ·rw [if_pos c67] at H
           have c67b0 : decide (0 < (t374.length : Int)) = true := decide_eq_true c67
           have c67b1 : decide (0 < t374.length) = true := decide_eq_true (by omega)
           clear c67
           by_cases c68 : 0 < (t346.length : Int)
           ·rw [if_pos c68] at H
            have c68b0 : decide (0 < (t346.length : Int)) = true := decide_eq_true c68
            have c68b1 : decide (0 < t346.length) = true := decide_eq_true (by omega)
            clear c68
            by_cases c69 : (((rd_T38 t374 0).f0.f0) == ((rd_T36 t346 0).f0) && (((rd_T38 t374 0).f0.f1) == ((rd_T36 t346 0).f1))) = true
            ·rw [if_pos c69] at H
             have c69b0 : (((rd_T38 t374 0).f0.f0) == ((rd_T36 t346 0).f0) && (((rd_T38 t374 0).f0.f1) == ((rd_T36 t346 0).f1))) = true := c69
             (try (have c69b1 : decide (((rd_T38 t374 0).f0.f0) = ((rd_T36 t346 0).f0) && (((rd_T38 t374 0).f0.f1) == ((rd_T36 t346 0).f1))) = true := by simpa using c69))
             (try (have c69b2 : (((rd_T38 t374 0).f0.f0) == ((rd_T36 t346 0).f0) && (((rd_T38 t374 0).f0.f1) == ((rd_T36 t346 0).f1))) = true := by simpa using c69))
             clear c69
             obtain rfl := Option.some.inj H
             try go_wp2_with (first | ((with_reducible refine gate_callee (f := 18) rfl ?_); refine gL (some 63) Try.func18 #[.slice Ao8 t346.length co8] ?_; (with_reducible refine (impl_SegmentsOf.calls kj47 _ _ t346 t374 _ ?side1 ?side2 A63.out).mono ?_); (case side1 => exact cM (Kd.R_reads' HO_3.out).2.2); (case side2 => exact (Kd.R_reads' HO_3.out).2.1); rintro e w70 ⟨v375, rfl, ho0, hb⟩; refine ⟨_, rfl, ?_⟩; have HO376 := Aside0.mk (Kd.R_lower ho0 (below_size (eB0 HB))); replace HO_3 := Aside0.mk (Kd.R_below (rM HO_3) hb); replace HB := sB0 HB hb; (try clear hb); (try clear ho0)))
             obtain ⟨Aqv375, cqv375, eqv375⟩ := Kd.R_slice HO376.out
             subst eqv375
             replace HO_3 := Aside0.mk (Kd.R_drew HO_3.out)
             replace HO376 := Aside0.mk (Kd.R_drew HO376.out)
             replace HB := Aside0.mk (below_drew1 HB.out)
             have p378 : 0 ≤ (0 : Int) := (by omega)
             have q378 : 0 < (t374.length : Int) := of_decide_eq_true (by first | (with_reducible assumption) | assumption)
             obtain ⟨ad378, e378, hx378_0, hx378_1, hx378_2, hx378_3⟩ := at_T38 (Kd.R_reads' HO376.out).2.2 0 p378 q378
             cases e378
             have qi378 : (0 < t374.length) = True := eq_true (by omega)
             (try rw [show ((0 : Int)).toNat = 0 from rfl] at hx378_0)
             (try rw [show 0 * 4 = 0 from rfl] at hx378_0)
             (try rw [Addr.add_zero'] at hx378_0)
             (try rw [show ((0 : Int)).toNat = 0 from rfl] at hx378_1)
             (try rw [show 0 * 4 = 0 from rfl] at hx378_1)
             (try rw [Addr.add_zero'] at hx378_1)
             (try rw [show ((0 : Int)).toNat = 0 from rfl] at hx378_2)
             (try rw [show 0 * 4 = 0 from rfl] at hx378_2)
             (try rw [Addr.add_zero'] at hx378_2)
             (try rw [show ((0 : Int)).toNat = 0 from rfl] at hx378_3)
             (try rw [show 0 * 4 = 0 from rfl] at hx378_3)
             (try rw [Addr.add_zero'] at hx378_3)
             replace p378 := eq_true p378
             replace q378 := eq_true q378
             have p379 : 0 ≤ (0 : Int) := (by omega)
             have q379 : 0 < (t346.length : Int) := of_decide_eq_true (by first | (with_reducible assumption) | assumption)
             obtain ⟨ad379, e379, hx379_0, hx379_1⟩ := at_T36 (Kd.R_reads' HO_3.out).2.2 0 p379 q379
             cases e379
             have qi379 : (0 < t346.length) = True := eq_true (by omega)
             (try rw [show ((0 : Int)).toNat = 0 from rfl] at hx379_0)
             (try rw [show 0 * 2 = 0 from rfl] at hx379_0)
             (try rw [Addr.add_zero'] at hx379_0)
             (try rw [show ((0 : Int)).toNat = 0 from rfl] at hx379_1)
             (try rw [show 0 * 2 = 0 from rfl] at hx379_1)
             (try rw [Addr.add_zero'] at hx379_1)
             replace p379 := eq_true p379
             replace q379 := eq_true q379
             refine start_ (n := 36) (S := fun w' => w'.cell? ad378 = some (.int .i64 ((rd_T38 t374 0).f0.f0)) ∧ w'.cell? ⟨ad378.block, ad378.off + 1, none⟩ = some (.int .i64 ((rd_T38 t374 0).f0.f1)) ∧ w'.cell? ⟨ad378.block, ad378.off + 2, none⟩ = some (.int .i64 ((rd_T38 t374 0).f1.f0)) ∧ w'.cell? ⟨ad378.block, ad378.off + 3, none⟩ = some (.int .i64 ((rd_T38 t374 0).f1.f1)) ∧ w'.cell? ad379 = some (.int .i64 ((rd_T36 t346 0).f0)) ∧ w'.cell? ⟨ad379.block, ad379.off + 1, none⟩ = some (.int .i64 ((rd_T36 t346 0).f1))) (ds := []) #[false, false, false, false, false, false, false, false, false, false, false, false, false, false, false, false, false, false, false, false, false, false, false, false, false, false, false, false, false, false, false, false, false, false, false, false] (by kernel_rfl) rfl rfl ⟨hx378_0, hx378_1, hx378_2, hx378_3, hx379_0, hx379_1⟩ (fun hHeld => ?_); refine with_tabW laws_FnLines.tab12 laws_FnLines.bits12 (fun HT_ HW_ => ?_)
             generalize w70.drew = w71 at HO_3 HO376 HB hx378_0 hx378_1 hx378_2 hx378_3 hx379_0 hx379_1 hHeld ⊢
             refine pA HT_.out 0 64 ?_
             refine one_ (i := 1) (N := some 65) #[true, true, false, false, false, false, false, false, false, false, false, false, false, false, false, false, false, false, false, false, false, false, false, false, false, false, false, false, false, false, false, false, false, false, false, false] rfl rfl (one_of HT_.out (by kernel_rfl)) (by decide) (fun K hK => ?_)
             refine gS Try.func12 #[.slice (some ad379) t346.length co8] ?_
             with_reducible refine (impl_IsLine.calls kj47 _ _ t346 true _ ?side1 ?side2 A64.out).mono ?_
             (case side1 => exact cM (Kd.R_reads' HO_3.out).2.2)
             (case side2 => exact (Kd.R_reads' HO_3.out).2.1)
             rintro e w72 ⟨rfl, hb⟩
             have HS0_ := (hb.cell (World.block_lt_of_cell? _ _ (hHeld.1))).trans (hHeld.1)
             have HS1_ := (hb.cell (World.block_lt_of_cell? _ _ (hHeld.2.1))).trans (hHeld.2.1)
             have HS2_ := (hb.cell (World.block_lt_of_cell? _ _ (hHeld.2.2.1))).trans (hHeld.2.2.1)
             have HS3_ := (hb.cell (World.block_lt_of_cell? _ _ (hHeld.2.2.2.1))).trans (hHeld.2.2.2.1)
             have HS4_ := (hb.cell (World.block_lt_of_cell? _ _ (hHeld.2.2.2.2.1))).trans (hHeld.2.2.2.2.1)
             have HS5_ := (hb.cell (World.block_lt_of_cell? _ _ (hHeld.2.2.2.2.2))).trans (hHeld.2.2.2.2.2)
             refine ⟨_, rfl, ?_⟩
             replace HO_3 := Aside0.mk (Kd.R_below (rM HO_3) hb)
             replace HO376 := Aside0.mk (Kd.R_below (rM HO376) hb)
             replace HB := sB0 HB hb
             (try clear hb)
             (try clear hb2)
             (try clear hk)
             (try clear hi)
             obtain ⟨Ao73, co73, eo73⟩ := Kd.R_slice HO376.out
             (first | subst eo73 | (injection eo73 with f1_ f2_ f3_; have f4_ := f1_.symm; have f5_ := f3_.symm; clear f1_ f2_ f3_; subst f4_; subst f5_))
             refine hK.out _ _ ⟨HS0_, HS1_, HS2_, HS3_, HS4_, HS5_⟩ (fun hHeld => ?_)
             clear hK K
             refine norm_ (a' := ?_) ?_ ?_
             rotate_left
             ·show Act.put _ (some 65) _ = _
              simp only [Act.put, List.setIfInBounds_toArray, List.set_cons_zero, List.set_cons_succ, i64_w, i32_w]
              rfl
             refine pA HT_.out 2 66 ?_
             refine pA HT_.out 3 67 ?_
             refine pA HT_.out 4 68 ?_
             refine pA HT_.out 5 69 ?_
             refine pA HT_.out 6 70 ?_
             refine pA HT_.out 7 71 ?_
             refine pA HT_.out 8 72 ?_
             refine pA HT_.out 9 73 ?_
             refine pA HT_.out 10 74 ?_
             refine pA HT_.out 11 75 ?_
             refine pA HT_.out 12 76 ?_
             refine pA HT_.out 13 77 ?_
             refine pA HT_.out 15 79 ?_
             refine pA HT_.out 16 80 ?_
             refine tA6 HT_.out HW_.out 14 78 hHeld ?_
             refine tA6 HT_.out HW_.out 17 81 hHeld ?_
             refine pA HT_.out 18 82 ?_
             refine pA HT_.out 19 83 ?_
             refine pA HT_.out 20 84 ?_
             refine pU HT_.out 21 85 ?_
             refine pU HT_.out 22 86 ?_
             refine pU HT_.out 23 87 ?_
             refine pU HT_.out 24 88 ?_
             refine pU HT_.out 25 89 ?_
             refine pU HT_.out 26 90 ?_
             refine pU HT_.out 27 91 ?_
             refine pU HT_.out 28 92 ?_
             refine pU HT_.out 29 93 ?_
             refine pU HT_.out 30 94 ?_
             refine pU HT_.out 31 95 ?_
             refine pU HT_.out 32 96 ?_
             refine pU HT_.out 33 97 ?_
             refine pA HT_.out 34 98 ?_
             refine pA HT_.out 35 2 ?_
             refine done_ (done_of HT_.out (by kernel_rfl)) ?_
             try go_wp2
             go_ret
             exact ⟨by first | rfl | (simp [errW_none, errW_some] <;> rfl) | (simp [*, errW_none, errW_some] <;> rfl), eB0 HB⟩
            ·rw [if_neg c69] at H
             have c69b0 : (((rd_T38 t374 0).f0.f0) == ((rd_T36 t346 0).f0) && (((rd_T38 t374 0).f0.f1) == ((rd_T36 t346 0).f1))) = false := by simpa using c69
             (try (have c69b1 : decide (((rd_T38 t374 0).f0.f0) = ((rd_T36 t346 0).f0) && (((rd_T38 t374 0).f0.f1) == ((rd_T36 t346 0).f1))) = false := by simpa using c69))
             (try (have c69b2 : (((rd_T38 t374 0).f0.f0) == ((rd_T36 t346 0).f0) && (((rd_T38 t374 0).f0.f1) == ((rd_T36 t346 0).f1))) = false := by simpa using c69))
             (try (have c69b3 : ¬ (((rd_T38 t374 0).f0.f0) = ((rd_T36 t346 0).f0) && (((rd_T38 t374 0).f0.f1) == ((rd_T36 t346 0).f1))) := by simpa using c69))
             clear c69
             replace H := Option.bind_eq_some_iff.mp H
             obtain ⟨t380, A740, H⟩ := H
             replace H : (if t380 = true then (some false) else (if (t374.length : Int) = 0 then ((impl_IsSimple.f kj47 t346).bind fun t381 => (some (!t381))) else (some false))) = some r := H
             have A74 := Aside0.mk A740
             clear A740
             by_cases c75 : t380 = true
             ·subst c75
              have H1 : (some false) = some r := by rw [if_pos rfl] at H; exact H
              clear H
              have H := H1
              clear H1
              obtain rfl := Option.some.inj H
              try go_wp2_with (first | ((with_reducible refine gate_callee (f := 18) rfl ?_); refine gL (some 63) Try.func18 #[.slice Ao8 t346.length co8] ?_; (with_reducible refine (impl_SegmentsOf.calls kj47 _ _ t346 t374 _ ?side1 ?side2 A63.out).mono ?_); (case side1 => exact cM (Kd.R_reads' HO_3.out).2.2); (case side2 => exact (Kd.R_reads' HO_3.out).2.1); rintro e w76 ⟨v375, rfl, ho0, hb⟩; refine ⟨_, rfl, ?_⟩; have HO376 := Aside0.mk (Kd.R_lower ho0 (below_size (eB0 HB))); replace HO_3 := Aside0.mk (Kd.R_below (rM HO_3) hb); replace HB := sB0 HB hb; (try clear hb); (try clear ho0)))
              obtain ⟨Aqv375, cqv375, eqv375⟩ := Kd.R_slice HO376.out
              subst eqv375
              replace HO_3 := Aside0.mk (Kd.R_drew HO_3.out)
              replace HO376 := Aside0.mk (Kd.R_drew HO376.out)
              replace HB := Aside0.mk (below_drew1 HB.out)
              have p378 : 0 ≤ (0 : Int) := (by omega)
              have q378 : 0 < (t374.length : Int) := of_decide_eq_true (by first | (with_reducible assumption) | assumption)
              obtain ⟨ad378, e378, hx378_0, hx378_1, hx378_2, hx378_3⟩ := at_T38 (Kd.R_reads' HO376.out).2.2 0 p378 q378
              cases e378
              have qi378 : (0 < t374.length) = True := eq_true (by omega)
              (try rw [show ((0 : Int)).toNat = 0 from rfl] at hx378_0)
              (try rw [show 0 * 4 = 0 from rfl] at hx378_0)
              (try rw [Addr.add_zero'] at hx378_0)
              (try rw [show ((0 : Int)).toNat = 0 from rfl] at hx378_1)
              (try rw [show 0 * 4 = 0 from rfl] at hx378_1)
              (try rw [Addr.add_zero'] at hx378_1)
              (try rw [show ((0 : Int)).toNat = 0 from rfl] at hx378_2)
              (try rw [show 0 * 4 = 0 from rfl] at hx378_2)
              (try rw [Addr.add_zero'] at hx378_2)
              (try rw [show ((0 : Int)).toNat = 0 from rfl] at hx378_3)
              (try rw [show 0 * 4 = 0 from rfl] at hx378_3)
              (try rw [Addr.add_zero'] at hx378_3)
              replace p378 := eq_true p378
              replace q378 := eq_true q378
              have p379 : 0 ≤ (0 : Int) := (by omega)
              have q379 : 0 < (t346.length : Int) := of_decide_eq_true (by first | (with_reducible assumption) | assumption)
              obtain ⟨ad379, e379, hx379_0, hx379_1⟩ := at_T36 (Kd.R_reads' HO_3.out).2.2 0 p379 q379
              cases e379
              have qi379 : (0 < t346.length) = True := eq_true (by omega)
              (try rw [show ((0 : Int)).toNat = 0 from rfl] at hx379_0)
              (try rw [show 0 * 2 = 0 from rfl] at hx379_0)
              (try rw [Addr.add_zero'] at hx379_0)
              (try rw [show ((0 : Int)).toNat = 0 from rfl] at hx379_1)
              (try rw [show 0 * 2 = 0 from rfl] at hx379_1)
              (try rw [Addr.add_zero'] at hx379_1)
              replace p379 := eq_true p379
              replace q379 := eq_true q379
              refine start_ (n := 36) (S := fun w' => w'.cell? ad378 = some (.int .i64 ((rd_T38 t374 0).f0.f0)) ∧ w'.cell? ⟨ad378.block, ad378.off + 1, none⟩ = some (.int .i64 ((rd_T38 t374 0).f0.f1)) ∧ w'.cell? ⟨ad378.block, ad378.off + 2, none⟩ = some (.int .i64 ((rd_T38 t374 0).f1.f0)) ∧ w'.cell? ⟨ad378.block, ad378.off + 3, none⟩ = some (.int .i64 ((rd_T38 t374 0).f1.f1)) ∧ w'.cell? ad379 = some (.int .i64 ((rd_T36 t346 0).f0)) ∧ w'.cell? ⟨ad379.block, ad379.off + 1, none⟩ = some (.int .i64 ((rd_T36 t346 0).f1))) (ds := []) #[false, false, false, false, false, false, false, false, false, false, false, false, false, false, false, false, false, false, false, false, false, false, false, false, false, false, false, false, false, false, false, false, false, false, false, false] (by kernel_rfl) rfl rfl ⟨hx378_0, hx378_1, hx378_2, hx378_3, hx379_0, hx379_1⟩ (fun hHeld => ?_); refine with_tabW laws_FnLines.tab12 laws_FnLines.bits12 (fun HT_ HW_ => ?_)
              generalize w76.drew = w77 at HO_3 HO376 HB hx378_0 hx378_1 hx378_2 hx378_3 hx379_0 hx379_1 hHeld ⊢
              refine pA HT_.out 0 64 ?_
              refine one_ (i := 1) (N := some 65) #[true, true, false, false, false, false, false, false, false, false, false, false, false, false, false, false, false, false, false, false, false, false, false, false, false, false, false, false, false, false, false, false, false, false, false, false] rfl rfl (one_of HT_.out (by kernel_rfl)) (by decide) (fun K hK => ?_)
              refine gS Try.func12 #[.slice (some ad379) t346.length co8] ?_
              with_reducible refine (impl_IsLine.calls kj47 _ _ t346 true _ ?side1 ?side2 A64.out).mono ?_
              (case side1 => exact cM (Kd.R_reads' HO_3.out).2.2)
              (case side2 => exact (Kd.R_reads' HO_3.out).2.1)
              rintro e w78 ⟨rfl, hb⟩
              have HS0_ := (hb.cell (World.block_lt_of_cell? _ _ (hHeld.1))).trans (hHeld.1)
              have HS1_ := (hb.cell (World.block_lt_of_cell? _ _ (hHeld.2.1))).trans (hHeld.2.1)
              have HS2_ := (hb.cell (World.block_lt_of_cell? _ _ (hHeld.2.2.1))).trans (hHeld.2.2.1)
              have HS3_ := (hb.cell (World.block_lt_of_cell? _ _ (hHeld.2.2.2.1))).trans (hHeld.2.2.2.1)
              have HS4_ := (hb.cell (World.block_lt_of_cell? _ _ (hHeld.2.2.2.2.1))).trans (hHeld.2.2.2.2.1)
              have HS5_ := (hb.cell (World.block_lt_of_cell? _ _ (hHeld.2.2.2.2.2))).trans (hHeld.2.2.2.2.2)
              refine ⟨_, rfl, ?_⟩
              replace HO_3 := Aside0.mk (Kd.R_below (rM HO_3) hb)
              replace HO376 := Aside0.mk (Kd.R_below (rM HO376) hb)
              replace HB := sB0 HB hb
              (try clear hb)
              (try clear hb2)
              (try clear hk)
              (try clear hi)
              obtain ⟨Ao79, co79, eo79⟩ := Kd.R_slice HO376.out
              (first | subst eo79 | (injection eo79 with f1_ f2_ f3_; have f4_ := f1_.symm; have f5_ := f3_.symm; clear f1_ f2_ f3_; subst f4_; subst f5_))
              refine hK.out _ _ ⟨HS0_, HS1_, HS2_, HS3_, HS4_, HS5_⟩ (fun hHeld => ?_)
              clear hK K
              refine norm_ (a' := ?_) ?_ ?_
              rotate_left
              ·show Act.put _ (some 65) _ = _
               simp only [Act.put, List.setIfInBounds_toArray, List.set_cons_zero, List.set_cons_succ, i64_w, i32_w]
               rfl
              refine pA HT_.out 2 66 ?_
              refine pA HT_.out 3 67 ?_
              refine pA HT_.out 4 68 ?_
              refine pA HT_.out 5 69 ?_
              refine pA HT_.out 6 70 ?_
              refine pA HT_.out 7 71 ?_
              refine pA HT_.out 8 72 ?_
              refine pA HT_.out 9 73 ?_
              refine pA HT_.out 10 74 ?_
              refine pA HT_.out 11 75 ?_
              refine pA HT_.out 12 76 ?_
              refine pA HT_.out 13 77 ?_
              refine pA HT_.out 15 79 ?_
              refine pA HT_.out 16 80 ?_
              refine tA6 HT_.out HW_.out 14 78 hHeld ?_
              refine tA6 HT_.out HW_.out 17 81 hHeld ?_
              refine pA HT_.out 18 82 ?_
              refine pA HT_.out 19 83 ?_
              refine pA HT_.out 20 84 ?_
              refine pA HT_.out 21 85 ?_
              refine one_ (i := 22) (N := some 86) #[true, true, true, true, true, true, true, true, true, true, true, true, true, true, true, true, true, true, true, true, true, true, true, false, false, false, false, false, false, false, false, false, false, false, false, false] rfl rfl (one_of HT_.out (by kernel_rfl)) (by decide) (fun K hK => ?_)
              refine gS Try.func12 #[.slice (some ad379) t346.length co8] ?_
              with_reducible refine (impl_IsLine.calls kj47 _ _ t346 true _ ?side1 ?side2 A74.out).mono ?_
              (case side1 => exact cM (Kd.R_reads' HO_3.out).2.2)
              (case side2 => exact (Kd.R_reads' HO_3.out).2.1)
              rintro e w80 ⟨rfl, hb⟩
              have HS0_ := (hb.cell (World.block_lt_of_cell? _ _ (hHeld.1))).trans (hHeld.1)
              have HS1_ := (hb.cell (World.block_lt_of_cell? _ _ (hHeld.2.1))).trans (hHeld.2.1)
              have HS2_ := (hb.cell (World.block_lt_of_cell? _ _ (hHeld.2.2.1))).trans (hHeld.2.2.1)
              have HS3_ := (hb.cell (World.block_lt_of_cell? _ _ (hHeld.2.2.2.1))).trans (hHeld.2.2.2.1)
              have HS4_ := (hb.cell (World.block_lt_of_cell? _ _ (hHeld.2.2.2.2.1))).trans (hHeld.2.2.2.2.1)
              have HS5_ := (hb.cell (World.block_lt_of_cell? _ _ (hHeld.2.2.2.2.2))).trans (hHeld.2.2.2.2.2)
              refine ⟨_, rfl, ?_⟩
              replace HO_3 := Aside0.mk (Kd.R_below (rM HO_3) hb)
              replace HO376 := Aside0.mk (Kd.R_below (rM HO376) hb)
              replace HB := sB0 HB hb
              (try clear hb)
              (try clear hb2)
              (try clear hk)
              (try clear hi)
              refine hK.out _ _ ⟨HS0_, HS1_, HS2_, HS3_, HS4_, HS5_⟩ (fun hHeld => ?_)
              clear hK K
              refine norm_ (a' := ?_) ?_ ?_
              rotate_left
              ·show Act.put _ (some 86) _ = _
               simp only [Act.put, List.setIfInBounds_toArray, List.set_cons_zero, List.set_cons_succ, i64_w, i32_w]
               rfl
              refine pA HT_.out 23 87 ?_
              refine pA HT_.out 24 88 ?_
              refine pU HT_.out 25 89 ?_
              refine pU HT_.out 26 90 ?_
              refine pU HT_.out 27 91 ?_
              refine pA HT_.out 28 92 ?_
              refine pA HT_.out 29 93 ?_
              refine pU HT_.out 30 94 ?_
              refine pU HT_.out 31 95 ?_
              refine pU HT_.out 32 96 ?_
              refine pA HT_.out 33 97 ?_
              refine pA HT_.out 34 98 ?_
              refine pA HT_.out 35 2 ?_
              refine done_ (done_of HT_.out (by kernel_rfl)) ?_
              try go_wp2
              go_ret
              exact ⟨by first | rfl | (simp [errW_none, errW_some] <;> rfl) | (simp [*, errW_none, errW_some] <;> rfl), eB0 HB⟩
             ·replace c75 := Bool.eq_false_iff.mpr c75
              subst c75
              have H1 : (if (t374.length : Int) = 0 then ((impl_IsSimple.f kj47 t346).bind fun t381 => (some (!t381))) else (some false)) = some r := by rw [if_neg (show ¬ (false = true) by decide)] at H; exact H
              clear H
              have H := H1
              clear H1
              by_cases c81 : (t374.length : Int) = 0
              ·rw [if_pos c81] at H
               have c81b0 : ((t374.length : Int) == 0) = true := beq_iff_eq.mpr c81
               have c81b1 : ((t374.length : Int) != 0) = false := bne_eq_false_iff_eq.mpr c81
               clear c81
               replace H := Option.bind_eq_some_iff.mp H
               obtain ⟨t381, A820, H⟩ := H
               replace H : (some (!t381)) = some r := H
               have A82 := Aside0.mk A820
               clear A820
               obtain rfl := Option.some.inj H
               try go_wp2_with (first | ((with_reducible refine gate_callee (f := 18) rfl ?_); refine gL (some 63) Try.func18 #[.slice Ao8 t346.length co8] ?_; (with_reducible refine (impl_SegmentsOf.calls kj47 _ _ t346 t374 _ ?side1 ?side2 A63.out).mono ?_); (case side1 => exact cM (Kd.R_reads' HO_3.out).2.2); (case side2 => exact (Kd.R_reads' HO_3.out).2.1); rintro e w83 ⟨v375, rfl, ho0, hb⟩; refine ⟨_, rfl, ?_⟩; have HO376 := Aside0.mk (Kd.R_lower ho0 (below_size (eB0 HB))); replace HO_3 := Aside0.mk (Kd.R_below (rM HO_3) hb); replace HB := sB0 HB hb; (try clear hb); (try clear ho0)))
               obtain ⟨Aqv375, cqv375, eqv375⟩ := Kd.R_slice HO376.out
               subst eqv375
               replace HO_3 := Aside0.mk (Kd.R_drew HO_3.out)
               replace HO376 := Aside0.mk (Kd.R_drew HO376.out)
               replace HB := Aside0.mk (below_drew1 HB.out)
               have p378 : 0 ≤ (0 : Int) := (by omega)
               have q378 : 0 < (t374.length : Int) := of_decide_eq_true (by first | (with_reducible assumption) | assumption)
               obtain ⟨ad378, e378, hx378_0, hx378_1, hx378_2, hx378_3⟩ := at_T38 (Kd.R_reads' HO376.out).2.2 0 p378 q378
               cases e378
               have qi378 : (0 < t374.length) = True := eq_true (by omega)
               (try rw [show ((0 : Int)).toNat = 0 from rfl] at hx378_0)
               (try rw [show 0 * 4 = 0 from rfl] at hx378_0)
               (try rw [Addr.add_zero'] at hx378_0)
               (try rw [show ((0 : Int)).toNat = 0 from rfl] at hx378_1)
               (try rw [show 0 * 4 = 0 from rfl] at hx378_1)
               (try rw [Addr.add_zero'] at hx378_1)
               (try rw [show ((0 : Int)).toNat = 0 from rfl] at hx378_2)
               (try rw [show 0 * 4 = 0 from rfl] at hx378_2)
               (try rw [Addr.add_zero'] at hx378_2)
               (try rw [show ((0 : Int)).toNat = 0 from rfl] at hx378_3)
               (try rw [show 0 * 4 = 0 from rfl] at hx378_3)
               (try rw [Addr.add_zero'] at hx378_3)
               replace p378 := eq_true p378
               replace q378 := eq_true q378
               have p379 : 0 ≤ (0 : Int) := (by omega)
               have q379 : 0 < (t346.length : Int) := of_decide_eq_true (by first | (with_reducible assumption) | assumption)
               obtain ⟨ad379, e379, hx379_0, hx379_1⟩ := at_T36 (Kd.R_reads' HO_3.out).2.2 0 p379 q379
               cases e379
               have qi379 : (0 < t346.length) = True := eq_true (by omega)
               (try rw [show ((0 : Int)).toNat = 0 from rfl] at hx379_0)
               (try rw [show 0 * 2 = 0 from rfl] at hx379_0)
               (try rw [Addr.add_zero'] at hx379_0)
               (try rw [show ((0 : Int)).toNat = 0 from rfl] at hx379_1)
               (try rw [show 0 * 2 = 0 from rfl] at hx379_1)
               (try rw [Addr.add_zero'] at hx379_1)
               replace p379 := eq_true p379
               replace q379 := eq_true q379
               refine start_ (n := 36) (S := fun w' => w'.cell? ad378 = some (.int .i64 ((rd_T38 t374 0).f0.f0)) ∧ w'.cell? ⟨ad378.block, ad378.off + 1, none⟩ = some (.int .i64 ((rd_T38 t374 0).f0.f1)) ∧ w'.cell? ⟨ad378.block, ad378.off + 2, none⟩ = some (.int .i64 ((rd_T38 t374 0).f1.f0)) ∧ w'.cell? ⟨ad378.block, ad378.off + 3, none⟩ = some (.int .i64 ((rd_T38 t374 0).f1.f1)) ∧ w'.cell? ad379 = some (.int .i64 ((rd_T36 t346 0).f0)) ∧ w'.cell? ⟨ad379.block, ad379.off + 1, none⟩ = some (.int .i64 ((rd_T36 t346 0).f1))) (ds := []) #[false, false, false, false, false, false, false, false, false, false, false, false, false, false, false, false, false, false, false, false, false, false, false, false, false, false, false, false, false, false, false, false, false, false, false, false] (by kernel_rfl) rfl rfl ⟨hx378_0, hx378_1, hx378_2, hx378_3, hx379_0, hx379_1⟩ (fun hHeld => ?_); refine with_tabW laws_FnLines.tab12 laws_FnLines.bits12 (fun HT_ HW_ => ?_)
               generalize w83.drew = w84 at HO_3 HO376 HB hx378_0 hx378_1 hx378_2 hx378_3 hx379_0 hx379_1 hHeld ⊢
               refine pA HT_.out 0 64 ?_
               refine one_ (i := 1) (N := some 65) #[true, true, false, false, false, false, false, false, false, false, false, false, false, false, false, false, false, false, false, false, false, false, false, false, false, false, false, false, false, false, false, false, false, false, false, false] rfl rfl (one_of HT_.out (by kernel_rfl)) (by decide) (fun K hK => ?_)
               refine gS Try.func12 #[.slice (some ad379) t346.length co8] ?_
               with_reducible refine (impl_IsLine.calls kj47 _ _ t346 true _ ?side1 ?side2 A64.out).mono ?_
               (case side1 => exact cM (Kd.R_reads' HO_3.out).2.2)
               (case side2 => exact (Kd.R_reads' HO_3.out).2.1)
               rintro e w85 ⟨rfl, hb⟩
               have HS0_ := (hb.cell (World.block_lt_of_cell? _ _ (hHeld.1))).trans (hHeld.1)
               have HS1_ := (hb.cell (World.block_lt_of_cell? _ _ (hHeld.2.1))).trans (hHeld.2.1)
               have HS2_ := (hb.cell (World.block_lt_of_cell? _ _ (hHeld.2.2.1))).trans (hHeld.2.2.1)
               have HS3_ := (hb.cell (World.block_lt_of_cell? _ _ (hHeld.2.2.2.1))).trans (hHeld.2.2.2.1)
               have HS4_ := (hb.cell (World.block_lt_of_cell? _ _ (hHeld.2.2.2.2.1))).trans (hHeld.2.2.2.2.1)
               have HS5_ := (hb.cell (World.block_lt_of_cell? _ _ (hHeld.2.2.2.2.2))).trans (hHeld.2.2.2.2.2)
               refine ⟨_, rfl, ?_⟩
               replace HO_3 := Aside0.mk (Kd.R_below (rM HO_3) hb)
               replace HO376 := Aside0.mk (Kd.R_below (rM HO376) hb)
               replace HB := sB0 HB hb
               (try clear hb)
               (try clear hb2)
               (try clear hk)
               (try clear hi)
               obtain ⟨Ao86, co86, eo86⟩ := Kd.R_slice HO376.out
               (first | subst eo86 | (injection eo86 with f1_ f2_ f3_; have f4_ := f1_.symm; have f5_ := f3_.symm; clear f1_ f2_ f3_; subst f4_; subst f5_))
               refine hK.out _ _ ⟨HS0_, HS1_, HS2_, HS3_, HS4_, HS5_⟩ (fun hHeld => ?_)
               clear hK K
               refine norm_ (a' := ?_) ?_ ?_
               rotate_left
               ·show Act.put _ (some 65) _ = _
                simp only [Act.put, List.setIfInBounds_toArray, List.set_cons_zero, List.set_cons_succ, i64_w, i32_w]
                rfl
               refine pA HT_.out 2 66 ?_
               refine pA HT_.out 3 67 ?_
               refine pA HT_.out 4 68 ?_
               refine pA HT_.out 5 69 ?_
               refine pA HT_.out 6 70 ?_
               refine pA HT_.out 7 71 ?_
               refine pA HT_.out 8 72 ?_
               refine pA HT_.out 9 73 ?_
               refine pA HT_.out 10 74 ?_
               refine pA HT_.out 11 75 ?_
               refine pA HT_.out 12 76 ?_
               refine pA HT_.out 13 77 ?_
               refine pA HT_.out 15 79 ?_
               refine pA HT_.out 16 80 ?_
               refine tA6 HT_.out HW_.out 14 78 hHeld ?_
               refine tA6 HT_.out HW_.out 17 81 hHeld ?_
               refine pA HT_.out 18 82 ?_
               refine pA HT_.out 19 83 ?_
               refine pA HT_.out 20 84 ?_
               refine pA HT_.out 21 85 ?_
               refine one_ (i := 22) (N := some 86) #[true, true, true, true, true, true, true, true, true, true, true, true, true, true, true, true, true, true, true, true, true, true, true, false, false, false, false, false, false, false, false, false, false, false, false, false] rfl rfl (one_of HT_.out (by kernel_rfl)) (by decide) (fun K hK => ?_)
               refine gS Try.func12 #[.slice (some ad379) t346.length co8] ?_
               with_reducible refine (impl_IsLine.calls kj47 _ _ t346 false _ ?side1 ?side2 A74.out).mono ?_
               (case side1 => exact cM (Kd.R_reads' HO_3.out).2.2)
               (case side2 => exact (Kd.R_reads' HO_3.out).2.1)
               rintro e w87 ⟨rfl, hb⟩
               have HS0_ := (hb.cell (World.block_lt_of_cell? _ _ (hHeld.1))).trans (hHeld.1)
               have HS1_ := (hb.cell (World.block_lt_of_cell? _ _ (hHeld.2.1))).trans (hHeld.2.1)
               have HS2_ := (hb.cell (World.block_lt_of_cell? _ _ (hHeld.2.2.1))).trans (hHeld.2.2.1)
               have HS3_ := (hb.cell (World.block_lt_of_cell? _ _ (hHeld.2.2.2.1))).trans (hHeld.2.2.2.1)
               have HS4_ := (hb.cell (World.block_lt_of_cell? _ _ (hHeld.2.2.2.2.1))).trans (hHeld.2.2.2.2.1)
               have HS5_ := (hb.cell (World.block_lt_of_cell? _ _ (hHeld.2.2.2.2.2))).trans (hHeld.2.2.2.2.2)
               refine ⟨_, rfl, ?_⟩
               replace HO_3 := Aside0.mk (Kd.R_below (rM HO_3) hb)
               replace HO376 := Aside0.mk (Kd.R_below (rM HO376) hb)
               replace HB := sB0 HB hb
               (try clear hb)
               (try clear hb2)
               (try clear hk)
               (try clear hi)
               refine hK.out _ _ ⟨HS0_, HS1_, HS2_, HS3_, HS4_, HS5_⟩ (fun hHeld => ?_)
               clear hK K
               refine norm_ (a' := ?_) ?_ ?_
               rotate_left
               ·show Act.put _ (some 86) _ = _
                simp only [Act.put, List.setIfInBounds_toArray, List.set_cons_zero, List.set_cons_succ, i64_w, i32_w]
                rfl
               refine pA HT_.out 23 87 ?_
               refine pA HT_.out 24 88 ?_
               refine pA HT_.out 25 89 ?_
               refine pA HT_.out 26 90 ?_
               refine pA HT_.out 27 91 ?_
               refine pA HT_.out 28 92 ?_
               refine pA HT_.out 29 93 ?_
               refine pA HT_.out 30 94 ?_
               refine one_ (i := 31) (N := some 95) #[true, true, true, true, true, true, true, true, true, true, true, true, true, true, true, true, true, true, true, true, true, true, true, true, true, true, true, true, true, true, true, true, false, false, false, false] rfl rfl (one_of HT_.out (by kernel_rfl)) (by decide) (fun K hK => ?_)
               refine gS Try.func13 #[.slice (some ad379) t346.length co8] ?_
               with_reducible refine (impl_IsSimple.calls kj47 _ _ t346 t381 _ ?side1 ?side2 A82.out).mono ?_
               (case side1 => exact cM (Kd.R_reads' HO_3.out).2.2)
               (case side2 => exact (Kd.R_reads' HO_3.out).2.1)
               rintro e w88 ⟨rfl, hb⟩
               have HS0_ := (hb.cell (World.block_lt_of_cell? _ _ (hHeld.1))).trans (hHeld.1)
               have HS1_ := (hb.cell (World.block_lt_of_cell? _ _ (hHeld.2.1))).trans (hHeld.2.1)
               have HS2_ := (hb.cell (World.block_lt_of_cell? _ _ (hHeld.2.2.1))).trans (hHeld.2.2.1)
               have HS3_ := (hb.cell (World.block_lt_of_cell? _ _ (hHeld.2.2.2.1))).trans (hHeld.2.2.2.1)
               have HS4_ := (hb.cell (World.block_lt_of_cell? _ _ (hHeld.2.2.2.2.1))).trans (hHeld.2.2.2.2.1)
               have HS5_ := (hb.cell (World.block_lt_of_cell? _ _ (hHeld.2.2.2.2.2))).trans (hHeld.2.2.2.2.2)
               refine ⟨_, rfl, ?_⟩
               replace HO_3 := Aside0.mk (Kd.R_below (rM HO_3) hb)
               replace HO376 := Aside0.mk (Kd.R_below (rM HO376) hb)
               replace HB := sB0 HB hb
               (try clear hb)
               (try clear hb2)
               (try clear hk)
               (try clear hi)
               refine hK.out _ _ ⟨HS0_, HS1_, HS2_, HS3_, HS4_, HS5_⟩ (fun hHeld => ?_)
               clear hK K
               refine norm_ (a' := ?_) ?_ ?_
               rotate_left
               ·show Act.put _ (some 95) _ = _
                simp only [Act.put, List.setIfInBounds_toArray, List.set_cons_zero, List.set_cons_succ, i64_w, i32_w]
                rfl
               refine pA HT_.out 32 96 ?_
               refine pA HT_.out 33 97 ?_
               refine pA HT_.out 34 98 ?_
               refine pA HT_.out 35 2 ?_
               refine done_ (done_of HT_.out (by kernel_rfl)) ?_
               try go_wp2
               go_ret
               exact ⟨by first | rfl | (simp [errW_none, errW_some] <;> rfl) | (simp [*, errW_none, errW_some] <;> rfl), eB0 HB⟩
              ·rw [if_neg c81] at H
               have c81b0 : ((t374.length : Int) == 0) = false := beq_eq_false_iff_ne.mpr c81
               have c81b1 : ((t374.length : Int) != 0) = true := bne_iff_ne.mpr c81
               have c81b2 : ¬ (t374 = []) := fun h_ => c81 (by rw [h_]; rfl)
               obtain rfl := Option.some.inj H
               try go_wp2_with (first | ((with_reducible refine gate_callee (f := 18) rfl ?_); refine gL (some 63) Try.func18 #[.slice Ao8 t346.length co8] ?_; (with_reducible refine (impl_SegmentsOf.calls kj47 _ _ t346 t374 _ ?side1 ?side2 A63.out).mono ?_); (case side1 => exact cM (Kd.R_reads' HO_3.out).2.2); (case side2 => exact (Kd.R_reads' HO_3.out).2.1); rintro e w89 ⟨v375, rfl, ho0, hb⟩; refine ⟨_, rfl, ?_⟩; have HO376 := Aside0.mk (Kd.R_lower ho0 (below_size (eB0 HB))); replace HO_3 := Aside0.mk (Kd.R_below (rM HO_3) hb); replace HB := sB0 HB hb; (try clear hb); (try clear ho0)))
               obtain ⟨Aqv375, cqv375, eqv375⟩ := Kd.R_slice HO376.out
               subst eqv375
               replace HO_3 := Aside0.mk (Kd.R_drew HO_3.out)
               replace HO376 := Aside0.mk (Kd.R_drew HO376.out)
               replace HB := Aside0.mk (below_drew1 HB.out)
               have p378 : 0 ≤ (0 : Int) := (by omega)
               have q378 : 0 < (t374.length : Int) := of_decide_eq_true (by first | (with_reducible assumption) | assumption)
               obtain ⟨ad378, e378, hx378_0, hx378_1, hx378_2, hx378_3⟩ := at_T38 (Kd.R_reads' HO376.out).2.2 0 p378 q378
               cases e378
               have qi378 : (0 < t374.length) = True := eq_true (by omega)
               (try rw [show ((0 : Int)).toNat = 0 from rfl] at hx378_0)
               (try rw [show 0 * 4 = 0 from rfl] at hx378_0)
               (try rw [Addr.add_zero'] at hx378_0)
               (try rw [show ((0 : Int)).toNat = 0 from rfl] at hx378_1)
               (try rw [show 0 * 4 = 0 from rfl] at hx378_1)
               (try rw [Addr.add_zero'] at hx378_1)
               (try rw [show ((0 : Int)).toNat = 0 from rfl] at hx378_2)
               (try rw [show 0 * 4 = 0 from rfl] at hx378_2)
               (try rw [Addr.add_zero'] at hx378_2)
               (try rw [show ((0 : Int)).toNat = 0 from rfl] at hx378_3)
               (try rw [show 0 * 4 = 0 from rfl] at hx378_3)
               (try rw [Addr.add_zero'] at hx378_3)
               replace p378 := eq_true p378
               replace q378 := eq_true q378
               have p379 : 0 ≤ (0 : Int) := (by omega)
               have q379 : 0 < (t346.length : Int) := of_decide_eq_true (by first | (with_reducible assumption) | assumption)
               obtain ⟨ad379, e379, hx379_0, hx379_1⟩ := at_T36 (Kd.R_reads' HO_3.out).2.2 0 p379 q379
               cases e379
               have qi379 : (0 < t346.length) = True := eq_true (by omega)
               (try rw [show ((0 : Int)).toNat = 0 from rfl] at hx379_0)
               (try rw [show 0 * 2 = 0 from rfl] at hx379_0)
               (try rw [Addr.add_zero'] at hx379_0)
               (try rw [show ((0 : Int)).toNat = 0 from rfl] at hx379_1)
               (try rw [show 0 * 2 = 0 from rfl] at hx379_1)
               (try rw [Addr.add_zero'] at hx379_1)
               replace p379 := eq_true p379
               replace q379 := eq_true q379
               refine start_ (n := 36) (S := fun w' => w'.cell? ad378 = some (.int .i64 ((rd_T38 t374 0).f0.f0)) ∧ w'.cell? ⟨ad378.block, ad378.off + 1, none⟩ = some (.int .i64 ((rd_T38 t374 0).f0.f1)) ∧ w'.cell? ⟨ad378.block, ad378.off + 2, none⟩ = some (.int .i64 ((rd_T38 t374 0).f1.f0)) ∧ w'.cell? ⟨ad378.block, ad378.off + 3, none⟩ = some (.int .i64 ((rd_T38 t374 0).f1.f1)) ∧ w'.cell? ad379 = some (.int .i64 ((rd_T36 t346 0).f0)) ∧ w'.cell? ⟨ad379.block, ad379.off + 1, none⟩ = some (.int .i64 ((rd_T36 t346 0).f1))) (ds := []) #[false, false, false, false, false, false, false, false, false, false, false, false, false, false, false, false, false, false, false, false, false, false, false, false, false, false, false, false, false, false, false, false, false, false, false, false] (by kernel_rfl) rfl rfl ⟨hx378_0, hx378_1, hx378_2, hx378_3, hx379_0, hx379_1⟩ (fun hHeld => ?_); refine with_tabW laws_FnLines.tab12 laws_FnLines.bits12 (fun HT_ HW_ => ?_)
               generalize w89.drew = w90 at HO_3 HO376 HB hx378_0 hx378_1 hx378_2 hx378_3 hx379_0 hx379_1 hHeld ⊢
               refine pA HT_.out 0 64 ?_
               refine one_ (i := 1) (N := some 65) #[true, true, false, false, false, false, false, false, false, false, false, false, false, false, false, false, false, false, false, false, false, false, false, false, false, false, false, false, false, false, false, false, false, false, false, false] rfl rfl (one_of HT_.out (by kernel_rfl)) (by decide) (fun K hK => ?_)
               refine gS Try.func12 #[.slice (some ad379) t346.length co8] ?_
               with_reducible refine (impl_IsLine.calls kj47 _ _ t346 true _ ?side1 ?side2 A64.out).mono ?_
               (case side1 => exact cM (Kd.R_reads' HO_3.out).2.2)
               (case side2 => exact (Kd.R_reads' HO_3.out).2.1)
               rintro e w91 ⟨rfl, hb⟩
               have HS0_ := (hb.cell (World.block_lt_of_cell? _ _ (hHeld.1))).trans (hHeld.1)
               have HS1_ := (hb.cell (World.block_lt_of_cell? _ _ (hHeld.2.1))).trans (hHeld.2.1)
               have HS2_ := (hb.cell (World.block_lt_of_cell? _ _ (hHeld.2.2.1))).trans (hHeld.2.2.1)
               have HS3_ := (hb.cell (World.block_lt_of_cell? _ _ (hHeld.2.2.2.1))).trans (hHeld.2.2.2.1)
               have HS4_ := (hb.cell (World.block_lt_of_cell? _ _ (hHeld.2.2.2.2.1))).trans (hHeld.2.2.2.2.1)
               have HS5_ := (hb.cell (World.block_lt_of_cell? _ _ (hHeld.2.2.2.2.2))).trans (hHeld.2.2.2.2.2)
               refine ⟨_, rfl, ?_⟩
               replace HO_3 := Aside0.mk (Kd.R_below (rM HO_3) hb)
               replace HO376 := Aside0.mk (Kd.R_below (rM HO376) hb)
               replace HB := sB0 HB hb
               (try clear hb)
               (try clear hb2)
               (try clear hk)
               (try clear hi)
               obtain ⟨Ao92, co92, eo92⟩ := Kd.R_slice HO376.out
               (first | subst eo92 | (injection eo92 with f1_ f2_ f3_; have f4_ := f1_.symm; have f5_ := f3_.symm; clear f1_ f2_ f3_; subst f4_; subst f5_))
               refine hK.out _ _ ⟨HS0_, HS1_, HS2_, HS3_, HS4_, HS5_⟩ (fun hHeld => ?_)
               clear hK K
               refine norm_ (a' := ?_) ?_ ?_
               rotate_left
               ·show Act.put _ (some 65) _ = _
                simp only [Act.put, List.setIfInBounds_toArray, List.set_cons_zero, List.set_cons_succ, i64_w, i32_w]
                rfl
               refine pA HT_.out 2 66 ?_
               refine pA HT_.out 3 67 ?_
               refine pA HT_.out 4 68 ?_
               refine pA HT_.out 5 69 ?_
               refine pA HT_.out 6 70 ?_
               refine pA HT_.out 7 71 ?_
               refine pA HT_.out 8 72 ?_
               refine pA HT_.out 9 73 ?_
               refine pA HT_.out 10 74 ?_
               refine pA HT_.out 11 75 ?_
               refine pA HT_.out 12 76 ?_
               refine pA HT_.out 13 77 ?_
               refine pA HT_.out 15 79 ?_
               refine pA HT_.out 16 80 ?_
               refine tA6 HT_.out HW_.out 14 78 hHeld ?_
               refine tA6 HT_.out HW_.out 17 81 hHeld ?_
               refine pA HT_.out 18 82 ?_
               refine pA HT_.out 19 83 ?_
               refine pA HT_.out 20 84 ?_
               refine pA HT_.out 21 85 ?_
               refine one_ (i := 22) (N := some 86) #[true, true, true, true, true, true, true, true, true, true, true, true, true, true, true, true, true, true, true, true, true, true, true, false, false, false, false, false, false, false, false, false, false, false, false, false] rfl rfl (one_of HT_.out (by kernel_rfl)) (by decide) (fun K hK => ?_)
               refine gS Try.func12 #[.slice (some ad379) t346.length co8] ?_
               with_reducible refine (impl_IsLine.calls kj47 _ _ t346 false _ ?side1 ?side2 A74.out).mono ?_
               (case side1 => exact cM (Kd.R_reads' HO_3.out).2.2)
               (case side2 => exact (Kd.R_reads' HO_3.out).2.1)
               rintro e w93 ⟨rfl, hb⟩
               have HS0_ := (hb.cell (World.block_lt_of_cell? _ _ (hHeld.1))).trans (hHeld.1)
               have HS1_ := (hb.cell (World.block_lt_of_cell? _ _ (hHeld.2.1))).trans (hHeld.2.1)
               have HS2_ := (hb.cell (World.block_lt_of_cell? _ _ (hHeld.2.2.1))).trans (hHeld.2.2.1)
               have HS3_ := (hb.cell (World.block_lt_of_cell? _ _ (hHeld.2.2.2.1))).trans (hHeld.2.2.2.1)
               have HS4_ := (hb.cell (World.block_lt_of_cell? _ _ (hHeld.2.2.2.2.1))).trans (hHeld.2.2.2.2.1)
               have HS5_ := (hb.cell (World.block_lt_of_cell? _ _ (hHeld.2.2.2.2.2))).trans (hHeld.2.2.2.2.2)
               refine ⟨_, rfl, ?_⟩
               replace HO_3 := Aside0.mk (Kd.R_below (rM HO_3) hb)
               replace HO376 := Aside0.mk (Kd.R_below (rM HO376) hb)
               replace HB := sB0 HB hb
               (try clear hb)
               (try clear hb2)
               (try clear hk)
               (try clear hi)
               refine hK.out _ _ ⟨HS0_, HS1_, HS2_, HS3_, HS4_, HS5_⟩ (fun hHeld => ?_)
               clear hK K
               refine norm_ (a' := ?_) ?_ ?_
               rotate_left
               ·show Act.put _ (some 86) _ = _
                simp only [Act.put, List.setIfInBounds_toArray, List.set_cons_zero, List.set_cons_succ, i64_w, i32_w]
                rfl
               refine pA HT_.out 23 87 ?_
               refine pA HT_.out 24 88 ?_
               refine pA HT_.out 25 89 ?_
               refine pA HT_.out 26 90 ?_
               refine pA HT_.out 27 91 ?_
               refine pA HT_.out 28 92 ?_
               refine pA HT_.out 29 93 ?_
               refine pU HT_.out 30 94 ?_
               refine pU HT_.out 31 95 ?_
               refine pU HT_.out 32 96 ?_
               refine pA HT_.out 33 97 ?_
               refine pA HT_.out 34 98 ?_
               refine pA HT_.out 35 2 ?_
               refine done_ (done_of HT_.out (by kernel_rfl)) ?_
               try go_wp2
               go_ret
               exact ⟨by first | rfl | (simp [errW_none, errW_some] <;> rfl) | (simp [*, errW_none, errW_some] <;> rfl), eB0 HB⟩
           ·rw [if_neg c68] at H
            exact absurd H (by simp)
          ·rw [if_neg c67] at H
           exact absurd H (by simp)
         ·rw [if_neg c66] at H
          have c66b0 : ((t374.length : Int) == (wrap64 ((t346.length : Int) - 1))) = false := beq_eq_false_iff_ne.mpr c66
          have c66b1 : ((t374.length : Int) != (wrap64 ((t346.length : Int) - 1))) = true := bne_iff_ne.mpr c66
          replace H := Option.bind_eq_some_iff.mp H
          obtain ⟨t382, A940, H⟩ := H
          replace H : (if t382 = true then (some false) else (if (t374.length : Int) = 0 then ((impl_IsSimple.f kj47 t346).bind fun t383 => (some (!t383))) else (some false))) = some r := H
          have A94 := Aside0.mk A940
          clear A940
          by_cases c95 : t382 = true
          ·subst c95
           have H1 : (some false) = some r := by rw [if_pos rfl] at H; exact H
           clear H
           have H := H1
           clear H1
           obtain rfl := Option.some.inj H
           try go_wp2_with (first | ((with_reducible refine gate_callee (f := 18) rfl ?_); refine gL (some 63) Try.func18 #[.slice Ao8 t346.length co8] ?_; (with_reducible refine (impl_SegmentsOf.calls kj47 _ _ t346 t374 _ ?side1 ?side2 A63.out).mono ?_); (case side1 => exact cM (Kd.R_reads' HO_3.out).2.2); (case side2 => exact (Kd.R_reads' HO_3.out).2.1); rintro e w96 ⟨v375, rfl, ho0, hb⟩; refine ⟨_, rfl, ?_⟩; have HO376 := Aside0.mk (Kd.R_lower ho0 (below_size (eB0 HB))); replace HO_3 := Aside0.mk (Kd.R_below (rM HO_3) hb); replace HB := sB0 HB hb; (try clear hb); (try clear ho0)))
           replace HO_3 := Aside0.mk (Kd.R_drew HO_3.out)
           replace HO376 := Aside0.mk (Kd.R_drew HO376.out)
           replace HB := Aside0.mk (below_drew1 HB.out)
           refine start_ (n := 36) (S := fun w' => True) (ds := []) #[false, false, false, false, false, false, false, false, false, false, false, false, false, false, false, false, false, false, false, false, false, false, false, false, false, false, false, false, false, false, false, false, false, false, false, false] (by kernel_rfl) rfl rfl trivial (fun hHeld => ?_); refine with_tabW laws_FnLines.tab12 laws_FnLines.bits12 (fun HT_ HW_ => ?_)
           generalize w96.drew = w97 at HO_3 HO376 HB hHeld ⊢
           refine pA HT_.out 0 64 ?_
           refine one_ (i := 1) (N := some 65) #[true, true, false, false, false, false, false, false, false, false, false, false, false, false, false, false, false, false, false, false, false, false, false, false, false, false, false, false, false, false, false, false, false, false, false, false] rfl rfl (one_of HT_.out (by kernel_rfl)) (by decide) (fun K hK => ?_)
           refine gS Try.func12 #[.slice Ao8 t346.length co8] ?_
           with_reducible refine (impl_IsLine.calls kj47 _ _ t346 true _ ?side1 ?side2 A64.out).mono ?_
           (case side1 => exact cM (Kd.R_reads' HO_3.out).2.2)
           (case side2 => exact (Kd.R_reads' HO_3.out).2.1)
           rintro e w98 ⟨rfl, hb⟩
           refine ⟨_, rfl, ?_⟩
           replace HO_3 := Aside0.mk (Kd.R_below (rM HO_3) hb)
           replace HO376 := Aside0.mk (Kd.R_below (rM HO376) hb)
           replace HB := sB0 HB hb
           (try clear hb)
           (try clear hb2)
           (try clear hk)
           (try clear hi)
           obtain ⟨Ao99, co99, eo99⟩ := Kd.R_slice HO376.out
           (first | subst eo99 | (injection eo99 with f1_ f2_ f3_; have f4_ := f1_.symm; have f5_ := f3_.symm; clear f1_ f2_ f3_; subst f4_; subst f5_))
           refine hK.out _ _ trivial (fun hHeld => ?_)
           clear hK K
           refine norm_ (a' := ?_) ?_ ?_
           rotate_left
           ·show Act.put _ (some 65) _ = _
            simp only [Act.put, List.setIfInBounds_toArray, List.set_cons_zero, List.set_cons_succ, i64_w, i32_w]
            rfl
           refine pA HT_.out 2 66 ?_
           refine pA HT_.out 3 67 ?_
           refine pA HT_.out 4 68 ?_
           refine pA HT_.out 5 69 ?_
           refine pA HT_.out 6 70 ?_
           refine pA HT_.out 7 71 ?_
           refine pA HT_.out 8 72 ?_
           refine pA HT_.out 9 73 ?_
           refine pA HT_.out 10 74 ?_
           refine pU HT_.out 11 75 ?_
           refine pU HT_.out 12 76 ?_
           refine pU HT_.out 13 77 ?_
           refine pU HT_.out 14 78 ?_
           refine pU HT_.out 15 79 ?_
           refine pU HT_.out 16 80 ?_
           refine pU HT_.out 17 81 ?_
           refine pU HT_.out 18 82 ?_
           refine pA HT_.out 19 83 ?_
           refine pA HT_.out 20 84 ?_
           refine pA HT_.out 21 85 ?_
           refine one_ (i := 22) (N := some 86) #[true, true, true, true, true, true, true, true, true, true, true, true, true, true, true, true, true, true, true, true, true, true, true, false, false, false, false, false, false, false, false, false, false, false, false, false] rfl rfl (one_of HT_.out (by kernel_rfl)) (by decide) (fun K hK => ?_)
           refine gS Try.func12 #[.slice Ao8 t346.length co8] ?_
           with_reducible refine (impl_IsLine.calls kj47 _ _ t346 true _ ?side1 ?side2 A94.out).mono ?_
           (case side1 => exact cM (Kd.R_reads' HO_3.out).2.2)
           (case side2 => exact (Kd.R_reads' HO_3.out).2.1)
           rintro e w100 ⟨rfl, hb⟩
           refine ⟨_, rfl, ?_⟩
           replace HO_3 := Aside0.mk (Kd.R_below (rM HO_3) hb)
           replace HO376 := Aside0.mk (Kd.R_below (rM HO376) hb)
           replace HB := sB0 HB hb
           (try clear hb)
           (try clear hb2)
           (try clear hk)
           (try clear hi)
           refine hK.out _ _ trivial (fun hHeld => ?_)
           clear hK K
           refine norm_ (a' := ?_) ?_ ?_
           rotate_left
           ·show Act.put _ (some 86) _ = _
            simp only [Act.put, List.setIfInBounds_toArray, List.set_cons_zero, List.set_cons_succ, i64_w, i32_w]
            rfl
           refine pA HT_.out 23 87 ?_
           refine pA HT_.out 24 88 ?_
           refine pU HT_.out 25 89 ?_
           refine pU HT_.out 26 90 ?_
           refine pU HT_.out 27 91 ?_
           refine pA HT_.out 28 92 ?_
           refine pA HT_.out 29 93 ?_
           refine pU HT_.out 30 94 ?_
           refine pU HT_.out 31 95 ?_
           refine pU HT_.out 32 96 ?_
           refine pA HT_.out 33 97 ?_
           refine pA HT_.out 34 98 ?_
           refine pA HT_.out 35 2 ?_
           refine done_ (done_of HT_.out (by kernel_rfl)) ?_
           try go_wp2
           go_ret
           exact ⟨by first | rfl | (simp [errW_none, errW_some] <;> rfl) | (simp [*, errW_none, errW_some] <;> rfl), eB0 HB⟩
          ·replace c95 := Bool.eq_false_iff.mpr c95
           subst c95
           have H1 : (if (t374.length : Int) = 0 then ((impl_IsSimple.f kj47 t346).bind fun t383 => (some (!t383))) else (some false)) = some r := by rw [if_neg (show ¬ (false = true) by decide)] at H; exact H
           clear H
           have H := H1
           clear H1
           by_cases c101 : (t374.length : Int) = 0
           ·rw [if_pos c101] at H
            have c101b0 : ((t374.length : Int) == 0) = true := beq_iff_eq.mpr c101
            have c101b1 : ((t374.length : Int) != 0) = false := bne_eq_false_iff_eq.mpr c101
            clear c101
            replace H := Option.bind_eq_some_iff.mp H
            obtain ⟨t383, A1020, H⟩ := H
            replace H : (some (!t383)) = some r := H
            have A102 := Aside0.mk A1020
            clear A1020
            obtain rfl := Option.some.inj H
            try go_wp2_with (first | ((with_reducible refine gate_callee (f := 18) rfl ?_); refine gL (some 63) Try.func18 #[.slice Ao8 t346.length co8] ?_; (with_reducible refine (impl_SegmentsOf.calls kj47 _ _ t346 t374 _ ?side1 ?side2 A63.out).mono ?_); (case side1 => exact cM (Kd.R_reads' HO_3.out).2.2); (case side2 => exact (Kd.R_reads' HO_3.out).2.1); rintro e w103 ⟨v375, rfl, ho0, hb⟩; refine ⟨_, rfl, ?_⟩; have HO376 := Aside0.mk (Kd.R_lower ho0 (below_size (eB0 HB))); replace HO_3 := Aside0.mk (Kd.R_below (rM HO_3) hb); replace HB := sB0 HB hb; (try clear hb); (try clear ho0)))
            replace HO_3 := Aside0.mk (Kd.R_drew HO_3.out)
            replace HO376 := Aside0.mk (Kd.R_drew HO376.out)
            replace HB := Aside0.mk (below_drew1 HB.out)
            refine start_ (n := 36) (S := fun w' => True) (ds := []) #[false, false, false, false, false, false, false, false, false, false, false, false, false, false, false, false, false, false, false, false, false, false, false, false, false, false, false, false, false, false, false, false, false, false, false, false] (by kernel_rfl) rfl rfl trivial (fun hHeld => ?_); refine with_tabW laws_FnLines.tab12 laws_FnLines.bits12 (fun HT_ HW_ => ?_)
            generalize w103.drew = w104 at HO_3 HO376 HB hHeld ⊢
            refine pA HT_.out 0 64 ?_
            refine one_ (i := 1) (N := some 65) #[true, true, false, false, false, false, false, false, false, false, false, false, false, false, false, false, false, false, false, false, false, false, false, false, false, false, false, false, false, false, false, false, false, false, false, false] rfl rfl (one_of HT_.out (by kernel_rfl)) (by decide) (fun K hK => ?_)
            refine gS Try.func12 #[.slice Ao8 t346.length co8] ?_
            with_reducible refine (impl_IsLine.calls kj47 _ _ t346 true _ ?side1 ?side2 A64.out).mono ?_
            (case side1 => exact cM (Kd.R_reads' HO_3.out).2.2)
            (case side2 => exact (Kd.R_reads' HO_3.out).2.1)
            rintro e w105 ⟨rfl, hb⟩
            refine ⟨_, rfl, ?_⟩
            replace HO_3 := Aside0.mk (Kd.R_below (rM HO_3) hb)
            replace HO376 := Aside0.mk (Kd.R_below (rM HO376) hb)
            replace HB := sB0 HB hb
            (try clear hb)
            (try clear hb2)
            (try clear hk)
            (try clear hi)
            obtain ⟨Ao106, co106, eo106⟩ := Kd.R_slice HO376.out
            (first | subst eo106 | (injection eo106 with f1_ f2_ f3_; have f4_ := f1_.symm; have f5_ := f3_.symm; clear f1_ f2_ f3_; subst f4_; subst f5_))
            refine hK.out _ _ trivial (fun hHeld => ?_)
            clear hK K
            refine norm_ (a' := ?_) ?_ ?_
            rotate_left
            ·show Act.put _ (some 65) _ = _
             simp only [Act.put, List.setIfInBounds_toArray, List.set_cons_zero, List.set_cons_succ, i64_w, i32_w]
             rfl
            refine pA HT_.out 2 66 ?_
            refine pA HT_.out 3 67 ?_
            refine pA HT_.out 4 68 ?_
            refine pA HT_.out 5 69 ?_
            refine pA HT_.out 6 70 ?_
            refine pA HT_.out 7 71 ?_
            refine pA HT_.out 8 72 ?_
            refine pA HT_.out 9 73 ?_
            refine pA HT_.out 10 74 ?_
            refine pU HT_.out 11 75 ?_
            refine pU HT_.out 12 76 ?_
            refine pU HT_.out 13 77 ?_
            refine pU HT_.out 14 78 ?_
            refine pU HT_.out 15 79 ?_
            refine pU HT_.out 16 80 ?_
            refine pU HT_.out 17 81 ?_
            refine pU HT_.out 18 82 ?_
            refine pA HT_.out 19 83 ?_
            refine pA HT_.out 20 84 ?_
            refine pA HT_.out 21 85 ?_
            refine one_ (i := 22) (N := some 86) #[true, true, true, true, true, true, true, true, true, true, true, true, true, true, true, true, true, true, true, true, true, true, true, false, false, false, false, false, false, false, false, false, false, false, false, false] rfl rfl (one_of HT_.out (by kernel_rfl)) (by decide) (fun K hK => ?_)
            refine gS Try.func12 #[.slice Ao8 t346.length co8] ?_
            with_reducible refine (impl_IsLine.calls kj47 _ _ t346 false _ ?side1 ?side2 A94.out).mono ?_
            (case side1 => exact cM (Kd.R_reads' HO_3.out).2.2)
            (case side2 => exact (Kd.R_reads' HO_3.out).2.1)
            rintro e w107 ⟨rfl, hb⟩
            refine ⟨_, rfl, ?_⟩
            replace HO_3 := Aside0.mk (Kd.R_below (rM HO_3) hb)
            replace HO376 := Aside0.mk (Kd.R_below (rM HO376) hb)
            replace HB := sB0 HB hb
            (try clear hb)
            (try clear hb2)
            (try clear hk)
            (try clear hi)
            refine hK.out _ _ trivial (fun hHeld => ?_)
            clear hK K
            refine norm_ (a' := ?_) ?_ ?_
            rotate_left
            ·show Act.put _ (some 86) _ = _
             simp only [Act.put, List.setIfInBounds_toArray, List.set_cons_zero, List.set_cons_succ, i64_w, i32_w]
             rfl
            refine pA HT_.out 23 87 ?_
            refine pA HT_.out 24 88 ?_
            refine pA HT_.out 25 89 ?_
            refine pA HT_.out 26 90 ?_
            refine pA HT_.out 27 91 ?_
            refine pA HT_.out 28 92 ?_
            refine pA HT_.out 29 93 ?_
            refine pA HT_.out 30 94 ?_
            refine one_ (i := 31) (N := some 95) #[true, true, true, true, true, true, true, true, true, true, true, true, true, true, true, true, true, true, true, true, true, true, true, true, true, true, true, true, true, true, true, true, false, false, false, false] rfl rfl (one_of HT_.out (by kernel_rfl)) (by decide) (fun K hK => ?_)
            refine gS Try.func13 #[.slice Ao8 t346.length co8] ?_
            with_reducible refine (impl_IsSimple.calls kj47 _ _ t346 t383 _ ?side1 ?side2 A102.out).mono ?_
            (case side1 => exact cM (Kd.R_reads' HO_3.out).2.2)
            (case side2 => exact (Kd.R_reads' HO_3.out).2.1)
            rintro e w108 ⟨rfl, hb⟩
            refine ⟨_, rfl, ?_⟩
            replace HO_3 := Aside0.mk (Kd.R_below (rM HO_3) hb)
            replace HO376 := Aside0.mk (Kd.R_below (rM HO376) hb)
            replace HB := sB0 HB hb
            (try clear hb)
            (try clear hb2)
            (try clear hk)
            (try clear hi)
            refine hK.out _ _ trivial (fun hHeld => ?_)
            clear hK K
            refine norm_ (a' := ?_) ?_ ?_
            rotate_left
            ·show Act.put _ (some 95) _ = _
             simp only [Act.put, List.setIfInBounds_toArray, List.set_cons_zero, List.set_cons_succ, i64_w, i32_w]
             rfl
            refine pA HT_.out 32 96 ?_
            refine pA HT_.out 33 97 ?_
            refine pA HT_.out 34 98 ?_
            refine pA HT_.out 35 2 ?_
            refine done_ (done_of HT_.out (by kernel_rfl)) ?_
            try go_wp2
            go_ret
            exact ⟨by first | rfl | (simp [errW_none, errW_some] <;> rfl) | (simp [*, errW_none, errW_some] <;> rfl), eB0 HB⟩
           ·rw [if_neg c101] at H
            have c101b0 : ((t374.length : Int) == 0) = false := beq_eq_false_iff_ne.mpr c101
            have c101b1 : ((t374.length : Int) != 0) = true := bne_iff_ne.mpr c101
            have c101b2 : ¬ (t374 = []) := fun h_ => c101 (by rw [h_]; rfl)
            obtain rfl := Option.some.inj H
            try go_wp2_with (first | ((with_reducible refine gate_callee (f := 18) rfl ?_); refine gL (some 63) Try.func18 #[.slice Ao8 t346.length co8] ?_; (with_reducible refine (impl_SegmentsOf.calls kj47 _ _ t346 t374 _ ?side1 ?side2 A63.out).mono ?_); (case side1 => exact cM (Kd.R_reads' HO_3.out).2.2); (case side2 => exact (Kd.R_reads' HO_3.out).2.1); rintro e w109 ⟨v375, rfl, ho0, hb⟩; refine ⟨_, rfl, ?_⟩; have HO376 := Aside0.mk (Kd.R_lower ho0 (below_size (eB0 HB))); replace HO_3 := Aside0.mk (Kd.R_below (rM HO_3) hb); replace HB := sB0 HB hb; (try clear hb); (try clear ho0)))
            replace HO_3 := Aside0.mk (Kd.R_drew HO_3.out)
            replace HO376 := Aside0.mk (Kd.R_drew HO376.out)
            replace HB := Aside0.mk (below_drew1 HB.out)
            refine start_ (n := 36) (S := fun w' => True) (ds := []) #[false, false, false, false, false, false, false, false, false, false, false, false, false, false, false, false, false, false, false, false, false, false, false, false, false, false, false, false, false, false, false, false, false, false, false, false] (by kernel_rfl) rfl rfl trivial (fun hHeld => ?_); refine with_tabW laws_FnLines.tab12 laws_FnLines.bits12 (fun HT_ HW_ => ?_)
            generalize w109.drew = w110 at HO_3 HO376 HB hHeld ⊢
            refine pA HT_.out 0 64 ?_
            refine one_ (i := 1) (N := some 65) #[true, true, false, false, false, false, false, false, false, false, false, false, false, false, false, false, false, false, false, false, false, false, false, false, false, false, false, false, false, false, false, false, false, false, false, false] rfl rfl (one_of HT_.out (by kernel_rfl)) (by decide) (fun K hK => ?_)
            refine gS Try.func12 #[.slice Ao8 t346.length co8] ?_
            with_reducible refine (impl_IsLine.calls kj47 _ _ t346 true _ ?side1 ?side2 A64.out).mono ?_
            (case side1 => exact cM (Kd.R_reads' HO_3.out).2.2)
            (case side2 => exact (Kd.R_reads' HO_3.out).2.1)
            rintro e w111 ⟨rfl, hb⟩
            refine ⟨_, rfl, ?_⟩
            replace HO_3 := Aside0.mk (Kd.R_below (rM HO_3) hb)
            replace HO376 := Aside0.mk (Kd.R_below (rM HO376) hb)
            replace HB := sB0 HB hb
            (try clear hb)
            (try clear hb2)
            (try clear hk)
            (try clear hi)
            obtain ⟨Ao112, co112, eo112⟩ := Kd.R_slice HO376.out
            (first | subst eo112 | (injection eo112 with f1_ f2_ f3_; have f4_ := f1_.symm; have f5_ := f3_.symm; clear f1_ f2_ f3_; subst f4_; subst f5_))
            refine hK.out _ _ trivial (fun hHeld => ?_)
            clear hK K
            refine norm_ (a' := ?_) ?_ ?_
            rotate_left
            ·show Act.put _ (some 65) _ = _
             simp only [Act.put, List.setIfInBounds_toArray, List.set_cons_zero, List.set_cons_succ, i64_w, i32_w]
             rfl
            refine pA HT_.out 2 66 ?_
            refine pA HT_.out 3 67 ?_
            refine pA HT_.out 4 68 ?_
            refine pA HT_.out 5 69 ?_
            refine pA HT_.out 6 70 ?_
            refine pA HT_.out 7 71 ?_
            refine pA HT_.out 8 72 ?_
            refine pA HT_.out 9 73 ?_
            refine pA HT_.out 10 74 ?_
            refine pU HT_.out 11 75 ?_
            refine pU HT_.out 12 76 ?_
            refine pU HT_.out 13 77 ?_
            refine pU HT_.out 14 78 ?_
            refine pU HT_.out 15 79 ?_
            refine pU HT_.out 16 80 ?_
            refine pU HT_.out 17 81 ?_
            refine pU HT_.out 18 82 ?_
            refine pA HT_.out 19 83 ?_
            refine pA HT_.out 20 84 ?_
            refine pA HT_.out 21 85 ?_
            refine one_ (i := 22) (N := some 86) #[true, true, true, true, true, true, true, true, true, true, true, true, true, true, true, true, true, true, true, true, true, true, true, false, false, false, false, false, false, false, false, false, false, false, false, false] rfl rfl (one_of HT_.out (by kernel_rfl)) (by decide) (fun K hK => ?_)
            refine gS Try.func12 #[.slice Ao8 t346.length co8] ?_
            with_reducible refine (impl_IsLine.calls kj47 _ _ t346 false _ ?side1 ?side2 A94.out).mono ?_
            (case side1 => exact cM (Kd.R_reads' HO_3.out).2.2)
            (case side2 => exact (Kd.R_reads' HO_3.out).2.1)
            rintro e w113 ⟨rfl, hb⟩
            refine ⟨_, rfl, ?_⟩
            replace HO_3 := Aside0.mk (Kd.R_below (rM HO_3) hb)
            replace HO376 := Aside0.mk (Kd.R_below (rM HO376) hb)
            replace HB := sB0 HB hb
            (try clear hb)
            (try clear hb2)
            (try clear hk)
            (try clear hi)
            refine hK.out _ _ trivial (fun hHeld => ?_)
            clear hK K
            refine norm_ (a' := ?_) ?_ ?_
            rotate_left
            ·show Act.put _ (some 86) _ = _
             simp only [Act.put, List.setIfInBounds_toArray, List.set_cons_zero, List.set_cons_succ, i64_w, i32_w]
             rfl
            refine pA HT_.out 23 87 ?_
            refine pA HT_.out 24 88 ?_
            refine pA HT_.out 25 89 ?_
            refine pA HT_.out 26 90 ?_
            refine pA HT_.out 27 91 ?_
            refine pA HT_.out 28 92 ?_
            refine pA HT_.out 29 93 ?_
            refine pU HT_.out 30 94 ?_
            refine pU HT_.out 31 95 ?_
            refine pU HT_.out 32 96 ?_
            refine pA HT_.out 33 97 ?_
            refine pA HT_.out 34 98 ?_
            refine pA HT_.out 35 2 ?_
            refine done_ (done_of HT_.out (by kernel_rfl)) ?_
            try go_wp2
            go_ret
            exact ⟨by first | rfl | (simp [errW_none, errW_some] <;> rfl) | (simp [*, errW_none, errW_some] <;> rfl), eB0 HB⟩
        ·replace c65 := Bool.eq_false_iff.mpr c65
         subst c65
         have H1 : ((impl_IsLine.f kj47 t346).bind fun t384 => (if t384 = true then (some false) else (if (t374.length : Int) = 0 then ((impl_IsSimple.f kj47 t346).bind fun t385 => (some (!t385))) else (some false)))) = some r := by rw [if_neg (show ¬ (false = true) by decide)] at H; exact H
         clear H
         have H := H1
         clear H1
         replace H := Option.bind_eq_some_iff.mp H
         obtain ⟨t384, A1140, H⟩ := H
         replace H : (if t384 = true then (some false) else (if (t374.length : Int) = 0 then ((impl_IsSimple.f kj47 t346).bind fun t385 => (some (!t385))) else (some false))) = some r := H
         have A114 := Aside0.mk A1140
         clear A1140
         by_cases c115 : t384 = true
         ·subst c115
          have H1 : (some false) = some r := by rw [if_pos rfl] at H; exact H
          clear H
          have H := H1
          clear H1
          obtain rfl := Option.some.inj H
          try go_wp2_with (first | ((with_reducible refine gate_callee (f := 18) rfl ?_); refine gL (some 63) Try.func18 #[.slice Ao8 t346.length co8] ?_; (with_reducible refine (impl_SegmentsOf.calls kj47 _ _ t346 t374 _ ?side1 ?side2 A63.out).mono ?_); (case side1 => exact cM (Kd.R_reads' HO_3.out).2.2); (case side2 => exact (Kd.R_reads' HO_3.out).2.1); rintro e w116 ⟨v375, rfl, ho0, hb⟩; refine ⟨_, rfl, ?_⟩; have HO376 := Aside0.mk (Kd.R_lower ho0 (below_size (eB0 HB))); replace HO_3 := Aside0.mk (Kd.R_below (rM HO_3) hb); replace HB := sB0 HB hb; (try clear hb); (try clear ho0)))
          replace HO_3 := Aside0.mk (Kd.R_drew HO_3.out)
          replace HO376 := Aside0.mk (Kd.R_drew HO376.out)
          replace HB := Aside0.mk (below_drew1 HB.out)
          refine start_ (n := 36) (S := fun w' => True) (ds := []) #[false, false, false, false, false, false, false, false, false, false, false, false, false, false, false, false, false, false, false, false, false, false, false, false, false, false, false, false, false, false, false, false, false, false, false, false] (by kernel_rfl) rfl rfl trivial (fun hHeld => ?_); refine with_tabW laws_FnLines.tab12 laws_FnLines.bits12 (fun HT_ HW_ => ?_)
          generalize w116.drew = w117 at HO_3 HO376 HB hHeld ⊢
          refine pA HT_.out 0 64 ?_
          refine one_ (i := 1) (N := some 65) #[true, true, false, false, false, false, false, false, false, false, false, false, false, false, false, false, false, false, false, false, false, false, false, false, false, false, false, false, false, false, false, false, false, false, false, false] rfl rfl (one_of HT_.out (by kernel_rfl)) (by decide) (fun K hK => ?_)
          refine gS Try.func12 #[.slice Ao8 t346.length co8] ?_
          with_reducible refine (impl_IsLine.calls kj47 _ _ t346 false _ ?side1 ?side2 A64.out).mono ?_
          (case side1 => exact cM (Kd.R_reads' HO_3.out).2.2)
          (case side2 => exact (Kd.R_reads' HO_3.out).2.1)
          rintro e w118 ⟨rfl, hb⟩
          refine ⟨_, rfl, ?_⟩
          replace HO_3 := Aside0.mk (Kd.R_below (rM HO_3) hb)
          replace HO376 := Aside0.mk (Kd.R_below (rM HO376) hb)
          replace HB := sB0 HB hb
          (try clear hb)
          (try clear hb2)
          (try clear hk)
          (try clear hi)
          refine hK.out _ _ trivial (fun hHeld => ?_)
          clear hK K
          refine norm_ (a' := ?_) ?_ ?_
          rotate_left
          ·show Act.put _ (some 65) _ = _
           simp only [Act.put, List.setIfInBounds_toArray, List.set_cons_zero, List.set_cons_succ, i64_w, i32_w]
           rfl
          refine pA HT_.out 2 66 ?_
          refine pU HT_.out 3 67 ?_
          refine pU HT_.out 4 68 ?_
          refine pU HT_.out 5 69 ?_
          refine pU HT_.out 6 70 ?_
          refine pU HT_.out 7 71 ?_
          refine pU HT_.out 8 72 ?_
          refine pA HT_.out 9 73 ?_
          refine pA HT_.out 10 74 ?_
          refine pU HT_.out 11 75 ?_
          refine pU HT_.out 12 76 ?_
          refine pU HT_.out 13 77 ?_
          refine pU HT_.out 14 78 ?_
          refine pU HT_.out 15 79 ?_
          refine pU HT_.out 16 80 ?_
          refine pU HT_.out 17 81 ?_
          refine pU HT_.out 18 82 ?_
          refine pA HT_.out 19 83 ?_
          refine pA HT_.out 20 84 ?_
          refine pA HT_.out 21 85 ?_
          refine one_ (i := 22) (N := some 86) #[true, true, true, true, true, true, true, true, true, true, true, true, true, true, true, true, true, true, true, true, true, true, true, false, false, false, false, false, false, false, false, false, false, false, false, false] rfl rfl (one_of HT_.out (by kernel_rfl)) (by decide) (fun K hK => ?_)
          refine gS Try.func12 #[.slice Ao8 t346.length co8] ?_
          with_reducible refine (impl_IsLine.calls kj47 _ _ t346 true _ ?side1 ?side2 A114.out).mono ?_
          (case side1 => exact cM (Kd.R_reads' HO_3.out).2.2)
          (case side2 => exact (Kd.R_reads' HO_3.out).2.1)
          rintro e w119 ⟨rfl, hb⟩
          refine ⟨_, rfl, ?_⟩
          replace HO_3 := Aside0.mk (Kd.R_below (rM HO_3) hb)
          replace HO376 := Aside0.mk (Kd.R_below (rM HO376) hb)
          replace HB := sB0 HB hb
          (try clear hb)
          (try clear hb2)
          (try clear hk)
          (try clear hi)
          refine hK.out _ _ trivial (fun hHeld => ?_)
          clear hK K
          refine norm_ (a' := ?_) ?_ ?_
          rotate_left
          ·show Act.put _ (some 86) _ = _
           simp only [Act.put, List.setIfInBounds_toArray, List.set_cons_zero, List.set_cons_succ, i64_w, i32_w]
           rfl
          refine pA HT_.out 23 87 ?_
          refine pA HT_.out 24 88 ?_
          refine pU HT_.out 25 89 ?_
          refine pU HT_.out 26 90 ?_
          refine pU HT_.out 27 91 ?_
          refine pA HT_.out 28 92 ?_
          refine pA HT_.out 29 93 ?_
          refine pU HT_.out 30 94 ?_
          refine pU HT_.out 31 95 ?_
          refine pU HT_.out 32 96 ?_
          refine pA HT_.out 33 97 ?_
          refine pA HT_.out 34 98 ?_
          refine pA HT_.out 35 2 ?_
          refine done_ (done_of HT_.out (by kernel_rfl)) ?_
          try go_wp2
          go_ret
          exact ⟨by first | rfl | (simp [errW_none, errW_some] <;> rfl) | (simp [*, errW_none, errW_some] <;> rfl), eB0 HB⟩
         ·replace c115 := Bool.eq_false_iff.mpr c115
          subst c115
          have H1 : (if (t374.length : Int) = 0 then ((impl_IsSimple.f kj47 t346).bind fun t385 => (some (!t385))) else (some false)) = some r := by rw [if_neg (show ¬ (false = true) by decide)] at H; exact H
          clear H
          have H := H1
          clear H1
          by_cases c120 : (t374.length : Int) = 0
          ·rw [if_pos c120] at H
           have c120b0 : ((t374.length : Int) == 0) = true := beq_iff_eq.mpr c120
           have c120b1 : ((t374.length : Int) != 0) = false := bne_eq_false_iff_eq.mpr c120
           clear c120
           replace H := Option.bind_eq_some_iff.mp H
           obtain ⟨t385, A1210, H⟩ := H
           replace H : (some (!t385)) = some r := H
           have A121 := Aside0.mk A1210
           clear A1210
           obtain rfl := Option.some.inj H
           try go_wp2_with (first | ((with_reducible refine gate_callee (f := 18) rfl ?_); refine gL (some 63) Try.func18 #[.slice Ao8 t346.length co8] ?_; (with_reducible refine (impl_SegmentsOf.calls kj47 _ _ t346 t374 _ ?side1 ?side2 A63.out).mono ?_); (case side1 => exact cM (Kd.R_reads' HO_3.out).2.2); (case side2 => exact (Kd.R_reads' HO_3.out).2.1); rintro e w122 ⟨v375, rfl, ho0, hb⟩; refine ⟨_, rfl, ?_⟩; have HO376 := Aside0.mk (Kd.R_lower ho0 (below_size (eB0 HB))); replace HO_3 := Aside0.mk (Kd.R_below (rM HO_3) hb); replace HB := sB0 HB hb; (try clear hb); (try clear ho0)))
           replace HO_3 := Aside0.mk (Kd.R_drew HO_3.out)
           replace HO376 := Aside0.mk (Kd.R_drew HO376.out)
           replace HB := Aside0.mk (below_drew1 HB.out)
           refine start_ (n := 36) (S := fun w' => True) (ds := []) #[false, false, false, false, false, false, false, false, false, false, false, false, false, false, false, false, false, false, false, false, false, false, false, false, false, false, false, false, false, false, false, false, false, false, false, false] (by kernel_rfl) rfl rfl trivial (fun hHeld => ?_); refine with_tabW laws_FnLines.tab12 laws_FnLines.bits12 (fun HT_ HW_ => ?_)
           generalize w122.drew = w123 at HO_3 HO376 HB hHeld ⊢
           refine pA HT_.out 0 64 ?_
           refine one_ (i := 1) (N := some 65) #[true, true, false, false, false, false, false, false, false, false, false, false, false, false, false, false, false, false, false, false, false, false, false, false, false, false, false, false, false, false, false, false, false, false, false, false] rfl rfl (one_of HT_.out (by kernel_rfl)) (by decide) (fun K hK => ?_)
           refine gS Try.func12 #[.slice Ao8 t346.length co8] ?_
           with_reducible refine (impl_IsLine.calls kj47 _ _ t346 false _ ?side1 ?side2 A64.out).mono ?_
           (case side1 => exact cM (Kd.R_reads' HO_3.out).2.2)
           (case side2 => exact (Kd.R_reads' HO_3.out).2.1)
           rintro e w124 ⟨rfl, hb⟩
           refine ⟨_, rfl, ?_⟩
           replace HO_3 := Aside0.mk (Kd.R_below (rM HO_3) hb)
           replace HO376 := Aside0.mk (Kd.R_below (rM HO376) hb)
           replace HB := sB0 HB hb
           (try clear hb)
           (try clear hb2)
           (try clear hk)
           (try clear hi)
           refine hK.out _ _ trivial (fun hHeld => ?_)
           clear hK K
           refine norm_ (a' := ?_) ?_ ?_
           rotate_left
           ·show Act.put _ (some 65) _ = _
            simp only [Act.put, List.setIfInBounds_toArray, List.set_cons_zero, List.set_cons_succ, i64_w, i32_w]
            rfl
           refine pA HT_.out 2 66 ?_
           refine pU HT_.out 3 67 ?_
           refine pU HT_.out 4 68 ?_
           refine pU HT_.out 5 69 ?_
           refine pU HT_.out 6 70 ?_
           refine pU HT_.out 7 71 ?_
           refine pU HT_.out 8 72 ?_
           refine pA HT_.out 9 73 ?_
           refine pA HT_.out 10 74 ?_
           refine pU HT_.out 11 75 ?_
           refine pU HT_.out 12 76 ?_
           refine pU HT_.out 13 77 ?_
           refine pU HT_.out 14 78 ?_
           refine pU HT_.out 15 79 ?_
           refine pU HT_.out 16 80 ?_
           refine pU HT_.out 17 81 ?_
           refine pU HT_.out 18 82 ?_
           refine pA HT_.out 19 83 ?_
           refine pA HT_.out 20 84 ?_
           refine pA HT_.out 21 85 ?_
           refine one_ (i := 22) (N := some 86) #[true, true, true, true, true, true, true, true, true, true, true, true, true, true, true, true, true, true, true, true, true, true, true, false, false, false, false, false, false, false, false, false, false, false, false, false] rfl rfl (one_of HT_.out (by kernel_rfl)) (by decide) (fun K hK => ?_)
           refine gS Try.func12 #[.slice Ao8 t346.length co8] ?_
           with_reducible refine (impl_IsLine.calls kj47 _ _ t346 false _ ?side1 ?side2 A114.out).mono ?_
           (case side1 => exact cM (Kd.R_reads' HO_3.out).2.2)
           (case side2 => exact (Kd.R_reads' HO_3.out).2.1)
           rintro e w125 ⟨rfl, hb⟩
           refine ⟨_, rfl, ?_⟩
           replace HO_3 := Aside0.mk (Kd.R_below (rM HO_3) hb)
           replace HO376 := Aside0.mk (Kd.R_below (rM HO376) hb)
           replace HB := sB0 HB hb
           (try clear hb)
           (try clear hb2)
           (try clear hk)
           (try clear hi)
           obtain ⟨Ao126, co126, eo126⟩ := Kd.R_slice HO376.out
           (first | subst eo126 | (injection eo126 with f1_ f2_ f3_; have f4_ := f1_.symm; have f5_ := f3_.symm; clear f1_ f2_ f3_; subst f4_; subst f5_))
           refine hK.out _ _ trivial (fun hHeld => ?_)
           clear hK K
           refine norm_ (a' := ?_) ?_ ?_
           rotate_left
           ·show Act.put _ (some 86) _ = _
            simp only [Act.put, List.setIfInBounds_toArray, List.set_cons_zero, List.set_cons_succ, i64_w, i32_w]
            rfl
           refine pA HT_.out 23 87 ?_
           refine pA HT_.out 24 88 ?_
           refine pA HT_.out 25 89 ?_
           refine pA HT_.out 26 90 ?_
           refine pA HT_.out 27 91 ?_
           refine pA HT_.out 28 92 ?_
           refine pA HT_.out 29 93 ?_
           refine pA HT_.out 30 94 ?_
           refine one_ (i := 31) (N := some 95) #[true, true, true, true, true, true, true, true, true, true, true, true, true, true, true, true, true, true, true, true, true, true, true, true, true, true, true, true, true, true, true, true, false, false, false, false] rfl rfl (one_of HT_.out (by kernel_rfl)) (by decide) (fun K hK => ?_)
           refine gS Try.func13 #[.slice Ao8 t346.length co8] ?_
           with_reducible refine (impl_IsSimple.calls kj47 _ _ t346 t385 _ ?side1 ?side2 A121.out).mono ?_
           (case side1 => exact cM (Kd.R_reads' HO_3.out).2.2)
           (case side2 => exact (Kd.R_reads' HO_3.out).2.1)
           rintro e w127 ⟨rfl, hb⟩
           refine ⟨_, rfl, ?_⟩
           replace HO_3 := Aside0.mk (Kd.R_below (rM HO_3) hb)
           replace HO376 := Aside0.mk (Kd.R_below (rM HO376) hb)
           replace HB := sB0 HB hb
           (try clear hb)
           (try clear hb2)
           (try clear hk)
           (try clear hi)
           refine hK.out _ _ trivial (fun hHeld => ?_)
           clear hK K
           refine norm_ (a' := ?_) ?_ ?_
           rotate_left
           ·show Act.put _ (some 95) _ = _
            simp only [Act.put, List.setIfInBounds_toArray, List.set_cons_zero, List.set_cons_succ, i64_w, i32_w]
            rfl
           refine pA HT_.out 32 96 ?_
           refine pA HT_.out 33 97 ?_
           refine pA HT_.out 34 98 ?_
           refine pA HT_.out 35 2 ?_
           refine done_ (done_of HT_.out (by kernel_rfl)) ?_
           try go_wp2
           go_ret
           exact ⟨by first | rfl | (simp [errW_none, errW_some] <;> rfl) | (simp [*, errW_none, errW_some] <;> rfl), eB0 HB⟩
          ·rw [if_neg c120] at H
           have c120b0 : ((t374.length : Int) == 0) = false := beq_eq_false_iff_ne.mpr c120
           have c120b1 : ((t374.length : Int) != 0) = true := bne_iff_ne.mpr c120
           have c120b2 : ¬ (t374 = []) := fun h_ => c120 (by rw [h_]; rfl)
           obtain rfl := Option.some.inj H
           try go_wp2_with (first | ((with_reducible refine gate_callee (f := 18) rfl ?_); refine gL (some 63) Try.func18 #[.slice Ao8 t346.length co8] ?_; (with_reducible refine (impl_SegmentsOf.calls kj47 _ _ t346 t374 _ ?side1 ?side2 A63.out).mono ?_); (case side1 => exact cM (Kd.R_reads' HO_3.out).2.2); (case side2 => exact (Kd.R_reads' HO_3.out).2.1); rintro e w128 ⟨v375, rfl, ho0, hb⟩; refine ⟨_, rfl, ?_⟩; have HO376 := Aside0.mk (Kd.R_lower ho0 (below_size (eB0 HB))); replace HO_3 := Aside0.mk (Kd.R_below (rM HO_3) hb); replace HB := sB0 HB hb; (try clear hb); (try clear ho0)))
           replace HO_3 := Aside0.mk (Kd.R_drew HO_3.out)
           replace HO376 := Aside0.mk (Kd.R_drew HO376.out)
           replace HB := Aside0.mk (below_drew1 HB.out)
           refine start_ (n := 36) (S := fun w' => True) (ds := []) #[false, false, false, false, false, false, false, false, false, false, false, false, false, false, false, false, false, false, false, false, false, false, false, false, false, false, false, false, false, false, false, false, false, false, false, false] (by kernel_rfl) rfl rfl trivial (fun hHeld => ?_); refine with_tabW laws_FnLines.tab12 laws_FnLines.bits12 (fun HT_ HW_ => ?_)
           generalize w128.drew = w129 at HO_3 HO376 HB hHeld ⊢
           refine pA HT_.out 0 64 ?_
           refine one_ (i := 1) (N := some 65) #[true, true, false, false, false, false, false, false, false, false, false, false, false, false, false, false, false, false, false, false, false, false, false, false, false, false, false, false, false, false, false, false, false, false, false, false] rfl rfl (one_of HT_.out (by kernel_rfl)) (by decide) (fun K hK => ?_)
           refine gS Try.func12 #[.slice Ao8 t346.length co8] ?_
           with_reducible refine (impl_IsLine.calls kj47 _ _ t346 false _ ?side1 ?side2 A64.out).mono ?_
           (case side1 => exact cM (Kd.R_reads' HO_3.out).2.2)
           (case side2 => exact (Kd.R_reads' HO_3.out).2.1)
           rintro e w130 ⟨rfl, hb⟩
           refine ⟨_, rfl, ?_⟩
           replace HO_3 := Aside0.mk (Kd.R_below (rM HO_3) hb)
           replace HO376 := Aside0.mk (Kd.R_below (rM HO376) hb)
           replace HB := sB0 HB hb
           (try clear hb)
           (try clear hb2)
           (try clear hk)
           (try clear hi)
           refine hK.out _ _ trivial (fun hHeld => ?_)
           clear hK K
           refine norm_ (a' := ?_) ?_ ?_
           rotate_left
           ·show Act.put _ (some 65) _ = _
            simp only [Act.put, List.setIfInBounds_toArray, List.set_cons_zero, List.set_cons_succ, i64_w, i32_w]
            rfl
           refine pA HT_.out 2 66 ?_
           refine pU HT_.out 3 67 ?_
           refine pU HT_.out 4 68 ?_
           refine pU HT_.out 5 69 ?_
           refine pU HT_.out 6 70 ?_
           refine pU HT_.out 7 71 ?_
           refine pU HT_.out 8 72 ?_
           refine pA HT_.out 9 73 ?_
           refine pA HT_.out 10 74 ?_
           refine pU HT_.out 11 75 ?_
           refine pU HT_.out 12 76 ?_
           refine pU HT_.out 13 77 ?_
           refine pU HT_.out 14 78 ?_
           refine pU HT_.out 15 79 ?_
           refine pU HT_.out 16 80 ?_
           refine pU HT_.out 17 81 ?_
           refine pU HT_.out 18 82 ?_
           refine pA HT_.out 19 83 ?_
           refine pA HT_.out 20 84 ?_
           refine pA HT_.out 21 85 ?_
           refine one_ (i := 22) (N := some 86) #[true, true, true, true, true, true, true, true, true, true, true, true, true, true, true, true, true, true, true, true, true, true, true, false, false, false, false, false, false, false, false, false, false, false, false, false] rfl rfl (one_of HT_.out (by kernel_rfl)) (by decide) (fun K hK => ?_)
           refine gS Try.func12 #[.slice Ao8 t346.length co8] ?_
           with_reducible refine (impl_IsLine.calls kj47 _ _ t346 false _ ?side1 ?side2 A114.out).mono ?_
           (case side1 => exact cM (Kd.R_reads' HO_3.out).2.2)
           (case side2 => exact (Kd.R_reads' HO_3.out).2.1)
           rintro e w131 ⟨rfl, hb⟩
           refine ⟨_, rfl, ?_⟩
           replace HO_3 := Aside0.mk (Kd.R_below (rM HO_3) hb)
           replace HO376 := Aside0.mk (Kd.R_below (rM HO376) hb)
           replace HB := sB0 HB hb
           (try clear hb)
           (try clear hb2)
           (try clear hk)
           (try clear hi)
           obtain ⟨Ao132, co132, eo132⟩ := Kd.R_slice HO376.out
           (first | subst eo132 | (injection eo132 with f1_ f2_ f3_; have f4_ := f1_.symm; have f5_ := f3_.symm; clear f1_ f2_ f3_; subst f4_; subst f5_))
           refine hK.out _ _ trivial (fun hHeld => ?_)
           clear hK K
           refine norm_ (a' := ?_) ?_ ?_
           rotate_left
           ·show Act.put _ (some 86) _ = _
            simp only [Act.put, List.setIfInBounds_toArray, List.set_cons_zero, List.set_cons_succ, i64_w, i32_w]
            rfl
           refine pA HT_.out 23 87 ?_
           refine pA HT_.out 24 88 ?_
           refine pA HT_.out 25 89 ?_
           refine pA HT_.out 26 90 ?_
           refine pA HT_.out 27 91 ?_
           refine pA HT_.out 28 92 ?_
           refine pA HT_.out 29 93 ?_
           refine pU HT_.out 30 94 ?_
           refine pU HT_.out 31 95 ?_
           refine pU HT_.out 32 96 ?_
           refine pA HT_.out 33 97 ?_
           refine pA HT_.out 34 98 ?_
           refine pA HT_.out 35 2 ?_
           refine done_ (done_of HT_.out (by kernel_rfl)) ?_
           try go_wp2
           go_ret
           exact ⟨by first | rfl | (simp [errW_none, errW_some] <;> rfl) | (simp [*, errW_none, errW_some] <;> rfl), eB0 HB⟩

/-- THE ONE PURE STATEMENT of laws_FnLines: yours. -/
def laws_FnLines.Pure : Prop := ∀ (l0 : List Int), l0.length ≤ maxLen → l0.length * 1 ≤ 140737488351232 → (∀ x ∈ l0, (Lit.int .u8 x).wf = true) → ∃ k, laws_FnLines.f k l0 = some true
theorem laws_FnLines.walk (P : laws_FnLines.Pure) (a0 : Option Addr) (len0 cap0 : Nat) (z0 : List Int) (w : World) (w0 : (a0 = none ∧ len0 = 0 ∧ cap0 = 0 ∧ z0 = []) ∨ ∃ x, a0 = some x ∧ len0 ≤ cap0 ∧ cap0 ≤ maxLen ∧ z0.length = cap0 ∧ (∀ i, i < z0.length → w.cell? (x.add i) = some (.int .u8 (z0.getD i 0))) ∧ ∀ n ∈ z0, (Lit.int .u8 n).wf = true) (y0 : len0 * 1 ≤ 140737488351232) :
  Calls Try.prog 3 #[.slice a0 len0 cap0] w fun e w' => e = .returned (.bool true) ∧ Below w.heap.size w w' := by
 obtain ⟨l0, rfl, hr0, hm0, hw0, hc0⟩ := ReadsInt.ofRowC w0
 obtain ⟨k, h⟩ := P l0 hm0 y0 hw0
 refine (laws_FnLines.calls k _ _ l0 true w (Kd.C_of_reads (d := (0 : Int)) (h1 := fun _ => rfl) hr0) hc0 h).mono ?_
 rintro e w' ⟨rfl, hd⟩
 exact ⟨rfl, hd⟩

end Go.Proofs.Ytomkdfpcckgajaa.PFnLines
