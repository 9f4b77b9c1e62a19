/- What the functions of FnSegments compute, each with its proof: this session's own text. -/
import Derived.Test.YtokhmgfjgpcmdaaVQFnSegmentsx0
import Derived.Test.YtokhmgfjgpcmdaaVQFnSegmentsx2
import Derived.Test.YtokhmgfjgpcmdaaVQFnSegmentsx4
import Derived.Test.YtokhmgfjgpcmdaaVQFnSegmentsx5
import Derived.Test.YtokhmgfjgpcmdaaVQFnSegmentsx6
import Derived.Test.YtokhmgfjgpcmdaaVQFnSegmentsx11
import Derived.Test.YtokhmgfjgpcmdaaVQFnSegmentsx12
namespace Go.Proofs.Ytokhmgfjgpcmdaa.PFnSegments
open Go.RowKit Go.Proofs.YtokhmgfjgpcmdaaW.PrintWords Go.Proofs.YtokhmgfjgpcmdaaW.PrintLast Go.Proofs.YtokhmgfjgpcmdaaW.PrintMore Go.Proofs.Ytokhmgfjgpcmdaa.Sh
attribute [local go_sem] max2_int min2_int max_two min_two max_three min_three max_four min_four   -- for this text's walks alone
set_option linter.unusedVariables false
set_option linter.unusedSimpArgs false

/-! ### laws_FnSegments: function 3 -/
mutual
def laws_FnSegments.j0 : Nat → List Int → Int → Bool → Int → Int → Int → Int → Int → Int → Int → Int → Option (Bool)
 | 0, _, _, _, _, _, _, _, _, _, _, _ => none
 | k + 1, x0, x5, x43, x367000, x367001, x367002, x367003, x368000, x368001, x368002, x368003 => if x43 = true then (some false) else ((impl_IsSegment.f x367000 x367001 x367002 x367003).bind fun t381 => (if t381 = true then ((impl_HowMeet.f k x367000 x367001 x367002 x367003 x367000 x367001 x367002 x367003).bind fun t382 => (if t382 = 3 then ((impl_IsOn.f k x367000 x367001 x367002 x367003 x367000 x367001).bind fun t383 => (if t383 = true then ((impl_IsOn.f k x367000 x367001 x367002 x367003 x367002 x367003).bind fun t384 => (if t384 = true then ((impl_IsBetween.f k x367000 x367001 x367002 x367003 x367000 x367001).bind fun t385 => (laws_FnSegments.j1 k x0 x5 t385 x367000 x367001 x367002 x367003 x368000 x368001 x368002 x368003)) else (laws_FnSegments.j1 k x0 x5 true x367000 x367001 x367002 x367003 x368000 x368001 x368002 x368003))) else (laws_FnSegments.j1 k x0 x5 true x367000 x367001 x367002 x367003 x368000 x368001 x368002 x368003))) else (laws_FnSegments.j1 k x0 x5 true x367000 x367001 x367002 x367003 x368000 x368001 x368002 x368003))) else (laws_FnSegments.j1 k x0 x5 false x367000 x367001 x367002 x367003 x368000 x368001 x368002 x368003)))
def laws_FnSegments.j1 : Nat → List Int → Int → Bool → Int → Int → Int → Int → Int → Int → Int → Int → Option (Bool)
 | 0, _, _, _, _, _, _, _, _, _, _, _ => none
 | k + 1, x0, x5, x71, x367000, x367001, x367002, x367003, x368000, x368001, x368002, x368003 => if x71 = true then (some false) else (if x5 = 0 then ((impl_IsSegment.f x367000 x367001 x367002 x367003).bind fun t386 => (if t386 = true then ((impl_IsSegment.f x368000 x368001 x368002 x368003).bind fun t387 => (if t387 = true then ((impl_IsOn.f k x367000 x367001 x367002 x367003 x368000 x368001).bind fun t388 => (if t388 = true then (laws_FnSegments.j2 k x0 true) else ((impl_IsOn.f k x368000 x368001 x368002 x368003 x367002 x367003).bind fun t389 => (if t389 = true then (laws_FnSegments.j2 k x0 true) else (if x5 = 2 then ((impl_IsOn.f k x367000 x367001 x367002 x367003 x368000 x368001).bind fun t390 => (if t390 = true then (laws_FnSegments.j2 k x0 true) else ((impl_IsOn.f k x367000 x367001 x367002 x367003 x368002 x368003).bind fun t391 => (if t391 = true then (laws_FnSegments.j2 k x0 true) else ((impl_IsOn.f k x368000 x368001 x368002 x368003 x367000 x367001).bind fun t392 => (if t392 = true then (laws_FnSegments.j2 k x0 true) else ((impl_IsOn.f k x368000 x368001 x368002 x368003 x367002 x367003).bind fun t393 => (laws_FnSegments.j2 k x0 t393)))))))) else (laws_FnSegments.j2 k x0 false)))))) else (if x5 = 2 then ((impl_IsOn.f k x367000 x367001 x367002 x367003 x368000 x368001).bind fun t394 => (if t394 = true then (laws_FnSegments.j2 k x0 true) else ((impl_IsOn.f k x367000 x367001 x367002 x367003 x368002 x368003).bind fun t395 => (if t395 = true then (laws_FnSegments.j2 k x0 true) else ((impl_IsOn.f k x368000 x368001 x368002 x368003 x367000 x367001).bind fun t396 => (if t396 = true then (laws_FnSegments.j2 k x0 true) else ((impl_IsOn.f k x368000 x368001 x368002 x368003 x367002 x367003).bind fun t397 => (laws_FnSegments.j2 k x0 t397)))))))) else (laws_FnSegments.j2 k x0 false)))) else (if x5 = 2 then ((impl_IsOn.f k x367000 x367001 x367002 x367003 x368000 x368001).bind fun t398 => (if t398 = true then (laws_FnSegments.j2 k x0 true) else ((impl_IsOn.f k x367000 x367001 x367002 x367003 x368002 x368003).bind fun t399 => (if t399 = true then (laws_FnSegments.j2 k x0 true) else ((impl_IsOn.f k x368000 x368001 x368002 x368003 x367000 x367001).bind fun t400 => (if t400 = true then (laws_FnSegments.j2 k x0 true) else ((impl_IsOn.f k x368000 x368001 x368002 x368003 x367002 x367003).bind fun t401 => (laws_FnSegments.j2 k x0 t401)))))))) else (laws_FnSegments.j2 k x0 false)))) else (if x5 = 2 then ((impl_IsOn.f k x367000 x367001 x367002 x367003 x368000 x368001).bind fun t402 => (if t402 = true then (laws_FnSegments.j2 k x0 true) else ((impl_IsOn.f k x367000 x367001 x367002 x367003 x368002 x368003).bind fun t403 => (if t403 = true then (laws_FnSegments.j2 k x0 true) else ((impl_IsOn.f k x368000 x368001 x368002 x368003 x367000 x367001).bind fun t404 => (if t404 = true then (laws_FnSegments.j2 k x0 true) else ((impl_IsOn.f k x368000 x368001 x368002 x368003 x367002 x367003).bind fun t405 => (laws_FnSegments.j2 k x0 t405)))))))) else (laws_FnSegments.j2 k x0 false)))
def laws_FnSegments.j2 : Nat → List Int → Bool → Option (Bool)
 | 0, _, _ => none
 | k + 1, x0, x121 => if x121 = true then (some false) else ((spec_DrawIsOn.f k x0).bind fun bt406 => ((impl_IsOn.f k bt406.1 bt406.2.1 bt406.2.2.1 bt406.2.2.2.1 bt406.2.2.2.2.1 bt406.2.2.2.2.2).bind fun t414 => ((impl_TurnSegment.f bt406.1 bt406.2.1 bt406.2.2.1 bt406.2.2.2.1).bind fun bt415 => ((impl_IsOn.f k bt415.1 bt415.2.1 bt415.2.2.1 bt415.2.2.2 bt406.2.2.2.2.1 bt406.2.2.2.2.2).bind fun t419 => (if (t414 == t419) = true then ((impl_IsBetween.f k bt406.1 bt406.2.1 bt406.2.2.1 bt406.2.2.2.1 bt406.2.2.2.2.1 bt406.2.2.2.2.2).bind fun t420 => (if t420 = true then ((impl_IsOn.f k bt406.1 bt406.2.1 bt406.2.2.1 bt406.2.2.2.1 bt406.2.2.2.2.1 bt406.2.2.2.2.2).bind fun t421 => (some t421)) else (some true))) else (some false))))))
end
def laws_FnSegments.f (k : Nat) (l0 : List Int) : Option (Bool) := (laws_big.f l0).bind fun t357 => (if t357 = true then (some true) else ((spec_DrawHowMeet.f k l0).bind fun bt358 => ((impl_HowMeet.f k bt358.1 bt358.2.1 bt358.2.2.1 bt358.2.2.2.1 bt358.2.2.2.2.1 bt358.2.2.2.2.2.1 bt358.2.2.2.2.2.2.1 bt358.2.2.2.2.2.2.2).bind fun t368 => ((spec_HowMeet.f k bt358.1 bt358.2.1 bt358.2.2.1 bt358.2.2.2.1 bt358.2.2.2.2.1 bt358.2.2.2.2.2.1 bt358.2.2.2.2.2.2.1 bt358.2.2.2.2.2.2.2).bind fun t369 => (if t368 = t369 then ((impl_HowMeet.f k bt358.2.2.2.2.1 bt358.2.2.2.2.2.1 bt358.2.2.2.2.2.2.1 bt358.2.2.2.2.2.2.2 bt358.1 bt358.2.1 bt358.2.2.1 bt358.2.2.2.1).bind fun t370 => (if t368 = t370 then ((impl_TurnSegment.f bt358.1 bt358.2.1 bt358.2.2.1 bt358.2.2.2.1).bind fun bt371 => ((impl_HowMeet.f k bt371.1 bt371.2.1 bt371.2.2.1 bt371.2.2.2 bt358.2.2.2.2.1 bt358.2.2.2.2.2.1 bt358.2.2.2.2.2.2.1 bt358.2.2.2.2.2.2.2).bind fun t375 => (if t368 = t375 then ((impl_TurnSegment.f bt358.2.2.2.2.1 bt358.2.2.2.2.2.1 bt358.2.2.2.2.2.2.1 bt358.2.2.2.2.2.2.2).bind fun bt376 => ((impl_HowMeet.f k bt358.1 bt358.2.1 bt358.2.2.1 bt358.2.2.2.1 bt376.1 bt376.2.1 bt376.2.2.1 bt376.2.2.2).bind fun t380 => (laws_FnSegments.j0 k l0 t368 (t368 != t380) bt358.1 bt358.2.1 bt358.2.2.1 bt358.2.2.2.1 bt358.2.2.2.2.1 bt358.2.2.2.2.2.1 bt358.2.2.2.2.2.2.1 bt358.2.2.2.2.2.2.2))) else (laws_FnSegments.j0 k l0 t368 true bt358.1 bt358.2.1 bt358.2.2.1 bt358.2.2.2.1 bt358.2.2.2.2.1 bt358.2.2.2.2.2.1 bt358.2.2.2.2.2.2.1 bt358.2.2.2.2.2.2.2)))) else (laws_FnSegments.j0 k l0 t368 true bt358.1 bt358.2.1 bt358.2.2.1 bt358.2.2.2.1 bt358.2.2.2.2.1 bt358.2.2.2.2.2.1 bt358.2.2.2.2.2.2.1 bt358.2.2.2.2.2.2.2))) else (some false))))))
theorem laws_FnSegments.mono_l : ∀ k, (∀ y0 y1 y2 y3 y4 y5 y6 y7 y8 y9 y10, LeO (laws_FnSegments.j0 k y0 y1 y2 y3 y4 y5 y6 y7 y8 y9 y10) (laws_FnSegments.j0 (k + 1) y0 y1 y2 y3 y4 y5 y6 y7 y8 y9 y10)) ∧ (∀ y0 y1 y2 y3 y4 y5 y6 y7 y8 y9 y10, LeO (laws_FnSegments.j1 k y0 y1 y2 y3 y4 y5 y6 y7 y8 y9 y10) (laws_FnSegments.j1 (k + 1) y0 y1 y2 y3 y4 y5 y6 y7 y8 y9 y10)) ∧ (∀ y0 y1, LeO (laws_FnSegments.j2 k y0 y1) (laws_FnSegments.j2 (k + 1) y0 y1))
 | 0 => ⟨fun _ _ _ _ _ _ _ _ _ _ _ r h => by simp [laws_FnSegments.j0] at h, fun _ _ _ _ _ _ _ _ _ _ _ r h => by simp [laws_FnSegments.j1] at h, fun _ _ r h => by simp [laws_FnSegments.j2] at h⟩
 | k + 1 => by
  obtain ⟨ih0, ih1, ih2⟩ := laws_FnSegments.mono_l k
  refine ⟨?_, ?_, ?_⟩
  ·intro y0 y1 y2 y3 y4 y5 y6 y7 y8 y9 y10
   unfold laws_FnSegments.j0
   repeat' first
   | (with_reducible exact ih0 _ _ _ _ _ _ _ _ _ _ _)
   | (with_reducible exact ih1 _ _ _ _ _ _ _ _ _ _ _)
   | (with_reducible exact ih2 _ _)
   | (with_reducible exact impl_HowMeet.mono _ _ _ _ _ _ _ _ _)
   | (with_reducible exact impl_IsBetween.mono _ _ _ _ _ _ _)
   | (with_reducible exact impl_IsOn.mono _ _ _ _ _ _ _)
   | (with_reducible exact spec_DrawHowMeet.mono _ _)
   | (with_reducible exact spec_DrawIsOn.mono _ _)
   | (with_reducible exact spec_HowMeet.mono _ _ _ _ _ _ _ _ _)
   | (with_reducible exact LeO.refl _)
   | (with_reducible exact LeO.none _)
   | (with_reducible refine LeO.ite ?_ ?_)
   | (with_reducible refine LeO.bind ?_ (fun _ => ?_))
   | exact ih0 _ _ _ _ _ _ _ _ _ _ _
   | exact ih1 _ _ _ _ _ _ _ _ _ _ _
   | exact ih2 _ _
   | exact impl_HowMeet.mono _ _ _ _ _ _ _ _ _
   | exact impl_IsBetween.mono _ _ _ _ _ _ _
   | exact impl_IsOn.mono _ _ _ _ _ _ _
   | exact spec_DrawHowMeet.mono _ _
   | exact spec_DrawIsOn.mono _ _
   | exact spec_HowMeet.mono _ _ _ _ _ _ _ _ _
   | exact LeO.none _
   | refine LeO.ite ?_ ?_
   | refine LeO.bind ?_ (fun _ => ?_)
  ·intro y0 y1 y2 y3 y4 y5 y6 y7 y8 y9 y10
   unfold laws_FnSegments.j1
   repeat' first
   | (with_reducible exact ih0 _ _ _ _ _ _ _ _ _ _ _)
   | (with_reducible exact ih1 _ _ _ _ _ _ _ _ _ _ _)
   | (with_reducible exact ih2 _ _)
   | (with_reducible exact impl_HowMeet.mono _ _ _ _ _ _ _ _ _)
   | (with_reducible exact impl_IsBetween.mono _ _ _ _ _ _ _)
   | (with_reducible exact impl_IsOn.mono _ _ _ _ _ _ _)
   | (with_reducible exact spec_DrawHowMeet.mono _ _)
   | (with_reducible exact spec_DrawIsOn.mono _ _)
   | (with_reducible exact spec_HowMeet.mono _ _ _ _ _ _ _ _ _)
   | (with_reducible exact LeO.refl _)
   | (with_reducible exact LeO.none _)
   | (with_reducible refine LeO.ite ?_ ?_)
   | (with_reducible refine LeO.bind ?_ (fun _ => ?_))
   | exact ih0 _ _ _ _ _ _ _ _ _ _ _
   | exact ih1 _ _ _ _ _ _ _ _ _ _ _
   | exact ih2 _ _
   | exact impl_HowMeet.mono _ _ _ _ _ _ _ _ _
   | exact impl_IsBetween.mono _ _ _ _ _ _ _
   | exact impl_IsOn.mono _ _ _ _ _ _ _
   | exact spec_DrawHowMeet.mono _ _
   | exact spec_DrawIsOn.mono _ _
   | exact spec_HowMeet.mono _ _ _ _ _ _ _ _ _
   | exact LeO.none _
   | refine LeO.ite ?_ ?_
   | refine LeO.bind ?_ (fun _ => ?_)
  ·intro y0 y1
   unfold laws_FnSegments.j2
   repeat' first
   | (with_reducible exact ih0 _ _ _ _ _ _ _ _ _ _ _)
   | (with_reducible exact ih1 _ _ _ _ _ _ _ _ _ _ _)
   | (with_reducible exact ih2 _ _)
   | (with_reducible exact impl_HowMeet.mono _ _ _ _ _ _ _ _ _)
   | (with_reducible exact impl_IsBetween.mono _ _ _ _ _ _ _)
   | (with_reducible exact impl_IsOn.mono _ _ _ _ _ _ _)
   | (with_reducible exact spec_DrawHowMeet.mono _ _)
   | (with_reducible exact spec_DrawIsOn.mono _ _)
   | (with_reducible exact spec_HowMeet.mono _ _ _ _ _ _ _ _ _)
   | (with_reducible exact LeO.refl _)
   | (with_reducible exact LeO.none _)
   | (with_reducible refine LeO.ite ?_ ?_)
   | (with_reducible refine LeO.bind ?_ (fun _ => ?_))
   | exact ih0 _ _ _ _ _ _ _ _ _ _ _
   | exact ih1 _ _ _ _ _ _ _ _ _ _ _
   | exact ih2 _ _
   | exact impl_HowMeet.mono _ _ _ _ _ _ _ _ _
   | exact impl_IsBetween.mono _ _ _ _ _ _ _
   | exact impl_IsOn.mono _ _ _ _ _ _ _
   | exact spec_DrawHowMeet.mono _ _
   | exact spec_DrawIsOn.mono _ _
   | exact spec_HowMeet.mono _ _ _ _ _ _ _ _ _
   | exact LeO.none _
   | refine LeO.ite ?_ ?_
   | refine LeO.bind ?_ (fun _ => ?_)
theorem laws_FnSegments.mono : ∀ a0 k, LeO (laws_FnSegments.f k a0) (laws_FnSegments.f (k + 1) a0) := by
 intro a0 k
 obtain ⟨ih0, ih1, ih2⟩ := laws_FnSegments.mono_l k
 unfold laws_FnSegments.f
 repeat' first
   | (with_reducible exact ih0 _ _ _ _ _ _ _ _ _ _ _)
   | (with_reducible exact ih1 _ _ _ _ _ _ _ _ _ _ _)
   | (with_reducible exact ih2 _ _)
   | (with_reducible exact impl_HowMeet.mono _ _ _ _ _ _ _ _ _)
   | (with_reducible exact impl_IsBetween.mono _ _ _ _ _ _ _)
   | (with_reducible exact impl_IsOn.mono _ _ _ _ _ _ _)
   | (with_reducible exact spec_DrawHowMeet.mono _ _)
   | (with_reducible exact spec_DrawIsOn.mono _ _)
   | (with_reducible exact spec_HowMeet.mono _ _ _ _ _ _ _ _ _)
   | (with_reducible exact LeO.refl _)
   | (with_reducible exact LeO.none _)
   | (with_reducible refine LeO.ite ?_ ?_)
   | (with_reducible refine LeO.bind ?_ (fun _ => ?_))
   | exact ih0 _ _ _ _ _ _ _ _ _ _ _
   | exact ih1 _ _ _ _ _ _ _ _ _ _ _
   | exact ih2 _ _
   | exact impl_HowMeet.mono _ _ _ _ _ _ _ _ _
   | exact impl_IsBetween.mono _ _ _ _ _ _ _
   | exact impl_IsOn.mono _ _ _ _ _ _ _
   | exact spec_DrawHowMeet.mono _ _
   | exact spec_DrawIsOn.mono _ _
   | exact spec_HowMeet.mono _ _ _ _ _ _ _ _ _
   | exact LeO.none _
   | refine LeO.ite ?_ ?_
   | refine LeO.bind ?_ (fun _ => ?_)
def laws_FnSegments.T7 : Bool × List (List Nat × List Nat) := (true, [([], []), ([], []), ([], []), ([1, 2], [1, 2]), ([0, 3], [0, 3]), ([4, 3], [4]), ([5], [5]), ([5], [5]), ([7, 5, 5], [5, 7]), ([5], [5]), ([8, 9, 8, 5], [5, 8, 9]), ([6, 10, 5], [5, 6, 10]), ([5, 11], [5, 11]), ([12, 10], [12]), ([13], [13]), ([13], [13]), ([13], [13]), ([16, 13, 13], [13, 16]), ([15, 17, 17, 13], [13, 15, 17]), ([14, 18, 13], [13, 14, 18]), ([13, 19], [13, 19])])
def laws_FnSegments.B7 : List Nat := [0, 0, 0, 6, 15, 31, 63, 63, 191, 63, 959, 2047, 4095, 8191, 16383, 16383, 16383, 81919, 245759, 524287, 1048575]
theorem laws_FnSegments.tab7 : rtab .any (opsOf Try.f3 7) = laws_FnSegments.T7 := by kernel_rfl
theorem laws_FnSegments.bits7 : waitsOk laws_FnSegments.T7.2 laws_FnSegments.B7 = true := by kernel_rfl
def laws_FnSegments.T14 : Bool × List (List Nat × List Nat) := (true, [([], []), ([], []), ([0, 1], [0, 1]), ([], []), ([3, 2], [3]), ([], []), ([4, 5, 4], [4, 5]), ([2, 6], [2, 6]), ([7, 6], [7]), ([8], [8]), ([8], [8]), ([9, 10, 8, 8], [8, 9, 10]), ([11, 8], [8, 11]), ([12, 11, 8], [8, 12]), ([13], [13]), ([13], [13]), ([14, 15, 13, 13], [13, 14, 15]), ([13, 16, 8], [8, 13, 16]), ([8, 17], [8, 17]), ([18, 16, 0, 1, 2, 3, 4, 5, 6, 7, 8, 9, 10, 11, 12, 13, 14, 15, 16, 17, 18], [18])])
def laws_FnSegments.B14 : List Nat := [0, 0, 3, 0, 15, 0, 63, 127, 255, 511, 511, 2047, 4095, 8191, 16383, 16383, 65535, 131071, 262143, 524287]
theorem laws_FnSegments.tab14 : rtab .any (opsOf Try.f3 14) = laws_FnSegments.T14 := by kernel_rfl
theorem laws_FnSegments.bits14 : waitsOk laws_FnSegments.T14.2 laws_FnSegments.B14 = true := by kernel_rfl
set_option maxHeartbeats 8000000 in
set_option maxRecDepth 100000 in
theorem laws_FnSegments.calls (k : Nat) (A0 : Option Addr) (c0 : Nat) (l0 : List Int) (r : Bool) (w : World) (hr0 : Kd.C (Kd.int .u8) w A0 l0.length l0) (hc0 : l0.length ≤ c0) (h : laws_FnSegments.f k l0 = some r) :
  Calls Try.prog 3 #[.slice A0 l0.length c0] w fun e w' => e = .returned (.bool r) ∧ Below w.heap.size w w' := by
 have hu27 := Try.underlying27
 have hu25 := Try.underlying25
 have HR0 := Aside0.mk hr0
 have HC0 := Aside0.mk hc0
 clear hr0 hc0
 have HB := Aside0.mk (Below.refl w.heap.size w)
 have H : ((laws_big.f l0).bind fun t357 => (if t357 = true then (some true) else ((spec_DrawHowMeet.f k l0).bind fun bt358 => ((impl_HowMeet.f k bt358.1 bt358.2.1 bt358.2.2.1 bt358.2.2.2.1 bt358.2.2.2.2.1 bt358.2.2.2.2.2.1 bt358.2.2.2.2.2.2.1 bt358.2.2.2.2.2.2.2).bind fun t368 => ((spec_HowMeet.f k bt358.1 bt358.2.1 bt358.2.2.1 bt358.2.2.2.1 bt358.2.2.2.2.1 bt358.2.2.2.2.2.1 bt358.2.2.2.2.2.2.1 bt358.2.2.2.2.2.2.2).bind fun t369 => (if t368 = t369 then ((impl_HowMeet.f k bt358.2.2.2.2.1 bt358.2.2.2.2.2.1 bt358.2.2.2.2.2.2.1 bt358.2.2.2.2.2.2.2 bt358.1 bt358.2.1 bt358.2.2.1 bt358.2.2.2.1).bind fun t370 => (if t368 = t370 then ((impl_TurnSegment.f bt358.1 bt358.2.1 bt358.2.2.1 bt358.2.2.2.1).bind fun bt371 => ((impl_HowMeet.f k bt371.1 bt371.2.1 bt371.2.2.1 bt371.2.2.2 bt358.2.2.2.2.1 bt358.2.2.2.2.2.1 bt358.2.2.2.2.2.2.1 bt358.2.2.2.2.2.2.2).bind fun t375 => (if t368 = t375 then ((impl_TurnSegment.f bt358.2.2.2.2.1 bt358.2.2.2.2.2.1 bt358.2.2.2.2.2.2.1 bt358.2.2.2.2.2.2.2).bind fun bt376 => ((impl_HowMeet.f k bt358.1 bt358.2.1 bt358.2.2.1 bt358.2.2.2.1 bt376.1 bt376.2.1 bt376.2.2.1 bt376.2.2.2).bind fun t380 => (laws_FnSegments.j0 k l0 t368 (t368 != t380) bt358.1 bt358.2.1 bt358.2.2.1 bt358.2.2.2.1 bt358.2.2.2.2.1 bt358.2.2.2.2.2.1 bt358.2.2.2.2.2.2.1 bt358.2.2.2.2.2.2.2))) else (laws_FnSegments.j0 k l0 t368 true bt358.1 bt358.2.1 bt358.2.2.1 bt358.2.2.2.1 bt358.2.2.2.2.1 bt358.2.2.2.2.2.1 bt358.2.2.2.2.2.2.1 bt358.2.2.2.2.2.2.2)))) else (laws_FnSegments.j0 k l0 t368 true bt358.1 bt358.2.1 bt358.2.2.1 bt358.2.2.2.1 bt358.2.2.2.2.1 bt358.2.2.2.2.2.1 bt358.2.2.2.2.2.2.1 bt358.2.2.2.2.2.2.2))) else (some false))))))) = some r := h
 clear h
 replace H := Option.bind_eq_some_iff.mp H
 obtain ⟨t357, A20, H⟩ := H
 replace H : (if t357 = true then (some true) else ((spec_DrawHowMeet.f k l0).bind fun bt358 => ((impl_HowMeet.f k bt358.1 bt358.2.1 bt358.2.2.1 bt358.2.2.2.1 bt358.2.2.2.2.1 bt358.2.2.2.2.2.1 bt358.2.2.2.2.2.2.1 bt358.2.2.2.2.2.2.2).bind fun t368 => ((spec_HowMeet.f k bt358.1 bt358.2.1 bt358.2.2.1 bt358.2.2.2.1 bt358.2.2.2.2.1 bt358.2.2.2.2.2.1 bt358.2.2.2.2.2.2.1 bt358.2.2.2.2.2.2.2).bind fun t369 => (if t368 = t369 then ((impl_HowMeet.f k bt358.2.2.2.2.1 bt358.2.2.2.2.2.1 bt358.2.2.2.2.2.2.1 bt358.2.2.2.2.2.2.2 bt358.1 bt358.2.1 bt358.2.2.1 bt358.2.2.2.1).bind fun t370 => (if t368 = t370 then ((impl_TurnSegment.f bt358.1 bt358.2.1 bt358.2.2.1 bt358.2.2.2.1).bind fun bt371 => ((impl_HowMeet.f k bt371.1 bt371.2.1 bt371.2.2.1 bt371.2.2.2 bt358.2.2.2.2.1 bt358.2.2.2.2.2.1 bt358.2.2.2.2.2.2.1 bt358.2.2.2.2.2.2.2).bind fun t375 => (if t368 = t375 then ((impl_TurnSegment.f bt358.2.2.2.2.1 bt358.2.2.2.2.2.1 bt358.2.2.2.2.2.2.1 bt358.2.2.2.2.2.2.2).bind fun bt376 => ((impl_HowMeet.f k bt358.1 bt358.2.1 bt358.2.2.1 bt358.2.2.2.1 bt376.1 bt376.2.1 bt376.2.2.1 bt376.2.2.2).bind fun t380 => (laws_FnSegments.j0 k l0 t368 (t368 != t380) bt358.1 bt358.2.1 bt358.2.2.1 bt358.2.2.2.1 bt358.2.2.2.2.1 bt358.2.2.2.2.2.1 bt358.2.2.2.2.2.2.1 bt358.2.2.2.2.2.2.2))) else (laws_FnSegments.j0 k l0 t368 true bt358.1 bt358.2.1 bt358.2.2.1 bt358.2.2.2.1 bt358.2.2.2.2.1 bt358.2.2.2.2.2.1 bt358.2.2.2.2.2.2.1 bt358.2.2.2.2.2.2.2)))) else (laws_FnSegments.j0 k l0 t368 true bt358.1 bt358.2.1 bt358.2.2.1 bt358.2.2.2.1 bt358.2.2.2.2.1 bt358.2.2.2.2.2.1 bt358.2.2.2.2.2.2.1 bt358.2.2.2.2.2.2.2))) else (some false)))))) = some r := H
 have A2 := Aside0.mk A20
 clear A20
 by_cases c3 : t357 = true
 ·subst c3
  have H1 : (some true) = some r := by rw [if_pos rfl] at H; exact H
  clear H
  have H := H1
  clear H1
  obtain rfl := Option.some.inj H
  go_enter Try.func3, Try.ntmps3
  go_wp2_with (first | ((with_reducible refine gate_callee (f := 4) rfl ?_); refine gL (some 9) Try.func4 #[.slice A0 l0.length c0] ?_; (with_reducible refine (laws_big.calls _ _ l0 true _ ?side1 ?side2 A2.out).mono ?_); (case side1 => exact cM HR0.out); (case side2 => exact HC0.out); rintro e w' ⟨rfl, ⟨nd, rfl⟩⟩; refine ⟨_, rfl, ?_⟩))
  go_ret
  exact ⟨by first | rfl | (simp [errW_none, errW_some] <;> rfl) | (simp [*, errW_none, errW_some] <;> rfl), eB0 HB⟩
 ·replace c3 := Bool.eq_false_iff.mpr c3
  subst c3
  have H1 : ((spec_DrawHowMeet.f k l0).bind fun bt358 => ((impl_HowMeet.f k bt358.1 bt358.2.1 bt358.2.2.1 bt358.2.2.2.1 bt358.2.2.2.2.1 bt358.2.2.2.2.2.1 bt358.2.2.2.2.2.2.1 bt358.2.2.2.2.2.2.2).bind fun t368 => ((spec_HowMeet.f k bt358.1 bt358.2.1 bt358.2.2.1 bt358.2.2.2.1 bt358.2.2.2.2.1 bt358.2.2.2.2.2.1 bt358.2.2.2.2.2.2.1 bt358.2.2.2.2.2.2.2).bind fun t369 => (if t368 = t369 then ((impl_HowMeet.f k bt358.2.2.2.2.1 bt358.2.2.2.2.2.1 bt358.2.2.2.2.2.2.1 bt358.2.2.2.2.2.2.2 bt358.1 bt358.2.1 bt358.2.2.1 bt358.2.2.2.1).bind fun t370 => (if t368 = t370 then ((impl_TurnSegment.f bt358.1 bt358.2.1 bt358.2.2.1 bt358.2.2.2.1).bind fun bt371 => ((impl_HowMeet.f k bt371.1 bt371.2.1 bt371.2.2.1 bt371.2.2.2 bt358.2.2.2.2.1 bt358.2.2.2.2.2.1 bt358.2.2.2.2.2.2.1 bt358.2.2.2.2.2.2.2).bind fun t375 => (if t368 = t375 then ((impl_TurnSegment.f bt358.2.2.2.2.1 bt358.2.2.2.2.2.1 bt358.2.2.2.2.2.2.1 bt358.2.2.2.2.2.2.2).bind fun bt376 => ((impl_HowMeet.f k bt358.1 bt358.2.1 bt358.2.2.1 bt358.2.2.2.1 bt376.1 bt376.2.1 bt376.2.2.1 bt376.2.2.2).bind fun t380 => (laws_FnSegments.j0 k l0 t368 (t368 != t380) bt358.1 bt358.2.1 bt358.2.2.1 bt358.2.2.2.1 bt358.2.2.2.2.1 bt358.2.2.2.2.2.1 bt358.2.2.2.2.2.2.1 bt358.2.2.2.2.2.2.2))) else (laws_FnSegments.j0 k l0 t368 true bt358.1 bt358.2.1 bt358.2.2.1 bt358.2.2.2.1 bt358.2.2.2.2.1 bt358.2.2.2.2.2.1 bt358.2.2.2.2.2.2.1 bt358.2.2.2.2.2.2.2)))) else (laws_FnSegments.j0 k l0 t368 true bt358.1 bt358.2.1 bt358.2.2.1 bt358.2.2.2.1 bt358.2.2.2.2.1 bt358.2.2.2.2.2.1 bt358.2.2.2.2.2.2.1 bt358.2.2.2.2.2.2.2))) else (some false))))) = some r := by rw [if_neg (show ¬ (false = true) by decide)] at H; exact H
  clear H
  have H := H1
  clear H1
  replace H := Option.bind_eq_some_iff.mp H
  obtain ⟨⟨t358, t359, t360, t361, t362, t363, t364, t365⟩, A40, H⟩ := H
  replace H : ((impl_HowMeet.f k t358 t359 t360 t361 t362 t363 t364 t365).bind fun t368 => ((spec_HowMeet.f k t358 t359 t360 t361 t362 t363 t364 t365).bind fun t369 => (if t368 = t369 then ((impl_HowMeet.f k t362 t363 t364 t365 t358 t359 t360 t361).bind fun t370 => (if t368 = t370 then ((impl_TurnSegment.f t358 t359 t360 t361).bind fun bt371 => ((impl_HowMeet.f k bt371.1 bt371.2.1 bt371.2.2.1 bt371.2.2.2 t362 t363 t364 t365).bind fun t375 => (if t368 = t375 then ((impl_TurnSegment.f t362 t363 t364 t365).bind fun bt376 => ((impl_HowMeet.f k t358 t359 t360 t361 bt376.1 bt376.2.1 bt376.2.2.1 bt376.2.2.2).bind fun t380 => (laws_FnSegments.j0 k l0 t368 (t368 != t380) t358 t359 t360 t361 t362 t363 t364 t365))) else (laws_FnSegments.j0 k l0 t368 true t358 t359 t360 t361 t362 t363 t364 t365)))) else (laws_FnSegments.j0 k l0 t368 true t358 t359 t360 t361 t362 t363 t364 t365))) else (some false)))) = some r := H
  have A4 := Aside0.mk A40
  clear A40
  replace H := Option.bind_eq_some_iff.mp H
  obtain ⟨t368, A50, H⟩ := H
  replace H : ((spec_HowMeet.f k t358 t359 t360 t361 t362 t363 t364 t365).bind fun t369 => (if t368 = t369 then ((impl_HowMeet.f k t362 t363 t364 t365 t358 t359 t360 t361).bind fun t370 => (if t368 = t370 then ((impl_TurnSegment.f t358 t359 t360 t361).bind fun bt371 => ((impl_HowMeet.f k bt371.1 bt371.2.1 bt371.2.2.1 bt371.2.2.2 t362 t363 t364 t365).bind fun t375 => (if t368 = t375 then ((impl_TurnSegment.f t362 t363 t364 t365).bind fun bt376 => ((impl_HowMeet.f k t358 t359 t360 t361 bt376.1 bt376.2.1 bt376.2.2.1 bt376.2.2.2).bind fun t380 => (laws_FnSegments.j0 k l0 t368 (t368 != t380) t358 t359 t360 t361 t362 t363 t364 t365))) else (laws_FnSegments.j0 k l0 t368 true t358 t359 t360 t361 t362 t363 t364 t365)))) else (laws_FnSegments.j0 k l0 t368 true t358 t359 t360 t361 t362 t363 t364 t365))) else (some false))) = some r := H
  have A5 := Aside0.mk A50
  clear A50
  replace H := Option.bind_eq_some_iff.mp H
  obtain ⟨t369, A60, H⟩ := H
  replace H : (if t368 = t369 then ((impl_HowMeet.f k t362 t363 t364 t365 t358 t359 t360 t361).bind fun t370 => (if t368 = t370 then ((impl_TurnSegment.f t358 t359 t360 t361).bind fun bt371 => ((impl_HowMeet.f k bt371.1 bt371.2.1 bt371.2.2.1 bt371.2.2.2 t362 t363 t364 t365).bind fun t375 => (if t368 = t375 then ((impl_TurnSegment.f t362 t363 t364 t365).bind fun bt376 => ((impl_HowMeet.f k t358 t359 t360 t361 bt376.1 bt376.2.1 bt376.2.2.1 bt376.2.2.2).bind fun t380 => (laws_FnSegments.j0 k l0 t368 (t368 != t380) t358 t359 t360 t361 t362 t363 t364 t365))) else (laws_FnSegments.j0 k l0 t368 true t358 t359 t360 t361 t362 t363 t364 t365)))) else (laws_FnSegments.j0 k l0 t368 true t358 t359 t360 t361 t362 t363 t364 t365))) else (some false)) = some r := H
  have A6 := Aside0.mk A60
  clear A60
  by_cases c7 : t368 = t369
  ·rw [if_pos c7] at H
   have c7b0 : (t368 == t369) = true := beq_iff_eq.mpr c7
   have c7b1 : (t368 != t369) = false := bne_eq_false_iff_eq.mpr c7
   clear c7
   have HC8 := Aside0.mk H
   clear H
   go_enter Try.func3, Try.ntmps3
   go_upto_region 7 with (first | ((with_reducible refine gate_callee (f := 4) rfl ?_); refine gL (some 9) Try.func4 #[.slice A0 l0.length c0] ?_; (with_reducible refine (laws_big.calls _ _ l0 false _ ?side1 ?side2 A2.out).mono ?_); (case side1 => exact cM HR0.out); (case side2 => exact HC0.out); rintro e w' ⟨rfl, ⟨nd, rfl⟩⟩; refine ⟨_, rfl, ?_⟩) | ((with_reducible refine gate_callee (f := 5) rfl ?_); refine gL (some 12) Try.func5 #[.slice A0 l0.length c0] ?_; (with_reducible refine (spec_DrawHowMeet.calls k _ _ l0 t358 t359 t360 t361 t362 t363 t364 t365 _ ?side1 ?side2 A4.out).mono ?_); (case side1 => exact cM HR0.out); (case side2 => exact HC0.out); rintro e w9 ⟨rfl, hb⟩; refine ⟨_, rfl, ?_⟩; replace HB := sB0 HB hb; (try clear hb)) | ((with_reducible refine gate_dst (N := 3) rfl ?_); refine box_event ?hg (N := 3) ?hd (cs := #[.int .i64 0, .int .i64 0, .int .i64 0, .int .i64 0]) (t := 27) ?hr ?_; (case hd => rfl); (case hg => rfl); (case hr => first | (go_simp; done) | (go_simp; rfl)); intro gb366 hg w10 hbox hb; have BK366 := Aside0.mk (hbox); have GW366 := zB0 HB hg; have GE366 := zB0 HB hg; replace HB := sB0 HB hb; clear hb hbox hg) | ((with_reducible refine gate_dst (N := 4) rfl ?_); refine box_event ?hg (N := 4) ?hd (cs := #[.int .i64 0, .int .i64 0, .int .i64 0, .int .i64 0]) (t := 27) ?hr ?_; (case hd => rfl); (case hg => rfl); (case hr => first | (go_simp; done) | (go_simp; rfl)); intro gb367 hg w11 hbox hb; have BK367 := Aside0.mk (hbox); have GW367 := zB1 HB hg GE366; have GE367 := zB1 HB hg GE366; have NB366_367 := nL BK366 hg; have NB367_366 := nG BK366 hg; replace BK366 := mB BK366 hb; replace HB := sB1 HB hb GE366; clear hb hbox hg; have hnb12 := NB366_367.out; have hnc12 := NB367_366.out; have hcz13_0 := bC BK366 0 (.int .i64 0); have hcz13_1 := bC BK366 1 (.int .i64 0); have hcz13_2 := bC BK366 2 (.int .i64 0); have hcz13_3 := bC BK366 3 (.int .i64 0); have hfz13_0 := blk_frozen BK366.out 0; have hfz13_1 := blk_frozen BK366.out 1; have hfz13_2 := blk_frozen BK366.out 2; have hfz13_3 := blk_frozen BK366.out 3; have hcz14_0 := bC BK367 0 (.int .i64 0); have hcz14_1 := bC BK367 1 (.int .i64 0); have hcz14_2 := bC BK367 2 (.int .i64 0); have hcz14_3 := bC BK367 3 (.int .i64 0); have hfz14_0 := blk_frozen BK367.out 0; have hfz14_1 := blk_frozen BK367.out 1; have hfz14_2 := blk_frozen BK367.out 2; have hfz14_3 := blk_frozen BK367.out 3) | ((with_reducible refine gate_callee (f := 6) rfl ?_); refine gL (some 17) Try.func6 #[.agg #[.int .i64 t358, .int .i64 t359, .int .i64 t360, .int .i64 t361], .agg #[.int .i64 t362, .int .i64 t363, .int .i64 t364, .int .i64 t365]] ?_; (with_reducible refine (impl_HowMeet.calls k t358 t359 t360 t361 t362 t363 t364 t365 t368 _ A5.out).mono ?_); rintro e w15 ⟨rfl, hb⟩; refine ⟨_, rfl, ?_⟩; replace BK366 := Aside0.mk (blk_below (g := gb366) (o := .cells #[.int .i64 t358, .int .i64 t359, .int .i64 t360, .int .i64 t361] 27 (0, 0)) (by (with_reducible repeat (first | refine blk_drewN ?_ _ | refine blk_drew ?_ | refine blk_alloc ?_ _)); refine blk_far ?_ NB366_367.out _; (with_reducible repeat (first | refine blk_drewN ?_ _ | refine blk_drew ?_ | refine blk_alloc ?_ _)); refine blk_far ?_ NB366_367.out _; (with_reducible repeat (first | refine blk_drewN ?_ _ | refine blk_drew ?_ | refine blk_alloc ?_ _)); refine blk_far ?_ NB366_367.out _; (with_reducible repeat (first | refine blk_drewN ?_ _ | refine blk_drew ?_ | refine blk_alloc ?_ _)); refine blk_far ?_ NB366_367.out _; (with_reducible repeat (first | refine blk_drewN ?_ _ | refine blk_drew ?_ | refine blk_alloc ?_ _)); refine blk_put (cs := #[.int .i64 t358, .int .i64 t359, .int .i64 t360, .int .i64 0]) ?_ 3 _ rfl; (with_reducible repeat (first | refine blk_drewN ?_ _ | refine blk_drew ?_ | refine blk_alloc ?_ _)); refine blk_put (cs := #[.int .i64 t358, .int .i64 t359, .int .i64 0, .int .i64 0]) ?_ 2 _ rfl; (with_reducible repeat (first | refine blk_drewN ?_ _ | refine blk_drew ?_ | refine blk_alloc ?_ _)); refine blk_put (cs := #[.int .i64 t358, .int .i64 0, .int .i64 0, .int .i64 0]) ?_ 1 _ rfl; (with_reducible repeat (first | refine blk_drewN ?_ _ | refine blk_drew ?_ | refine blk_alloc ?_ _)); refine blk_put (cs := #[.int .i64 0, .int .i64 0, .int .i64 0, .int .i64 0]) ?_ 0 _ rfl; (with_reducible repeat (first | refine blk_drewN ?_ _ | refine blk_drew ?_ | refine blk_alloc ?_ _)); exact BK366.out) hb); replace BK367 := Aside0.mk (blk_below (g := gb367) (o := .cells #[.int .i64 t362, .int .i64 t363, .int .i64 t364, .int .i64 t365] 27 (0, 0)) (by (with_reducible repeat (first | refine blk_drewN ?_ _ | refine blk_drew ?_ | refine blk_alloc ?_ _)); refine blk_put (cs := #[.int .i64 t362, .int .i64 t363, .int .i64 t364, .int .i64 0]) ?_ 3 _ rfl; (with_reducible repeat (first | refine blk_drewN ?_ _ | refine blk_drew ?_ | refine blk_alloc ?_ _)); refine blk_put (cs := #[.int .i64 t362, .int .i64 t363, .int .i64 0, .int .i64 0]) ?_ 2 _ rfl; (with_reducible repeat (first | refine blk_drewN ?_ _ | refine blk_drew ?_ | refine blk_alloc ?_ _)); refine blk_put (cs := #[.int .i64 t362, .int .i64 0, .int .i64 0, .int .i64 0]) ?_ 1 _ rfl; (with_reducible repeat (first | refine blk_drewN ?_ _ | refine blk_drew ?_ | refine blk_alloc ?_ _)); refine blk_put (cs := #[.int .i64 0, .int .i64 0, .int .i64 0, .int .i64 0]) ?_ 0 _ rfl; (with_reducible repeat (first | refine blk_drewN ?_ _ | refine blk_drew ?_ | refine blk_alloc ?_ _)); refine blk_far ?_ NB367_366.out _; (with_reducible repeat (first | refine blk_drewN ?_ _ | refine blk_drew ?_ | refine blk_alloc ?_ _)); refine blk_far ?_ NB367_366.out _; (with_reducible repeat (first | refine blk_drewN ?_ _ | refine blk_drew ?_ | refine blk_alloc ?_ _)); refine blk_far ?_ NB367_366.out _; (with_reducible repeat (first | refine blk_drewN ?_ _ | refine blk_drew ?_ | refine blk_alloc ?_ _)); refine blk_far ?_ NB367_366.out _; (with_reducible repeat (first | refine blk_drewN ?_ _ | refine blk_drew ?_ | refine blk_alloc ?_ _)); exact BK367.out) hb); replace HB := sB2 HB hb GE366 GE367; (try clear hb); have hcz16_0 := bC BK366 0 (.int .i64 t358); have hcz16_1 := bC BK366 1 (.int .i64 t359); have hcz16_2 := bC BK366 2 (.int .i64 t360); have hcz16_3 := bC BK366 3 (.int .i64 t361); have hfz16_0 := blk_frozen BK366.out 0; have hfz16_1 := blk_frozen BK366.out 1; have hfz16_2 := blk_frozen BK366.out 2; have hfz16_3 := blk_frozen BK366.out 3; have hcz17_0 := bC BK367 0 (.int .i64 t362); have hcz17_1 := bC BK367 1 (.int .i64 t363); have hcz17_2 := bC BK367 2 (.int .i64 t364); have hcz17_3 := bC BK367 3 (.int .i64 t365); have hfz17_0 := blk_frozen BK367.out 0; have hfz17_1 := blk_frozen BK367.out 1; have hfz17_2 := blk_frozen BK367.out 2; have hfz17_3 := blk_frozen BK367.out 3) | ((with_reducible refine gate_callee (f := 7) rfl ?_); refine gL (some 21) Try.func7 #[.agg #[.int .i64 t358, .int .i64 t359, .int .i64 t360, .int .i64 t361], .agg #[.int .i64 t362, .int .i64 t363, .int .i64 t364, .int .i64 t365]] ?_; (with_reducible refine (spec_HowMeet.calls k t358 t359 t360 t361 t362 t363 t364 t365 t369 _ A6.out).mono ?_); rintro e w18 ⟨rfl, hb⟩; refine ⟨_, rfl, ?_⟩; replace BK366 := mB BK366 hb; replace BK367 := mB BK367 hb; replace HB := sB2 HB hb GE366 GE367; (try clear hb)))
   (try simp only [Act.put, List.setIfInBounds_toArray, List.set_cons_zero, List.set_cons_succ])
   go_cut [43] (fun v43 wc => ∃ (kq : Nat) (x43_7 : Bool), v43 = .bool x43_7 ∧ Aside0 (laws_FnSegments.j0 kq l0 t368 x43_7 t358 t359 t360 t361 t362 t363 t364 t365 = some r) ∧ Aside0 (kq ≤ k) ∧ Aside0 (wc.heap[gb366]? = some (.cells #[.int .i64 t358, .int .i64 t359, .int .i64 t360, .int .i64 t361] 27 (0, 0))) ∧ Aside0 (wc.heap[gb367]? = some (.cells #[.int .i64 t362, .int .i64 t363, .int .i64 t364, .int .i64 t365] 27 (0, 0))) ∧ Aside0 (Below w.heap.size w wc))
   case first =>
    have H := HC8.out
    clear HC8
    replace H := Option.bind_eq_some_iff.mp H
    obtain ⟨t370, A190, H⟩ := H
    replace H : (if t368 = t370 then ((impl_TurnSegment.f t358 t359 t360 t361).bind fun bt371 => ((impl_HowMeet.f k bt371.1 bt371.2.1 bt371.2.2.1 bt371.2.2.2 t362 t363 t364 t365).bind fun t375 => (if t368 = t375 then ((impl_TurnSegment.f t362 t363 t364 t365).bind fun bt376 => ((impl_HowMeet.f k t358 t359 t360 t361 bt376.1 bt376.2.1 bt376.2.2.1 bt376.2.2.2).bind fun t380 => (laws_FnSegments.j0 k l0 t368 (t368 != t380) t358 t359 t360 t361 t362 t363 t364 t365))) else (laws_FnSegments.j0 k l0 t368 true t358 t359 t360 t361 t362 t363 t364 t365)))) else (laws_FnSegments.j0 k l0 t368 true t358 t359 t360 t361 t362 t363 t364 t365)) = some r := H
    have A19 := Aside0.mk A190
    clear A190
    by_cases c20 : t368 = t370
    ·rw [if_pos c20] at H
     have c20b0 : (t368 == t370) = true := beq_iff_eq.mpr c20
     have c20b1 : (t368 != t370) = false := bne_eq_false_iff_eq.mpr c20
     clear c20
     (first | rw [c20b0] | (simp only [i64_w, i32_w]; rw [c20b0]) | skip)
     replace H := Option.bind_eq_some_iff.mp H
     obtain ⟨⟨t371, t372, t373, t374⟩, A210, H⟩ := H
     replace H : ((impl_HowMeet.f k t371 t372 t373 t374 t362 t363 t364 t365).bind fun t375 => (if t368 = t375 then ((impl_TurnSegment.f t362 t363 t364 t365).bind fun bt376 => ((impl_HowMeet.f k t358 t359 t360 t361 bt376.1 bt376.2.1 bt376.2.2.1 bt376.2.2.2).bind fun t380 => (laws_FnSegments.j0 k l0 t368 (t368 != t380) t358 t359 t360 t361 t362 t363 t364 t365))) else (laws_FnSegments.j0 k l0 t368 true t358 t359 t360 t361 t362 t363 t364 t365))) = some r := H
     have A21 := Aside0.mk A210
     clear A210
     replace H := Option.bind_eq_some_iff.mp H
     obtain ⟨t375, A220, H⟩ := H
     replace H : (if t368 = t375 then ((impl_TurnSegment.f t362 t363 t364 t365).bind fun bt376 => ((impl_HowMeet.f k t358 t359 t360 t361 bt376.1 bt376.2.1 bt376.2.2.1 bt376.2.2.2).bind fun t380 => (laws_FnSegments.j0 k l0 t368 (t368 != t380) t358 t359 t360 t361 t362 t363 t364 t365))) else (laws_FnSegments.j0 k l0 t368 true t358 t359 t360 t361 t362 t363 t364 t365)) = some r := H
     have A22 := Aside0.mk A220
     clear A220
     by_cases c23 : t368 = t375
     ·rw [if_pos c23] at H
      have c23b0 : (t368 == t375) = true := beq_iff_eq.mpr c23
      have c23b1 : (t368 != t375) = false := bne_eq_false_iff_eq.mpr c23
      clear c23
      replace H := Option.bind_eq_some_iff.mp H
      obtain ⟨⟨t376, t377, t378, t379⟩, A240, H⟩ := H
      replace H : ((impl_HowMeet.f k t358 t359 t360 t361 t376 t377 t378 t379).bind fun t380 => (laws_FnSegments.j0 k l0 t368 (t368 != t380) t358 t359 t360 t361 t362 t363 t364 t365)) = some r := H
      have A24 := Aside0.mk A240
      clear A240
      replace H := Option.bind_eq_some_iff.mp H
      obtain ⟨t380, A250, H⟩ := H
      replace H : (laws_FnSegments.j0 k l0 t368 (t368 != t380) t358 t359 t360 t361 t362 t363 t364 t365) = some r := H
      have A25 := Aside0.mk A250
      clear A250
      have H' := Aside0.mk H
      clear H
      try go_wp2
      replace BK366 := Aside0.mk (blk_drew BK366.out)
      replace BK367 := Aside0.mk (blk_drew BK367.out)
      replace HB := Aside0.mk (below_drew1 HB.out)
      refine start_ (n := 21) (S := fun w' => w'.cell? ⟨gb367, 0, none⟩ = some (.int .i64 t362) ∧ w'.cell? ⟨gb367, 1, none⟩ = some (.int .i64 t363) ∧ w'.cell? ⟨gb367, 2, none⟩ = some (.int .i64 t364) ∧ w'.cell? ⟨gb367, 3, none⟩ = some (.int .i64 t365) ∧ w'.cell? ⟨gb366, 0, none⟩ = some (.int .i64 t358) ∧ w'.cell? ⟨gb366, 1, none⟩ = some (.int .i64 t359) ∧ w'.cell? ⟨gb366, 2, none⟩ = some (.int .i64 t360) ∧ w'.cell? ⟨gb366, 3, none⟩ = some (.int .i64 t361)) (ds := []) #[false, false, false, false, false, false, false, false, false, false, false, false, false, false, false, false, false, false, false, false, false] (by kernel_rfl) rfl rfl ⟨(blk_cell BK367.out 0).trans rfl, (blk_cell BK367.out 1).trans rfl, (blk_cell BK367.out 2).trans rfl, (blk_cell BK367.out 3).trans rfl, (blk_cell BK366.out 0).trans rfl, (blk_cell BK366.out 1).trans rfl, (blk_cell BK366.out 2).trans rfl, (blk_cell BK366.out 3).trans rfl⟩ (fun hHeld => ?_); refine with_tabW laws_FnSegments.tab7 laws_FnSegments.bits7 (fun HT_ HW_ => ?_)
      generalize w18.drew = w26 at BK366 BK367 HB hHeld ⊢
      refine pA HT_.out 0 23 ?_
      refine tA8 HT_.out HW_.out 1 24 hHeld ?_
      refine tA8 HT_.out HW_.out 2 25 hHeld ?_
      refine one_ (i := 3) (N := some 26) #[true, true, true, true, false, false, false, false, false, false, false, false, false, false, false, false, false, false, false, false, false] rfl rfl (one_of HT_.out (by kernel_rfl)) (by decide) (fun K hK => ?_)
      refine gS Try.func6 #[.agg #[.int .i64 t362, .int .i64 t363, .int .i64 t364, .int .i64 t365], .agg #[.int .i64 t358, .int .i64 t359, .int .i64 t360, .int .i64 t361]] ?_
      with_reducible refine (impl_HowMeet.calls k t362 t363 t364 t365 t358 t359 t360 t361 t370 _ A19.out).mono ?_
      rintro e w27 ⟨rfl, hb⟩
      refine ⟨_, rfl, ?_⟩
      replace BK366 := mB BK366 hb
      replace BK367 := mB BK367 hb
      replace HB := sB2 HB hb GE366 GE367
      (try clear hb)
      (try clear hb2)
      (try clear hk)
      (try clear hi)
      refine hK.out _ _ ⟨(blk_cell BK367.out 0).trans rfl, (blk_cell BK367.out 1).trans rfl, (blk_cell BK367.out 2).trans rfl, (blk_cell BK367.out 3).trans rfl, (blk_cell BK366.out 0).trans rfl, (blk_cell BK366.out 1).trans rfl, (blk_cell BK366.out 2).trans rfl, (blk_cell BK366.out 3).trans rfl⟩ (fun hHeld => ?_)
      clear hK K
      refine norm_ (a' := ?_) ?_ ?_
      rotate_left
      ·show Act.put _ (some 26) _ = _
       simp only [Act.put, List.setIfInBounds_toArray, List.set_cons_zero, List.set_cons_succ, i64_w, i32_w]
       rfl
      refine pA HT_.out 4 27 ?_
      refine pA HT_.out 5 28 ?_
      refine pA HT_.out 6 29 ?_
      refine tA8 HT_.out HW_.out 7 30 hHeld ?_
      refine tA8 HT_.out HW_.out 9 32 hHeld ?_
      refine one_ (i := 8) (N := some 31) #[true, true, true, true, true, true, true, true, true, true, false, false, false, false, false, false, false, false, false, false, false] rfl rfl (one_of HT_.out (by kernel_rfl)) (by decide) (fun K hK => ?_)
      refine gS Try.func8 #[.agg #[.int .i64 t358, .int .i64 t359, .int .i64 t360, .int .i64 t361]] ?_
      with_reducible refine (impl_TurnSegment.calls t358 t359 t360 t361 t371 t372 t373 t374 _ A21.out).mono ?_
      rintro e w28 ⟨rfl, hb⟩
      refine ⟨_, rfl, ?_⟩
      replace BK366 := mB BK366 hb
      replace BK367 := mB BK367 hb
      replace HB := sB2 HB hb GE366 GE367
      (try clear hb)
      (try clear hb2)
      (try clear hk)
      (try clear hi)
      refine hK.out _ _ ⟨(blk_cell BK367.out 0).trans rfl, (blk_cell BK367.out 1).trans rfl, (blk_cell BK367.out 2).trans rfl, (blk_cell BK367.out 3).trans rfl, (blk_cell BK366.out 0).trans rfl, (blk_cell BK366.out 1).trans rfl, (blk_cell BK366.out 2).trans rfl, (blk_cell BK366.out 3).trans rfl⟩ (fun hHeld => ?_)
      clear hK K
      refine norm_ (a' := ?_) ?_ ?_
      rotate_left
      ·show Act.put _ (some 31) _ = _
       simp only [Act.put, List.setIfInBounds_toArray, List.set_cons_zero, List.set_cons_succ, i64_w, i32_w]
       rfl
      refine one_ (i := 10) (N := some 33) #[true, true, true, true, true, true, true, true, true, true, true, false, false, false, false, false, false, false, false, false, false] rfl rfl (one_of HT_.out (by kernel_rfl)) (by decide) (fun K hK => ?_)
      refine gS Try.func6 #[.agg #[.int .i64 t371, .int .i64 t372, .int .i64 t373, .int .i64 t374], .agg #[.int .i64 t362, .int .i64 t363, .int .i64 t364, .int .i64 t365]] ?_
      with_reducible refine (impl_HowMeet.calls k t371 t372 t373 t374 t362 t363 t364 t365 t375 _ A22.out).mono ?_
      rintro e w29 ⟨rfl, hb⟩
      refine ⟨_, rfl, ?_⟩
      replace BK366 := mB BK366 hb
      replace BK367 := mB BK367 hb
      replace HB := sB2 HB hb GE366 GE367
      (try clear hb)
      (try clear hb2)
      (try clear hk)
      (try clear hi)
      refine hK.out _ _ ⟨(blk_cell BK367.out 0).trans rfl, (blk_cell BK367.out 1).trans rfl, (blk_cell BK367.out 2).trans rfl, (blk_cell BK367.out 3).trans rfl, (blk_cell BK366.out 0).trans rfl, (blk_cell BK366.out 1).trans rfl, (blk_cell BK366.out 2).trans rfl, (blk_cell BK366.out 3).trans rfl⟩ (fun hHeld => ?_)
      clear hK K
      refine norm_ (a' := ?_) ?_ ?_
      rotate_left
      ·show Act.put _ (some 33) _ = _
       simp only [Act.put, List.setIfInBounds_toArray, List.set_cons_zero, List.set_cons_succ, i64_w, i32_w]
       rfl
      refine pA HT_.out 11 34 ?_
      refine pA HT_.out 12 35 ?_
      refine pA HT_.out 13 36 ?_
      refine pA HT_.out 14 37 ?_
      refine tA8 HT_.out HW_.out 15 38 hHeld ?_
      refine tA8 HT_.out HW_.out 16 39 hHeld ?_
      refine one_ (i := 17) (N := some 40) #[true, true, true, true, true, true, true, true, true, true, true, true, true, true, true, true, true, true, false, false, false] rfl rfl (one_of HT_.out (by kernel_rfl)) (by decide) (fun K hK => ?_)
      refine gS Try.func8 #[.agg #[.int .i64 t362, .int .i64 t363, .int .i64 t364, .int .i64 t365]] ?_
      with_reducible refine (impl_TurnSegment.calls t362 t363 t364 t365 t376 t377 t378 t379 _ A24.out).mono ?_
      rintro e w30 ⟨rfl, hb⟩
      refine ⟨_, rfl, ?_⟩
      replace BK366 := mB BK366 hb
      replace BK367 := mB BK367 hb
      replace HB := sB2 HB hb GE366 GE367
      (try clear hb)
      (try clear hb2)
      (try clear hk)
      (try clear hi)
      refine hK.out _ _ ⟨(blk_cell BK367.out 0).trans rfl, (blk_cell BK367.out 1).trans rfl, (blk_cell BK367.out 2).trans rfl, (blk_cell BK367.out 3).trans rfl, (blk_cell BK366.out 0).trans rfl, (blk_cell BK366.out 1).trans rfl, (blk_cell BK366.out 2).trans rfl, (blk_cell BK366.out 3).trans rfl⟩ (fun hHeld => ?_)
      clear hK K
      refine norm_ (a' := ?_) ?_ ?_
      rotate_left
      ·show Act.put _ (some 40) _ = _
       simp only [Act.put, List.setIfInBounds_toArray, List.set_cons_zero, List.set_cons_succ, i64_w, i32_w]
       rfl
      refine one_ (i := 18) (N := some 41) #[true, true, true, true, true, true, true, true, true, true, true, true, true, true, true, true, true, true, true, false, false] rfl rfl (one_of HT_.out (by kernel_rfl)) (by decide) (fun K hK => ?_)
      refine gS Try.func6 #[.agg #[.int .i64 t358, .int .i64 t359, .int .i64 t360, .int .i64 t361], .agg #[.int .i64 t376, .int .i64 t377, .int .i64 t378, .int .i64 t379]] ?_
      with_reducible refine (impl_HowMeet.calls k t358 t359 t360 t361 t376 t377 t378 t379 t380 _ A25.out).mono ?_
      rintro e w31 ⟨rfl, hb⟩
      refine ⟨_, rfl, ?_⟩
      replace BK366 := mB BK366 hb
      replace BK367 := mB BK367 hb
      replace HB := sB2 HB hb GE366 GE367
      (try clear hb)
      (try clear hb2)
      (try clear hk)
      (try clear hi)
      refine hK.out _ _ ⟨(blk_cell BK367.out 0).trans rfl, (blk_cell BK367.out 1).trans rfl, (blk_cell BK367.out 2).trans rfl, (blk_cell BK367.out 3).trans rfl, (blk_cell BK366.out 0).trans rfl, (blk_cell BK366.out 1).trans rfl, (blk_cell BK366.out 2).trans rfl, (blk_cell BK366.out 3).trans rfl⟩ (fun hHeld => ?_)
      clear hK K
      refine norm_ (a' := ?_) ?_ ?_
      rotate_left
      ·show Act.put _ (some 41) _ = _
       simp only [Act.put, List.setIfInBounds_toArray, List.set_cons_zero, List.set_cons_succ, i64_w, i32_w]
       rfl
      refine pA HT_.out 19 42 ?_
      refine pA HT_.out 20 43 ?_
      refine done_ (done_of HT_.out (by kernel_rfl)) ?_
      try go_wp2
      go_meet
      case rel => exact ⟨_, ((t368 != t380)), (by first | rfl | (simp; done) | (simp [*]; done)), H', ⟨by first | omega | exact Nat.le_refl _⟩, ⟨by (with_reducible repeat (first | refine blk_drewN ?_ _ | refine blk_drew ?_ | refine blk_alloc ?_ _)); exact BK366.out⟩, ⟨by (with_reducible repeat (first | refine blk_drewN ?_ _ | refine blk_drew ?_ | refine blk_alloc ?_ _)); exact BK367.out⟩, ⟨eB2 HB GE366 GE367⟩⟩
     ·rw [if_neg c23] at H
      have c23b0 : (t368 == t375) = false := beq_eq_false_iff_ne.mpr c23
      have c23b1 : (t368 != t375) = true := bne_iff_ne.mpr c23
      have H' := Aside0.mk H
      clear H
      try go_wp2
      replace BK366 := Aside0.mk (blk_drew BK366.out)
      replace BK367 := Aside0.mk (blk_drew BK367.out)
      replace HB := Aside0.mk (below_drew1 HB.out)
      refine start_ (n := 21) (S := fun w' => w'.cell? ⟨gb367, 0, none⟩ = some (.int .i64 t362) ∧ w'.cell? ⟨gb367, 1, none⟩ = some (.int .i64 t363) ∧ w'.cell? ⟨gb367, 2, none⟩ = some (.int .i64 t364) ∧ w'.cell? ⟨gb367, 3, none⟩ = some (.int .i64 t365) ∧ w'.cell? ⟨gb366, 0, none⟩ = some (.int .i64 t358) ∧ w'.cell? ⟨gb366, 1, none⟩ = some (.int .i64 t359) ∧ w'.cell? ⟨gb366, 2, none⟩ = some (.int .i64 t360) ∧ w'.cell? ⟨gb366, 3, none⟩ = some (.int .i64 t361)) (ds := []) #[false, false, false, false, false, false, false, false, false, false, false, false, false, false, false, false, false, false, false, false, false] (by kernel_rfl) rfl rfl ⟨(blk_cell BK367.out 0).trans rfl, (blk_cell BK367.out 1).trans rfl, (blk_cell BK367.out 2).trans rfl, (blk_cell BK367.out 3).trans rfl, (blk_cell BK366.out 0).trans rfl, (blk_cell BK366.out 1).trans rfl, (blk_cell BK366.out 2).trans rfl, (blk_cell BK366.out 3).trans rfl⟩ (fun hHeld => ?_); refine with_tabW laws_FnSegments.tab7 laws_FnSegments.bits7 (fun HT_ HW_ => ?_)
      generalize w18.drew = w32 at BK366 BK367 HB hHeld ⊢
      refine pA HT_.out 0 23 ?_
      refine tA8 HT_.out HW_.out 1 24 hHeld ?_
      refine tA8 HT_.out HW_.out 2 25 hHeld ?_
      refine one_ (i := 3) (N := some 26) #[true, true, true, true, false, false, false, false, false, false, false, false, false, false, false, false, false, false, false, false, false] rfl rfl (one_of HT_.out (by kernel_rfl)) (by decide) (fun K hK => ?_)
      refine gS Try.func6 #[.agg #[.int .i64 t362, .int .i64 t363, .int .i64 t364, .int .i64 t365], .agg #[.int .i64 t358, .int .i64 t359, .int .i64 t360, .int .i64 t361]] ?_
      with_reducible refine (impl_HowMeet.calls k t362 t363 t364 t365 t358 t359 t360 t361 t370 _ A19.out).mono ?_
      rintro e w33 ⟨rfl, hb⟩
      refine ⟨_, rfl, ?_⟩
      replace BK366 := mB BK366 hb
      replace BK367 := mB BK367 hb
      replace HB := sB2 HB hb GE366 GE367
      (try clear hb)
      (try clear hb2)
      (try clear hk)
      (try clear hi)
      refine hK.out _ _ ⟨(blk_cell BK367.out 0).trans rfl, (blk_cell BK367.out 1).trans rfl, (blk_cell BK367.out 2).trans rfl, (blk_cell BK367.out 3).trans rfl, (blk_cell BK366.out 0).trans rfl, (blk_cell BK366.out 1).trans rfl, (blk_cell BK366.out 2).trans rfl, (blk_cell BK366.out 3).trans rfl⟩ (fun hHeld => ?_)
      clear hK K
      refine norm_ (a' := ?_) ?_ ?_
      rotate_left
      ·show Act.put _ (some 26) _ = _
       simp only [Act.put, List.setIfInBounds_toArray, List.set_cons_zero, List.set_cons_succ, i64_w, i32_w]
       rfl
      refine pA HT_.out 4 27 ?_
      refine pA HT_.out 5 28 ?_
      refine pA HT_.out 6 29 ?_
      refine tA8 HT_.out HW_.out 7 30 hHeld ?_
      refine tA8 HT_.out HW_.out 9 32 hHeld ?_
      refine one_ (i := 8) (N := some 31) #[true, true, true, true, true, true, true, true, true, true, false, false, false, false, false, false, false, false, false, false, false] rfl rfl (one_of HT_.out (by kernel_rfl)) (by decide) (fun K hK => ?_)
      refine gS Try.func8 #[.agg #[.int .i64 t358, .int .i64 t359, .int .i64 t360, .int .i64 t361]] ?_
      with_reducible refine (impl_TurnSegment.calls t358 t359 t360 t361 t371 t372 t373 t374 _ A21.out).mono ?_
      rintro e w34 ⟨rfl, hb⟩
      refine ⟨_, rfl, ?_⟩
      replace BK366 := mB BK366 hb
      replace BK367 := mB BK367 hb
      replace HB := sB2 HB hb GE366 GE367
      (try clear hb)
      (try clear hb2)
      (try clear hk)
      (try clear hi)
      refine hK.out _ _ ⟨(blk_cell BK367.out 0).trans rfl, (blk_cell BK367.out 1).trans rfl, (blk_cell BK367.out 2).trans rfl, (blk_cell BK367.out 3).trans rfl, (blk_cell BK366.out 0).trans rfl, (blk_cell BK366.out 1).trans rfl, (blk_cell BK366.out 2).trans rfl, (blk_cell BK366.out 3).trans rfl⟩ (fun hHeld => ?_)
      clear hK K
      refine norm_ (a' := ?_) ?_ ?_
      rotate_left
      ·show Act.put _ (some 31) _ = _
       simp only [Act.put, List.setIfInBounds_toArray, List.set_cons_zero, List.set_cons_succ, i64_w, i32_w]
       rfl
      refine one_ (i := 10) (N := some 33) #[true, true, true, true, true, true, true, true, true, true, true, false, false, false, false, false, false, false, false, false, false] rfl rfl (one_of HT_.out (by kernel_rfl)) (by decide) (fun K hK => ?_)
      refine gS Try.func6 #[.agg #[.int .i64 t371, .int .i64 t372, .int .i64 t373, .int .i64 t374], .agg #[.int .i64 t362, .int .i64 t363, .int .i64 t364, .int .i64 t365]] ?_
      with_reducible refine (impl_HowMeet.calls k t371 t372 t373 t374 t362 t363 t364 t365 t375 _ A22.out).mono ?_
      rintro e w35 ⟨rfl, hb⟩
      refine ⟨_, rfl, ?_⟩
      replace BK366 := mB BK366 hb
      replace BK367 := mB BK367 hb
      replace HB := sB2 HB hb GE366 GE367
      (try clear hb)
      (try clear hb2)
      (try clear hk)
      (try clear hi)
      refine hK.out _ _ ⟨(blk_cell BK367.out 0).trans rfl, (blk_cell BK367.out 1).trans rfl, (blk_cell BK367.out 2).trans rfl, (blk_cell BK367.out 3).trans rfl, (blk_cell BK366.out 0).trans rfl, (blk_cell BK366.out 1).trans rfl, (blk_cell BK366.out 2).trans rfl, (blk_cell BK366.out 3).trans rfl⟩ (fun hHeld => ?_)
      clear hK K
      refine norm_ (a' := ?_) ?_ ?_
      rotate_left
      ·show Act.put _ (some 33) _ = _
       simp only [Act.put, List.setIfInBounds_toArray, List.set_cons_zero, List.set_cons_succ, i64_w, i32_w]
       rfl
      refine pA HT_.out 11 34 ?_
      refine pA HT_.out 12 35 ?_
      refine pA HT_.out 13 36 ?_
      refine pU HT_.out 14 37 ?_
      refine pU HT_.out 15 38 ?_
      refine pU HT_.out 16 39 ?_
      refine pU HT_.out 17 40 ?_
      refine pU HT_.out 18 41 ?_
      refine pU HT_.out 19 42 ?_
      refine pA HT_.out 20 43 ?_
      refine done_ (done_of HT_.out (by kernel_rfl)) ?_
      try go_wp2
      go_meet
      case rel => exact ⟨_, (true), (by first | rfl | (simp; done) | (simp [*]; done)), H', ⟨by first | omega | exact Nat.le_refl _⟩, ⟨by (with_reducible repeat (first | refine blk_drewN ?_ _ | refine blk_drew ?_ | refine blk_alloc ?_ _)); exact BK366.out⟩, ⟨by (with_reducible repeat (first | refine blk_drewN ?_ _ | refine blk_drew ?_ | refine blk_alloc ?_ _)); exact BK367.out⟩, ⟨eB2 HB GE366 GE367⟩⟩
    ·rw [if_neg c20] at H
     have c20b0 : (t368 == t370) = false := beq_eq_false_iff_ne.mpr c20
     have c20b1 : (t368 != t370) = true := bne_iff_ne.mpr c20
     (first | rw [c20b0] | (simp only [i64_w, i32_w]; rw [c20b0]) | skip)
     have H' := Aside0.mk H
     clear H
     try go_wp2
     replace BK366 := Aside0.mk (blk_drew BK366.out)
     replace BK367 := Aside0.mk (blk_drew BK367.out)
     replace HB := Aside0.mk (below_drew1 HB.out)
     refine start_ (n := 21) (S := fun w' => w'.cell? ⟨gb367, 0, none⟩ = some (.int .i64 t362) ∧ w'.cell? ⟨gb367, 1, none⟩ = some (.int .i64 t363) ∧ w'.cell? ⟨gb367, 2, none⟩ = some (.int .i64 t364) ∧ w'.cell? ⟨gb367, 3, none⟩ = some (.int .i64 t365) ∧ w'.cell? ⟨gb366, 0, none⟩ = some (.int .i64 t358) ∧ w'.cell? ⟨gb366, 1, none⟩ = some (.int .i64 t359) ∧ w'.cell? ⟨gb366, 2, none⟩ = some (.int .i64 t360) ∧ w'.cell? ⟨gb366, 3, none⟩ = some (.int .i64 t361)) (ds := []) #[false, false, false, false, false, false, false, false, false, false, false, false, false, false, false, false, false, false, false, false, false] (by kernel_rfl) rfl rfl ⟨(blk_cell BK367.out 0).trans rfl, (blk_cell BK367.out 1).trans rfl, (blk_cell BK367.out 2).trans rfl, (blk_cell BK367.out 3).trans rfl, (blk_cell BK366.out 0).trans rfl, (blk_cell BK366.out 1).trans rfl, (blk_cell BK366.out 2).trans rfl, (blk_cell BK366.out 3).trans rfl⟩ (fun hHeld => ?_); refine with_tabW laws_FnSegments.tab7 laws_FnSegments.bits7 (fun HT_ HW_ => ?_)
     generalize w18.drew = w36 at BK366 BK367 HB hHeld ⊢
     refine pA HT_.out 0 23 ?_
     refine tA8 HT_.out HW_.out 1 24 hHeld ?_
     refine tA8 HT_.out HW_.out 2 25 hHeld ?_
     refine one_ (i := 3) (N := some 26) #[true, true, true, true, false, false, false, false, false, false, false, false, false, false, false, false, false, false, false, false, false] rfl rfl (one_of HT_.out (by kernel_rfl)) (by decide) (fun K hK => ?_)
     refine gS Try.func6 #[.agg #[.int .i64 t362, .int .i64 t363, .int .i64 t364, .int .i64 t365], .agg #[.int .i64 t358, .int .i64 t359, .int .i64 t360, .int .i64 t361]] ?_
     with_reducible refine (impl_HowMeet.calls k t362 t363 t364 t365 t358 t359 t360 t361 t370 _ A19.out).mono ?_
     rintro e w37 ⟨rfl, hb⟩
     refine ⟨_, rfl, ?_⟩
     replace BK366 := mB BK366 hb
     replace BK367 := mB BK367 hb
     replace HB := sB2 HB hb GE366 GE367
     (try clear hb)
     (try clear hb2)
     (try clear hk)
     (try clear hi)
     refine hK.out _ _ ⟨(blk_cell BK367.out 0).trans rfl, (blk_cell BK367.out 1).trans rfl, (blk_cell BK367.out 2).trans rfl, (blk_cell BK367.out 3).trans rfl, (blk_cell BK366.out 0).trans rfl, (blk_cell BK366.out 1).trans rfl, (blk_cell BK366.out 2).trans rfl, (blk_cell BK366.out 3).trans rfl⟩ (fun hHeld => ?_)
     clear hK K
     refine norm_ (a' := ?_) ?_ ?_
     rotate_left
     ·show Act.put _ (some 26) _ = _
      simp only [Act.put, List.setIfInBounds_toArray, List.set_cons_zero, List.set_cons_succ, i64_w, i32_w]
      rfl
     refine pA HT_.out 4 27 ?_
     refine pA HT_.out 5 28 ?_
     refine pU HT_.out 6 29 ?_
     refine pU HT_.out 7 30 ?_
     refine pU HT_.out 8 31 ?_
     refine pU HT_.out 9 32 ?_
     refine pU HT_.out 10 33 ?_
     refine pU HT_.out 11 34 ?_
     refine pA HT_.out 12 35 ?_
     refine pA HT_.out 13 36 ?_
     refine pU HT_.out 14 37 ?_
     refine pU HT_.out 15 38 ?_
     refine pU HT_.out 16 39 ?_
     refine pU HT_.out 17 40 ?_
     refine pU HT_.out 18 41 ?_
     refine pU HT_.out 19 42 ?_
     refine pA HT_.out 20 43 ?_
     refine done_ (done_of HT_.out (by kernel_rfl)) ?_
     try go_wp2
     go_meet
     case rel => exact ⟨_, (true), (by first | rfl | (simp; done) | (simp [*]; done)), H', ⟨by first | omega | exact Nat.le_refl _⟩, ⟨by (with_reducible repeat (first | refine blk_drewN ?_ _ | refine blk_drew ?_ | refine blk_alloc ?_ _)); exact BK366.out⟩, ⟨by (with_reducible repeat (first | refine blk_drewN ?_ _ | refine blk_drew ?_ | refine blk_alloc ?_ _)); exact BK367.out⟩, ⟨eB2 HB GE366 GE367⟩⟩
   case rest =>
    clear HC8
    try clear c2
    try clear p2
    try clear c6
    try clear c8
    try clear c20
    try clear c20b0
    try clear c20b1
    try clear c23
    try clear c23b0
    try clear c23b1
    obtain ⟨kq, x43_7, rfl, HA, HJ7, BK366, BK367, HB⟩ := hcut
    cases kq with
    | zero => exact absurd HA.out (by simp [laws_FnSegments.j0])
    | succ kj7 =>
     have H := HA.out
     clear HA
     simp only [laws_FnSegments.j0] at H
     by_cases c38 : x43_7 = true
     ·subst c38
      have H1 : (some false) = some r := by rw [if_pos rfl] at H; exact H
      clear H
      have H := H1
      clear H1
      obtain rfl := Option.some.inj H
      go_wp2
      go_ret
      exact ⟨by first | rfl | (simp [errW_none, errW_some] <;> rfl) | (simp [*, errW_none, errW_some] <;> rfl), eB2 HB GE366 GE367⟩
     ·replace c38 := Bool.eq_false_iff.mpr c38
      subst c38
      have H1 : ((impl_IsSegment.f t358 t359 t360 t361).bind fun t381 => (if t381 = true then ((impl_HowMeet.f kj7 t358 t359 t360 t361 t358 t359 t360 t361).bind fun t382 => (if t382 = 3 then ((impl_IsOn.f kj7 t358 t359 t360 t361 t358 t359).bind fun t383 => (if t383 = true then ((impl_IsOn.f kj7 t358 t359 t360 t361 t360 t361).bind fun t384 => (if t384 = true then ((impl_IsBetween.f kj7 t358 t359 t360 t361 t358 t359).bind fun t385 => (laws_FnSegments.j1 kj7 l0 t368 t385 t358 t359 t360 t361 t362 t363 t364 t365)) else (laws_FnSegments.j1 kj7 l0 t368 true t358 t359 t360 t361 t362 t363 t364 t365))) else (laws_FnSegments.j1 kj7 l0 t368 true t358 t359 t360 t361 t362 t363 t364 t365))) else (laws_FnSegments.j1 kj7 l0 t368 true t358 t359 t360 t361 t362 t363 t364 t365))) else (laws_FnSegments.j1 kj7 l0 t368 false t358 t359 t360 t361 t362 t363 t364 t365))) = some r := by rw [if_neg (show ¬ (false = true) by decide)] at H; exact H
      clear H
      have H := H1
      clear H1
      have HC39 := Aside0.mk H
      clear H
      go_upto_region 9 with (fail)
      go_cut [71] (fun v71 wc => ∃ (kq : Nat) (x71_38 : Bool), v71 = .bool x71_38 ∧ Aside0 (laws_FnSegments.j1 kq l0 t368 x71_38 t358 t359 t360 t361 t362 t363 t364 t365 = some r) ∧ Aside0 (kq ≤ kj7) ∧ Aside0 (wc.heap[gb366]? = some (.cells #[.int .i64 t358, .int .i64 t359, .int .i64 t360, .int .i64 t361] 27 (0, 0))) ∧ Aside0 (wc.heap[gb367]? = some (.cells #[.int .i64 t362, .int .i64 t363, .int .i64 t364, .int .i64 t365] 27 (0, 0))) ∧ Aside0 (Below w.heap.size w wc))
      case first =>
       have H := HC39.out
       clear HC39
       replace H := Option.bind_eq_some_iff.mp H
       obtain ⟨t381, A400, H⟩ := H
       replace H : (if t381 = true then ((impl_HowMeet.f kj7 t358 t359 t360 t361 t358 t359 t360 t361).bind fun t382 => (if t382 = 3 then ((impl_IsOn.f kj7 t358 t359 t360 t361 t358 t359).bind fun t383 => (if t383 = true then ((impl_IsOn.f kj7 t358 t359 t360 t361 t360 t361).bind fun t384 => (if t384 = true then ((impl_IsBetween.f kj7 t358 t359 t360 t361 t358 t359).bind fun t385 => (laws_FnSegments.j1 kj7 l0 t368 t385 t358 t359 t360 t361 t362 t363 t364 t365)) else (laws_FnSegments.j1 kj7 l0 t368 true t358 t359 t360 t361 t362 t363 t364 t365))) else (laws_FnSegments.j1 kj7 l0 t368 true t358 t359 t360 t361 t362 t363 t364 t365))) else (laws_FnSegments.j1 kj7 l0 t368 true t358 t359 t360 t361 t362 t363 t364 t365))) else (laws_FnSegments.j1 kj7 l0 t368 false t358 t359 t360 t361 t362 t363 t364 t365)) = some r := H
       have A40 := Aside0.mk A400
       clear A400
       by_cases c41 : t381 = true
       ·subst c41
        have H1 : ((impl_HowMeet.f kj7 t358 t359 t360 t361 t358 t359 t360 t361).bind fun t382 => (if t382 = 3 then ((impl_IsOn.f kj7 t358 t359 t360 t361 t358 t359).bind fun t383 => (if t383 = true then ((impl_IsOn.f kj7 t358 t359 t360 t361 t360 t361).bind fun t384 => (if t384 = true then ((impl_IsBetween.f kj7 t358 t359 t360 t361 t358 t359).bind fun t385 => (laws_FnSegments.j1 kj7 l0 t368 t385 t358 t359 t360 t361 t362 t363 t364 t365)) else (laws_FnSegments.j1 kj7 l0 t368 true t358 t359 t360 t361 t362 t363 t364 t365))) else (laws_FnSegments.j1 kj7 l0 t368 true t358 t359 t360 t361 t362 t363 t364 t365))) else (laws_FnSegments.j1 kj7 l0 t368 true t358 t359 t360 t361 t362 t363 t364 t365))) = some r := by rw [if_pos rfl] at H; exact H
        clear H
        have H := H1
        clear H1
        replace H := Option.bind_eq_some_iff.mp H
        obtain ⟨t382, A420, H⟩ := H
        replace H : (if t382 = 3 then ((impl_IsOn.f kj7 t358 t359 t360 t361 t358 t359).bind fun t383 => (if t383 = true then ((impl_IsOn.f kj7 t358 t359 t360 t361 t360 t361).bind fun t384 => (if t384 = true then ((impl_IsBetween.f kj7 t358 t359 t360 t361 t358 t359).bind fun t385 => (laws_FnSegments.j1 kj7 l0 t368 t385 t358 t359 t360 t361 t362 t363 t364 t365)) else (laws_FnSegments.j1 kj7 l0 t368 true t358 t359 t360 t361 t362 t363 t364 t365))) else (laws_FnSegments.j1 kj7 l0 t368 true t358 t359 t360 t361 t362 t363 t364 t365))) else (laws_FnSegments.j1 kj7 l0 t368 true t358 t359 t360 t361 t362 t363 t364 t365)) = some r := H
        have A42 := Aside0.mk A420
        clear A420
        by_cases c43 : t382 = 3
        ·rw [if_pos c43] at H
         have c43b0 : (t382 == 3) = true := beq_iff_eq.mpr c43
         have c43b1 : (t382 != 3) = false := bne_eq_false_iff_eq.mpr c43
         clear c43
         (first | rw [c43b0] | (simp only [i64_w, i32_w]; rw [c43b0]) | skip)
         replace H := Option.bind_eq_some_iff.mp H
         obtain ⟨t383, A440, H⟩ := H
         replace H : (if t383 = true then ((impl_IsOn.f kj7 t358 t359 t360 t361 t360 t361).bind fun t384 => (if t384 = true then ((impl_IsBetween.f kj7 t358 t359 t360 t361 t358 t359).bind fun t385 => (laws_FnSegments.j1 kj7 l0 t368 t385 t358 t359 t360 t361 t362 t363 t364 t365)) else (laws_FnSegments.j1 kj7 l0 t368 true t358 t359 t360 t361 t362 t363 t364 t365))) else (laws_FnSegments.j1 kj7 l0 t368 true t358 t359 t360 t361 t362 t363 t364 t365)) = some r := H
         have A44 := Aside0.mk A440
         clear A440
         by_cases c45 : t383 = true
         ·subst c45
          have H1 : ((impl_IsOn.f kj7 t358 t359 t360 t361 t360 t361).bind fun t384 => (if t384 = true then ((impl_IsBetween.f kj7 t358 t359 t360 t361 t358 t359).bind fun t385 => (laws_FnSegments.j1 kj7 l0 t368 t385 t358 t359 t360 t361 t362 t363 t364 t365)) else (laws_FnSegments.j1 kj7 l0 t368 true t358 t359 t360 t361 t362 t363 t364 t365))) = some r := by rw [if_pos rfl] at H; exact H
          clear H
          have H := H1
          clear H1
          replace H := Option.bind_eq_some_iff.mp H
          obtain ⟨t384, A460, H⟩ := H
          replace H : (if t384 = true then ((impl_IsBetween.f kj7 t358 t359 t360 t361 t358 t359).bind fun t385 => (laws_FnSegments.j1 kj7 l0 t368 t385 t358 t359 t360 t361 t362 t363 t364 t365)) else (laws_FnSegments.j1 kj7 l0 t368 true t358 t359 t360 t361 t362 t363 t364 t365)) = some r := H
          have A46 := Aside0.mk A460
          clear A460
          by_cases c47 : t384 = true
          ·subst c47
           have H1 : ((impl_IsBetween.f kj7 t358 t359 t360 t361 t358 t359).bind fun t385 => (laws_FnSegments.j1 kj7 l0 t368 t385 t358 t359 t360 t361 t362 t363 t364 t365)) = some r := by rw [if_pos rfl] at H; exact H
           clear H
           have H := H1
           clear H1
           replace H := Option.bind_eq_some_iff.mp H
           obtain ⟨t385, A480, H⟩ := H
           replace H : (laws_FnSegments.j1 kj7 l0 t368 t385 t358 t359 t360 t361 t362 t363 t364 t365) = some r := H
           have A48 := Aside0.mk A480
           clear A480
           have H' := Aside0.mk H
           clear H
           have hnb49 := NB366_367.out
           have hnc49 := NB367_366.out
           have hcz50_0 := bC BK366 0 (.int .i64 t358)
           have hcz50_1 := bC BK366 1 (.int .i64 t359)
           have hcz50_2 := bC BK366 2 (.int .i64 t360)
           have hcz50_3 := bC BK366 3 (.int .i64 t361)
           have hfz50_0 := blk_frozen BK366.out 0
           have hfz50_1 := blk_frozen BK366.out 1
           have hfz50_2 := blk_frozen BK366.out 2
           have hfz50_3 := blk_frozen BK366.out 3
           go_wp2_with (first | ((with_reducible refine gate_callee (f := 9) rfl ?_); refine gL (some 45) Try.func9 #[.agg #[.int .i64 t358, .int .i64 t359, .int .i64 t360, .int .i64 t361]] ?_; (with_reducible refine (impl_IsSegment.calls t358 t359 t360 t361 true _ A40.out).mono ?_); rintro e w51 ⟨rfl, hb⟩; refine ⟨_, rfl, ?_⟩; replace BK366 := mB BK366 hb; replace BK367 := mB BK367 hb; replace HB := sB2 HB hb GE366 GE367; (try clear hb); have hcz52_0 := bC BK366 0 (.int .i64 t358); have hcz52_1 := bC BK366 1 (.int .i64 t359); have hcz52_2 := bC BK366 2 (.int .i64 t360); have hcz52_3 := bC BK366 3 (.int .i64 t361); have hfz52_0 := blk_frozen BK366.out 0; have hfz52_1 := blk_frozen BK366.out 1; have hfz52_2 := blk_frozen BK366.out 2; have hfz52_3 := blk_frozen BK366.out 3) | (go_at_call 6; (with_reducible refine (impl_HowMeet.calls kj7 t358 t359 t360 t361 t358 t359 t360 t361 t382 _ A42.out).mono ?_); rintro e w53 ⟨rfl, hb⟩; replace BK366 := mB BK366 hb; replace BK367 := mB BK367 hb; replace HB := sB2 HB hb GE366 GE367; (try clear hb); have hcz54_0 := bC BK366 0 (.int .i64 t358); have hcz54_1 := bC BK366 1 (.int .i64 t359); have hcz54_2 := bC BK366 2 (.int .i64 t360); have hcz54_3 := bC BK366 3 (.int .i64 t361); have hfz54_0 := blk_frozen BK366.out 0; have hfz54_1 := blk_frozen BK366.out 1; have hfz54_2 := blk_frozen BK366.out 2; have hfz54_3 := blk_frozen BK366.out 3) | (go_at_call 10; (with_reducible refine (impl_IsOn.calls kj7 t358 t359 t360 t361 t358 t359 true _ A44.out).mono ?_); rintro e w55 ⟨rfl, hb⟩; replace BK366 := mB BK366 hb; replace BK367 := mB BK367 hb; replace HB := sB2 HB hb GE366 GE367; (try clear hb); have hcz56_0 := bC BK366 0 (.int .i64 t358); have hcz56_1 := bC BK366 1 (.int .i64 t359); have hcz56_2 := bC BK366 2 (.int .i64 t360); have hcz56_3 := bC BK366 3 (.int .i64 t361); have hfz56_0 := blk_frozen BK366.out 0; have hfz56_1 := blk_frozen BK366.out 1; have hfz56_2 := blk_frozen BK366.out 2; have hfz56_3 := blk_frozen BK366.out 3) | (go_at_call 10; (with_reducible refine (impl_IsOn.calls kj7 t358 t359 t360 t361 t360 t361 true _ A46.out).mono ?_); rintro e w57 ⟨rfl, hb⟩; replace BK366 := mB BK366 hb; replace BK367 := mB BK367 hb; replace HB := sB2 HB hb GE366 GE367; (try clear hb); have hcz58_0 := bC BK366 0 (.int .i64 t358); have hcz58_1 := bC BK366 1 (.int .i64 t359); have hcz58_2 := bC BK366 2 (.int .i64 t360); have hcz58_3 := bC BK366 3 (.int .i64 t361); have hfz58_0 := blk_frozen BK366.out 0; have hfz58_1 := blk_frozen BK366.out 1; have hfz58_2 := blk_frozen BK366.out 2; have hfz58_3 := blk_frozen BK366.out 3) | (go_at_call 11; (with_reducible refine (impl_IsBetween.calls kj7 t358 t359 t360 t361 t358 t359 t385 _ A48.out).mono ?_); rintro e w59 ⟨rfl, hb⟩; replace BK366 := mB BK366 hb; replace BK367 := mB BK367 hb; replace HB := sB2 HB hb GE366 GE367; (try clear hb)))
           go_meet
           case rel => exact ⟨_, (t385), (by first | rfl | (simp; done) | (simp [*]; done)), H', ⟨by have := HJ7.out; first | omega | exact Nat.le_refl _⟩, ⟨by (with_reducible repeat (first | refine blk_drewN ?_ _ | refine blk_drew ?_ | refine blk_alloc ?_ _)); exact BK366.out⟩, ⟨by (with_reducible repeat (first | refine blk_drewN ?_ _ | refine blk_drew ?_ | refine blk_alloc ?_ _)); exact BK367.out⟩, ⟨eB2 HB GE366 GE367⟩⟩
          ·replace c47 := Bool.eq_false_iff.mpr c47
           subst c47
           have H1 : (laws_FnSegments.j1 kj7 l0 t368 true t358 t359 t360 t361 t362 t363 t364 t365) = some r := by rw [if_neg (show ¬ (false = true) by decide)] at H; exact H
           clear H
           have H := H1
           clear H1
           have H' := Aside0.mk H
           clear H
           have hnb60 := NB366_367.out
           have hnc60 := NB367_366.out
           have hcz61_0 := bC BK366 0 (.int .i64 t358)
           have hcz61_1 := bC BK366 1 (.int .i64 t359)
           have hcz61_2 := bC BK366 2 (.int .i64 t360)
           have hcz61_3 := bC BK366 3 (.int .i64 t361)
           have hfz61_0 := blk_frozen BK366.out 0
           have hfz61_1 := blk_frozen BK366.out 1
           have hfz61_2 := blk_frozen BK366.out 2
           have hfz61_3 := blk_frozen BK366.out 3
           go_wp2_with (first | ((with_reducible refine gate_callee (f := 9) rfl ?_); refine gL (some 45) Try.func9 #[.agg #[.int .i64 t358, .int .i64 t359, .int .i64 t360, .int .i64 t361]] ?_; (with_reducible refine (impl_IsSegment.calls t358 t359 t360 t361 true _ A40.out).mono ?_); rintro e w62 ⟨rfl, hb⟩; refine ⟨_, rfl, ?_⟩; replace BK366 := mB BK366 hb; replace BK367 := mB BK367 hb; replace HB := sB2 HB hb GE366 GE367; (try clear hb); have hcz63_0 := bC BK366 0 (.int .i64 t358); have hcz63_1 := bC BK366 1 (.int .i64 t359); have hcz63_2 := bC BK366 2 (.int .i64 t360); have hcz63_3 := bC BK366 3 (.int .i64 t361); have hfz63_0 := blk_frozen BK366.out 0; have hfz63_1 := blk_frozen BK366.out 1; have hfz63_2 := blk_frozen BK366.out 2; have hfz63_3 := blk_frozen BK366.out 3) | (go_at_call 6; (with_reducible refine (impl_HowMeet.calls kj7 t358 t359 t360 t361 t358 t359 t360 t361 t382 _ A42.out).mono ?_); rintro e w64 ⟨rfl, hb⟩; replace BK366 := mB BK366 hb; replace BK367 := mB BK367 hb; replace HB := sB2 HB hb GE366 GE367; (try clear hb); have hcz65_0 := bC BK366 0 (.int .i64 t358); have hcz65_1 := bC BK366 1 (.int .i64 t359); have hcz65_2 := bC BK366 2 (.int .i64 t360); have hcz65_3 := bC BK366 3 (.int .i64 t361); have hfz65_0 := blk_frozen BK366.out 0; have hfz65_1 := blk_frozen BK366.out 1; have hfz65_2 := blk_frozen BK366.out 2; have hfz65_3 := blk_frozen BK366.out 3) | (go_at_call 10; (with_reducible refine (impl_IsOn.calls kj7 t358 t359 t360 t361 t358 t359 true _ A44.out).mono ?_); rintro e w66 ⟨rfl, hb⟩; replace BK366 := mB BK366 hb; replace BK367 := mB BK367 hb; replace HB := sB2 HB hb GE366 GE367; (try clear hb); have hcz67_0 := bC BK366 0 (.int .i64 t358); have hcz67_1 := bC BK366 1 (.int .i64 t359); have hcz67_2 := bC BK366 2 (.int .i64 t360); have hcz67_3 := bC BK366 3 (.int .i64 t361); have hfz67_0 := blk_frozen BK366.out 0; have hfz67_1 := blk_frozen BK366.out 1; have hfz67_2 := blk_frozen BK366.out 2; have hfz67_3 := blk_frozen BK366.out 3) | (go_at_call 10; (with_reducible refine (impl_IsOn.calls kj7 t358 t359 t360 t361 t360 t361 false _ A46.out).mono ?_); rintro e w68 ⟨rfl, hb⟩; replace BK366 := mB BK366 hb; replace BK367 := mB BK367 hb; replace HB := sB2 HB hb GE366 GE367; (try clear hb)))
           go_meet
           case rel => exact ⟨_, (true), (by first | rfl | (simp; done) | (simp [*]; done)), H', ⟨by have := HJ7.out; first | omega | exact Nat.le_refl _⟩, ⟨by (with_reducible repeat (first | refine blk_drewN ?_ _ | refine blk_drew ?_ | refine blk_alloc ?_ _)); exact BK366.out⟩, ⟨by (with_reducible repeat (first | refine blk_drewN ?_ _ | refine blk_drew ?_ | refine blk_alloc ?_ _)); exact BK367.out⟩, ⟨eB2 HB GE366 GE367⟩⟩
         ·replace c45 := Bool.eq_false_iff.mpr c45
          subst c45
          have H1 : (laws_FnSegments.j1 kj7 l0 t368 true t358 t359 t360 t361 t362 t363 t364 t365) = some r := by rw [if_neg (show ¬ (false = true) by decide)] at H; exact H
          clear H
          have H := H1
          clear H1
          have H' := Aside0.mk H
          clear H
          have hnb69 := NB366_367.out
          have hnc69 := NB367_366.out
          have hcz70_0 := bC BK366 0 (.int .i64 t358)
          have hcz70_1 := bC BK366 1 (.int .i64 t359)
          have hcz70_2 := bC BK366 2 (.int .i64 t360)
          have hcz70_3 := bC BK366 3 (.int .i64 t361)
          have hfz70_0 := blk_frozen BK366.out 0
          have hfz70_1 := blk_frozen BK366.out 1
          have hfz70_2 := blk_frozen BK366.out 2
          have hfz70_3 := blk_frozen BK366.out 3
          go_wp2_with (first | ((with_reducible refine gate_callee (f := 9) rfl ?_); refine gL (some 45) Try.func9 #[.agg #[.int .i64 t358, .int .i64 t359, .int .i64 t360, .int .i64 t361]] ?_; (with_reducible refine (impl_IsSegment.calls t358 t359 t360 t361 true _ A40.out).mono ?_); rintro e w71 ⟨rfl, hb⟩; refine ⟨_, rfl, ?_⟩; replace BK366 := mB BK366 hb; replace BK367 := mB BK367 hb; replace HB := sB2 HB hb GE366 GE367; (try clear hb); have hcz72_0 := bC BK366 0 (.int .i64 t358); have hcz72_1 := bC BK366 1 (.int .i64 t359); have hcz72_2 := bC BK366 2 (.int .i64 t360); have hcz72_3 := bC BK366 3 (.int .i64 t361); have hfz72_0 := blk_frozen BK366.out 0; have hfz72_1 := blk_frozen BK366.out 1; have hfz72_2 := blk_frozen BK366.out 2; have hfz72_3 := blk_frozen BK366.out 3) | (go_at_call 6; (with_reducible refine (impl_HowMeet.calls kj7 t358 t359 t360 t361 t358 t359 t360 t361 t382 _ A42.out).mono ?_); rintro e w73 ⟨rfl, hb⟩; replace BK366 := mB BK366 hb; replace BK367 := mB BK367 hb; replace HB := sB2 HB hb GE366 GE367; (try clear hb); have hcz74_0 := bC BK366 0 (.int .i64 t358); have hcz74_1 := bC BK366 1 (.int .i64 t359); have hcz74_2 := bC BK366 2 (.int .i64 t360); have hcz74_3 := bC BK366 3 (.int .i64 t361); have hfz74_0 := blk_frozen BK366.out 0; have hfz74_1 := blk_frozen BK366.out 1; have hfz74_2 := blk_frozen BK366.out 2; have hfz74_3 := blk_frozen BK366.out 3) | (go_at_call 10; (with_reducible refine (impl_IsOn.calls kj7 t358 t359 t360 t361 t358 t359 false _ A44.out).mono ?_); rintro e w75 ⟨rfl, hb⟩; replace BK366 := mB BK366 hb; replace BK367 := mB BK367 hb; replace HB := sB2 HB hb GE366 GE367; (try clear hb)))
          go_meet
          case rel => exact ⟨_, (true), (by first | rfl | (simp; done) | (simp [*]; done)), H', ⟨by have := HJ7.out; first | omega | exact Nat.le_refl _⟩, ⟨by (with_reducible repeat (first | refine blk_drewN ?_ _ | refine blk_drew ?_ | refine blk_alloc ?_ _)); exact BK366.out⟩, ⟨by (with_reducible repeat (first | refine blk_drewN ?_ _ | refine blk_drew ?_ | refine blk_alloc ?_ _)); exact BK367.out⟩, ⟨eB2 HB GE366 GE367⟩⟩
        ·rw [if_neg c43] at H
         have c43b0 : (t382 == 3) = false := beq_eq_false_iff_ne.mpr c43
         have c43b1 : (t382 != 3) = true := bne_iff_ne.mpr c43
         (first | rw [c43b0] | (simp only [i64_w, i32_w]; rw [c43b0]) | skip)
         have H' := Aside0.mk H
         clear H
         have hnb76 := NB366_367.out
         have hnc76 := NB367_366.out
         have hcz77_0 := bC BK366 0 (.int .i64 t358)
         have hcz77_1 := bC BK366 1 (.int .i64 t359)
         have hcz77_2 := bC BK366 2 (.int .i64 t360)
         have hcz77_3 := bC BK366 3 (.int .i64 t361)
         have hfz77_0 := blk_frozen BK366.out 0
         have hfz77_1 := blk_frozen BK366.out 1
         have hfz77_2 := blk_frozen BK366.out 2
         have hfz77_3 := blk_frozen BK366.out 3
         go_wp2_with (first | ((with_reducible refine gate_callee (f := 9) rfl ?_); refine gL (some 45) Try.func9 #[.agg #[.int .i64 t358, .int .i64 t359, .int .i64 t360, .int .i64 t361]] ?_; (with_reducible refine (impl_IsSegment.calls t358 t359 t360 t361 true _ A40.out).mono ?_); rintro e w78 ⟨rfl, hb⟩; refine ⟨_, rfl, ?_⟩; replace BK366 := mB BK366 hb; replace BK367 := mB BK367 hb; replace HB := sB2 HB hb GE366 GE367; (try clear hb); have hcz79_0 := bC BK366 0 (.int .i64 t358); have hcz79_1 := bC BK366 1 (.int .i64 t359); have hcz79_2 := bC BK366 2 (.int .i64 t360); have hcz79_3 := bC BK366 3 (.int .i64 t361); have hfz79_0 := blk_frozen BK366.out 0; have hfz79_1 := blk_frozen BK366.out 1; have hfz79_2 := blk_frozen BK366.out 2; have hfz79_3 := blk_frozen BK366.out 3) | (go_at_call 6; (with_reducible refine (impl_HowMeet.calls kj7 t358 t359 t360 t361 t358 t359 t360 t361 t382 _ A42.out).mono ?_); rintro e w80 ⟨rfl, hb⟩; replace BK366 := mB BK366 hb; replace BK367 := mB BK367 hb; replace HB := sB2 HB hb GE366 GE367; (try clear hb)))
         go_meet
         case rel => exact ⟨_, (true), (by first | rfl | (simp; done) | (simp [*]; done)), H', ⟨by have := HJ7.out; first | omega | exact Nat.le_refl _⟩, ⟨by (with_reducible repeat (first | refine blk_drewN ?_ _ | refine blk_drew ?_ | refine blk_alloc ?_ _)); exact BK366.out⟩, ⟨by (with_reducible repeat (first | refine blk_drewN ?_ _ | refine blk_drew ?_ | refine blk_alloc ?_ _)); exact BK367.out⟩, ⟨eB2 HB GE366 GE367⟩⟩
       ·replace c41 := Bool.eq_false_iff.mpr c41
        subst c41
        have H1 : (laws_FnSegments.j1 kj7 l0 t368 false t358 t359 t360 t361 t362 t363 t364 t365) = some r := by rw [if_neg (show ¬ (false = true) by decide)] at H; exact H
        clear H
        have H := H1
        clear H1
        have H' := Aside0.mk H
        clear H
        have hnb81 := NB366_367.out
        have hnc81 := NB367_366.out
        have hcz82_0 := bC BK366 0 (.int .i64 t358)
        have hcz82_1 := bC BK366 1 (.int .i64 t359)
        have hcz82_2 := bC BK366 2 (.int .i64 t360)
        have hcz82_3 := bC BK366 3 (.int .i64 t361)
        have hfz82_0 := blk_frozen BK366.out 0
        have hfz82_1 := blk_frozen BK366.out 1
        have hfz82_2 := blk_frozen BK366.out 2
        have hfz82_3 := blk_frozen BK366.out 3
        go_wp2_with (first | ((with_reducible refine gate_callee (f := 9) rfl ?_); refine gL (some 45) Try.func9 #[.agg #[.int .i64 t358, .int .i64 t359, .int .i64 t360, .int .i64 t361]] ?_; (with_reducible refine (impl_IsSegment.calls t358 t359 t360 t361 false _ A40.out).mono ?_); rintro e w83 ⟨rfl, hb⟩; refine ⟨_, rfl, ?_⟩; replace BK366 := mB BK366 hb; replace BK367 := mB BK367 hb; replace HB := sB2 HB hb GE366 GE367; (try clear hb)))
        go_meet
        case rel => exact ⟨_, (false), (by first | rfl | (simp; done) | (simp [*]; done)), H', ⟨by have := HJ7.out; first | omega | exact Nat.le_refl _⟩, ⟨by (with_reducible repeat (first | refine blk_drewN ?_ _ | refine blk_drew ?_ | refine blk_alloc ?_ _)); exact BK366.out⟩, ⟨by (with_reducible repeat (first | refine blk_drewN ?_ _ | refine blk_drew ?_ | refine blk_alloc ?_ _)); exact BK367.out⟩, ⟨eB2 HB GE366 GE367⟩⟩
      case rest =>
       clear HC39
       try clear c2
       try clear p2
       try clear c3
       try clear c4
       try clear c6
       try clear c7
       try clear c8
       try clear c9
       try clear c20
       try clear c20b0
       try clear c20b1
       try clear c23
       try clear c23b0
       try clear c23b1
       try clear c38
       try clear c41
       try clear c43
       try clear c43b0
       try clear c43b1
       try clear c45
       try clear c47
       try clear c49
       try clear c60
       try clear c69
       try clear c76
       try clear c81
       try clear p2
       obtain ⟨kq, x71_38, rfl, HA, HJ38, BK366, BK367, HB⟩ := hcut
       cases kq with
       | zero => exact absurd HA.out (by simp [laws_FnSegments.j1])
       | succ kj38 =>
        have H := HA.out
        clear HA
        simp only [laws_FnSegments.j1] at H
        by_cases c84 : x71_38 = true
        ·subst c84
         have H1 : (some false) = some r := by rw [if_pos rfl] at H; exact H
         clear H
         have H := H1
         clear H1
         obtain rfl := Option.some.inj H
         go_wp2
         go_ret
         exact ⟨by first | rfl | (simp [errW_none, errW_some] <;> rfl) | (simp [*, errW_none, errW_some] <;> rfl), eB2 HB GE366 GE367⟩
        ·replace c84 := Bool.eq_false_iff.mpr c84
         subst c84
         have H1 : (if t368 = 0 then ((impl_IsSegment.f t358 t359 t360 t361).bind fun t386 => (if t386 = true then ((impl_IsSegment.f t362 t363 t364 t365).bind fun t387 => (if t387 = true then ((impl_IsOn.f kj38 t358 t359 t360 t361 t362 t363).bind fun t388 => (if t388 = true then (laws_FnSegments.j2 kj38 l0 true) else ((impl_IsOn.f kj38 t362 t363 t364 t365 t360 t361).bind fun t389 => (if t389 = true then (laws_FnSegments.j2 kj38 l0 true) else (if t368 = 2 then ((impl_IsOn.f kj38 t358 t359 t360 t361 t362 t363).bind fun t390 => (if t390 = true then (laws_FnSegments.j2 kj38 l0 true) else ((impl_IsOn.f kj38 t358 t359 t360 t361 t364 t365).bind fun t391 => (if t391 = true then (laws_FnSegments.j2 kj38 l0 true) else ((impl_IsOn.f kj38 t362 t363 t364 t365 t358 t359).bind fun t392 => (if t392 = true then (laws_FnSegments.j2 kj38 l0 true) else ((impl_IsOn.f kj38 t362 t363 t364 t365 t360 t361).bind fun t393 => (laws_FnSegments.j2 kj38 l0 t393)))))))) else (laws_FnSegments.j2 kj38 l0 false)))))) else (if t368 = 2 then ((impl_IsOn.f kj38 t358 t359 t360 t361 t362 t363).bind fun t394 => (if t394 = true then (laws_FnSegments.j2 kj38 l0 true) else ((impl_IsOn.f kj38 t358 t359 t360 t361 t364 t365).bind fun t395 => (if t395 = true then (laws_FnSegments.j2 kj38 l0 true) else ((impl_IsOn.f kj38 t362 t363 t364 t365 t358 t359).bind fun t396 => (if t396 = true then (laws_FnSegments.j2 kj38 l0 true) else ((impl_IsOn.f kj38 t362 t363 t364 t365 t360 t361).bind fun t397 => (laws_FnSegments.j2 kj38 l0 t397)))))))) else (laws_FnSegments.j2 kj38 l0 false)))) else (if t368 = 2 then ((impl_IsOn.f kj38 t358 t359 t360 t361 t362 t363).bind fun t398 => (if t398 = true then (laws_FnSegments.j2 kj38 l0 true) else ((impl_IsOn.f kj38 t358 t359 t360 t361 t364 t365).bind fun t399 => (if t399 = true then (laws_FnSegments.j2 kj38 l0 true) else ((impl_IsOn.f kj38 t362 t363 t364 t365 t358 t359).bind fun t400 => (if t400 = true then (laws_FnSegments.j2 kj38 l0 true) else ((impl_IsOn.f kj38 t362 t363 t364 t365 t360 t361).bind fun t401 => (laws_FnSegments.j2 kj38 l0 t401)))))))) else (laws_FnSegments.j2 kj38 l0 false)))) else (if t368 = 2 then ((impl_IsOn.f kj38 t358 t359 t360 t361 t362 t363).bind fun t402 => (if t402 = true then (laws_FnSegments.j2 kj38 l0 true) else ((impl_IsOn.f kj38 t358 t359 t360 t361 t364 t365).bind fun t403 => (if t403 = true then (laws_FnSegments.j2 kj38 l0 true) else ((impl_IsOn.f kj38 t362 t363 t364 t365 t358 t359).bind fun t404 => (if t404 = true then (laws_FnSegments.j2 kj38 l0 true) else ((impl_IsOn.f kj38 t362 t363 t364 t365 t360 t361).bind fun t405 => (laws_FnSegments.j2 kj38 l0 t405)))))))) else (laws_FnSegments.j2 kj38 l0 false))) = some r := by rw [if_neg (show ¬ (false = true) by decide)] at H; exact H
         clear H
         have H := H1
         clear H1
         have HC85 := Aside0.mk H
         clear H
         go_upto_region 11 with (fail)
         go_cut [121] (fun v121 wc => ∃ (kq : Nat) (x121_84 : Bool), v121 = .bool x121_84 ∧ Aside0 (laws_FnSegments.j2 kq l0 x121_84 = some r) ∧ Aside0 (kq ≤ kj38) ∧ Aside0 (wc.heap[gb366]? = some (.cells #[.int .i64 t358, .int .i64 t359, .int .i64 t360, .int .i64 t361] 27 (0, 0))) ∧ Aside0 (wc.heap[gb367]? = some (.cells #[.int .i64 t362, .int .i64 t363, .int .i64 t364, .int .i64 t365] 27 (0, 0))) ∧ Aside0 (Below w.heap.size w wc))
         case first =>
          have H := HC85.out
          clear HC85
          by_cases c86 : t368 = 0
          ·rw [if_pos c86] at H
           have c86b0 : (t368 == 0) = true := beq_iff_eq.mpr c86
           have c86b1 : (t368 != 0) = false := bne_eq_false_iff_eq.mpr c86
           clear c86
           (first | rw [c86b0] | (simp only [i64_w, i32_w]; rw [c86b0]) | skip)
           replace H := Option.bind_eq_some_iff.mp H
           obtain ⟨t386, A870, H⟩ := H
           replace H : (if t386 = true then ((impl_IsSegment.f t362 t363 t364 t365).bind fun t387 => (if t387 = true then ((impl_IsOn.f kj38 t358 t359 t360 t361 t362 t363).bind fun t388 => (if t388 = true then (laws_FnSegments.j2 kj38 l0 true) else ((impl_IsOn.f kj38 t362 t363 t364 t365 t360 t361).bind fun t389 => (if t389 = true then (laws_FnSegments.j2 kj38 l0 true) else (if t368 = 2 then ((impl_IsOn.f kj38 t358 t359 t360 t361 t362 t363).bind fun t390 => (if t390 = true then (laws_FnSegments.j2 kj38 l0 true) else ((impl_IsOn.f kj38 t358 t359 t360 t361 t364 t365).bind fun t391 => (if t391 = true then (laws_FnSegments.j2 kj38 l0 true) else ((impl_IsOn.f kj38 t362 t363 t364 t365 t358 t359).bind fun t392 => (if t392 = true then (laws_FnSegments.j2 kj38 l0 true) else ((impl_IsOn.f kj38 t362 t363 t364 t365 t360 t361).bind fun t393 => (laws_FnSegments.j2 kj38 l0 t393)))))))) else (laws_FnSegments.j2 kj38 l0 false)))))) else (if t368 = 2 then ((impl_IsOn.f kj38 t358 t359 t360 t361 t362 t363).bind fun t394 => (if t394 = true then (laws_FnSegments.j2 kj38 l0 true) else ((impl_IsOn.f kj38 t358 t359 t360 t361 t364 t365).bind fun t395 => (if t395 = true then (laws_FnSegments.j2 kj38 l0 true) else ((impl_IsOn.f kj38 t362 t363 t364 t365 t358 t359).bind fun t396 => (if t396 = true then (laws_FnSegments.j2 kj38 l0 true) else ((impl_IsOn.f kj38 t362 t363 t364 t365 t360 t361).bind fun t397 => (laws_FnSegments.j2 kj38 l0 t397)))))))) else (laws_FnSegments.j2 kj38 l0 false)))) else (if t368 = 2 then ((impl_IsOn.f kj38 t358 t359 t360 t361 t362 t363).bind fun t398 => (if t398 = true then (laws_FnSegments.j2 kj38 l0 true) else ((impl_IsOn.f kj38 t358 t359 t360 t361 t364 t365).bind fun t399 => (if t399 = true then (laws_FnSegments.j2 kj38 l0 true) else ((impl_IsOn.f kj38 t362 t363 t364 t365 t358 t359).bind fun t400 => (if t400 = true then (laws_FnSegments.j2 kj38 l0 true) else ((impl_IsOn.f kj38 t362 t363 t364 t365 t360 t361).bind fun t401 => (laws_FnSegments.j2 kj38 l0 t401)))))))) else (laws_FnSegments.j2 kj38 l0 false))) = some r := H
           have A87 := Aside0.mk A870
           clear A870
           by_cases c88 : t386 = true
           ·subst c88
            have H1 : ((impl_IsSegment.f t362 t363 t364 t365).bind fun t387 => (if t387 = true then ((impl_IsOn.f kj38 t358 t359 t360 t361 t362 t363).bind fun t388 => (if t388 = true then (laws_FnSegments.j2 kj38 l0 true) else ((impl_IsOn.f kj38 t362 t363 t364 t365 t360 t361).bind fun t389 => (if t389 = true then (laws_FnSegments.j2 kj38 l0 true) else (if t368 = 2 then ((impl_IsOn.f kj38 t358 t359 t360 t361 t362 t363).bind fun t390 => (if t390 = true then (laws_FnSegments.j2 kj38 l0 true) else ((impl_IsOn.f kj38 t358 t359 t360 t361 t364 t365).bind fun t391 => (if t391 = true then (laws_FnSegments.j2 kj38 l0 true) else ((impl_IsOn.f kj38 t362 t363 t364 t365 t358 t359).bind fun t392 => (if t392 = true then (laws_FnSegments.j2 kj38 l0 true) else ((impl_IsOn.f kj38 t362 t363 t364 t365 t360 t361).bind fun t393 => (laws_FnSegments.j2 kj38 l0 t393)))))))) else (laws_FnSegments.j2 kj38 l0 false)))))) else (if t368 = 2 then ((impl_IsOn.f kj38 t358 t359 t360 t361 t362 t363).bind fun t394 => (if t394 = true then (laws_FnSegments.j2 kj38 l0 true) else ((impl_IsOn.f kj38 t358 t359 t360 t361 t364 t365).bind fun t395 => (if t395 = true then (laws_FnSegments.j2 kj38 l0 true) else ((impl_IsOn.f kj38 t362 t363 t364 t365 t358 t359).bind fun t396 => (if t396 = true then (laws_FnSegments.j2 kj38 l0 true) else ((impl_IsOn.f kj38 t362 t363 t364 t365 t360 t361).bind fun t397 => (laws_FnSegments.j2 kj38 l0 t397)))))))) else (laws_FnSegments.j2 kj38 l0 false)))) = some r := by rw [if_pos rfl] at H; exact H
            clear H
            have H := H1
            clear H1
            replace H := Option.bind_eq_some_iff.mp H
            obtain ⟨t387, A890, H⟩ := H
            replace H : (if t387 = true then ((impl_IsOn.f kj38 t358 t359 t360 t361 t362 t363).bind fun t388 => (if t388 = true then (laws_FnSegments.j2 kj38 l0 true) else ((impl_IsOn.f kj38 t362 t363 t364 t365 t360 t361).bind fun t389 => (if t389 = true then (laws_FnSegments.j2 kj38 l0 true) else (if t368 = 2 then ((impl_IsOn.f kj38 t358 t359 t360 t361 t362 t363).bind fun t390 => (if t390 = true then (laws_FnSegments.j2 kj38 l0 true) else ((impl_IsOn.f kj38 t358 t359 t360 t361 t364 t365).bind fun t391 => (if t391 = true then (laws_FnSegments.j2 kj38 l0 true) else ((impl_IsOn.f kj38 t362 t363 t364 t365 t358 t359).bind fun t392 => (if t392 = true then (laws_FnSegments.j2 kj38 l0 true) else ((impl_IsOn.f kj38 t362 t363 t364 t365 t360 t361).bind fun t393 => (laws_FnSegments.j2 kj38 l0 t393)))))))) else (laws_FnSegments.j2 kj38 l0 false)))))) else (if t368 = 2 then ((impl_IsOn.f kj38 t358 t359 t360 t361 t362 t363).bind fun t394 => (if t394 = true then (laws_FnSegments.j2 kj38 l0 true) else ((impl_IsOn.f kj38 t358 t359 t360 t361 t364 t365).bind fun t395 => (if t395 = true then (laws_FnSegments.j2 kj38 l0 true) else ((impl_IsOn.f kj38 t362 t363 t364 t365 t358 t359).bind fun t396 => (if t396 = true then (laws_FnSegments.j2 kj38 l0 true) else ((impl_IsOn.f kj38 t362 t363 t364 t365 t360 t361).bind fun t397 => (laws_FnSegments.j2 kj38 l0 t397)))))))) else (laws_FnSegments.j2 kj38 l0 false))) = some r := H
            have A89 := Aside0.mk A890
            clear A890
            by_cases c90 : t387 = true
            ·subst c90
             have H1 : ((impl_IsOn.f kj38 t358 t359 t360 t361 t362 t363).bind fun t388 => (if t388 = true then (laws_FnSegments.j2 kj38 l0 true) else ((impl_IsOn.f kj38 t362 t363 t364 t365 t360 t361).bind fun t389 => (if t389 = true then (laws_FnSegments.j2 kj38 l0 true) else (if t368 = 2 then ((impl_IsOn.f kj38 t358 t359 t360 t361 t362 t363).bind fun t390 => (if t390 = true then (laws_FnSegments.j2 kj38 l0 true) else ((impl_IsOn.f kj38 t358 t359 t360 t361 t364 t365).bind fun t391 => (if t391 = true then (laws_FnSegments.j2 kj38 l0 true) else ((impl_IsOn.f kj38 t362 t363 t364 t365 t358 t359).bind fun t392 => (if t392 = true then (laws_FnSegments.j2 kj38 l0 true) else ((impl_IsOn.f kj38 t362 t363 t364 t365 t360 t361).bind fun t393 => (laws_FnSegments.j2 kj38 l0 t393)))))))) else (laws_FnSegments.j2 kj38 l0 false)))))) = some r := by rw [if_pos rfl] at H; exact H
             clear H
             have H := H1
             clear H1
             replace H := Option.bind_eq_some_iff.mp H
             obtain ⟨t388, A910, H⟩ := H
             replace H : (if t388 = true then (laws_FnSegments.j2 kj38 l0 true) else ((impl_IsOn.f kj38 t362 t363 t364 t365 t360 t361).bind fun t389 => (if t389 = true then (laws_FnSegments.j2 kj38 l0 true) else (if t368 = 2 then ((impl_IsOn.f kj38 t358 t359 t360 t361 t362 t363).bind fun t390 => (if t390 = true then (laws_FnSegments.j2 kj38 l0 true) else ((impl_IsOn.f kj38 t358 t359 t360 t361 t364 t365).bind fun t391 => (if t391 = true then (laws_FnSegments.j2 kj38 l0 true) else ((impl_IsOn.f kj38 t362 t363 t364 t365 t358 t359).bind fun t392 => (if t392 = true then (laws_FnSegments.j2 kj38 l0 true) else ((impl_IsOn.f kj38 t362 t363 t364 t365 t360 t361).bind fun t393 => (laws_FnSegments.j2 kj38 l0 t393)))))))) else (laws_FnSegments.j2 kj38 l0 false))))) = some r := H
             have A91 := Aside0.mk A910
             clear A910
             by_cases c92 : t388 = true
             ·subst c92
              have H1 : (laws_FnSegments.j2 kj38 l0 true) = some r := by rw [if_pos rfl] at H; exact H
              clear H
              have H := H1
              clear H1
              have H' := Aside0.mk H
              clear H
              have hnb93 := NB366_367.out
              have hnc93 := NB367_366.out
              have hcz94_0 := bC BK366 0 (.int .i64 t358)
              have hcz94_1 := bC BK366 1 (.int .i64 t359)
              have hcz94_2 := bC BK366 2 (.int .i64 t360)
              have hcz94_3 := bC BK366 3 (.int .i64 t361)
              have hfz94_0 := blk_frozen BK366.out 0
              have hfz94_1 := blk_frozen BK366.out 1
              have hfz94_2 := blk_frozen BK366.out 2
              have hfz94_3 := blk_frozen BK366.out 3
              go_wp2_with (first | (go_at_call 9; (with_reducible refine (impl_IsSegment.calls t358 t359 t360 t361 true _ A87.out).mono ?_); rintro e w95 ⟨rfl, hb⟩; replace BK366 := mB BK366 hb; replace BK367 := mB BK367 hb; replace HB := sB2 HB hb GE366 GE367; (try clear hb); have hcz96_0 := bC BK367 0 (.int .i64 t362); have hcz96_1 := bC BK367 1 (.int .i64 t363); have hcz96_2 := bC BK367 2 (.int .i64 t364); have hcz96_3 := bC BK367 3 (.int .i64 t365); have hfz96_0 := blk_frozen BK367.out 0; have hfz96_1 := blk_frozen BK367.out 1; have hfz96_2 := blk_frozen BK367.out 2; have hfz96_3 := blk_frozen BK367.out 3) | (go_at_call 9; (with_reducible refine (impl_IsSegment.calls t362 t363 t364 t365 true _ A89.out).mono ?_); rintro e w97 ⟨rfl, hb⟩; replace BK366 := mB BK366 hb; replace BK367 := mB BK367 hb; replace HB := sB2 HB hb GE366 GE367; (try clear hb); have hcz98_0 := bC BK366 0 (.int .i64 t358); have hcz98_1 := bC BK366 1 (.int .i64 t359); have hcz98_2 := bC BK366 2 (.int .i64 t360); have hcz98_3 := bC BK366 3 (.int .i64 t361); have hfz98_0 := blk_frozen BK366.out 0; have hfz98_1 := blk_frozen BK366.out 1; have hfz98_2 := blk_frozen BK366.out 2; have hfz98_3 := blk_frozen BK366.out 3; have hcz99_0 := bC BK367 0 (.int .i64 t362); have hcz99_1 := bC BK367 1 (.int .i64 t363); have hcz99_2 := bC BK367 2 (.int .i64 t364); have hcz99_3 := bC BK367 3 (.int .i64 t365); have hfz99_0 := blk_frozen BK367.out 0; have hfz99_1 := blk_frozen BK367.out 1; have hfz99_2 := blk_frozen BK367.out 2; have hfz99_3 := blk_frozen BK367.out 3) | (go_at_call 10; (with_reducible refine (impl_IsOn.calls kj38 t358 t359 t360 t361 t362 t363 true _ A91.out).mono ?_); rintro e w100 ⟨rfl, hb⟩; replace BK366 := mB BK366 hb; replace BK367 := mB BK367 hb; replace HB := sB2 HB hb GE366 GE367; (try clear hb)))
              go_meet
              case rel => exact ⟨_, (true), (by first | rfl | (simp; done) | (simp [*]; done)), H', ⟨by have := HJ7.out; have := HJ38.out; first | omega | exact Nat.le_refl _⟩, ⟨by (with_reducible repeat (first | refine blk_drewN ?_ _ | refine blk_drew ?_ | refine blk_alloc ?_ _)); exact BK366.out⟩, ⟨by (with_reducible repeat (first | refine blk_drewN ?_ _ | refine blk_drew ?_ | refine blk_alloc ?_ _)); exact BK367.out⟩, ⟨eB2 HB GE366 GE367⟩⟩
             ·replace c92 := Bool.eq_false_iff.mpr c92
              subst c92
              have H1 : ((impl_IsOn.f kj38 t362 t363 t364 t365 t360 t361).bind fun t389 => (if t389 = true then (laws_FnSegments.j2 kj38 l0 true) else (if t368 = 2 then ((impl_IsOn.f kj38 t358 t359 t360 t361 t362 t363).bind fun t390 => (if t390 = true then (laws_FnSegments.j2 kj38 l0 true) else ((impl_IsOn.f kj38 t358 t359 t360 t361 t364 t365).bind fun t391 => (if t391 = true then (laws_FnSegments.j2 kj38 l0 true) else ((impl_IsOn.f kj38 t362 t363 t364 t365 t358 t359).bind fun t392 => (if t392 = true then (laws_FnSegments.j2 kj38 l0 true) else ((impl_IsOn.f kj38 t362 t363 t364 t365 t360 t361).bind fun t393 => (laws_FnSegments.j2 kj38 l0 t393)))))))) else (laws_FnSegments.j2 kj38 l0 false)))) = some r := by rw [if_neg (show ¬ (false = true) by decide)] at H; exact H
              clear H
              have H := H1
              clear H1
              replace H := Option.bind_eq_some_iff.mp H
              obtain ⟨t389, A1010, H⟩ := H
              replace H : (if t389 = true then (laws_FnSegments.j2 kj38 l0 true) else (if t368 = 2 then ((impl_IsOn.f kj38 t358 t359 t360 t361 t362 t363).bind fun t390 => (if t390 = true then (laws_FnSegments.j2 kj38 l0 true) else ((impl_IsOn.f kj38 t358 t359 t360 t361 t364 t365).bind fun t391 => (if t391 = true then (laws_FnSegments.j2 kj38 l0 true) else ((impl_IsOn.f kj38 t362 t363 t364 t365 t358 t359).bind fun t392 => (if t392 = true then (laws_FnSegments.j2 kj38 l0 true) else ((impl_IsOn.f kj38 t362 t363 t364 t365 t360 t361).bind fun t393 => (laws_FnSegments.j2 kj38 l0 t393)))))))) else (laws_FnSegments.j2 kj38 l0 false))) = some r := H
              have A101 := Aside0.mk A1010
              clear A1010
              by_cases c102 : t389 = true
              ·subst c102
               have H1 : (laws_FnSegments.j2 kj38 l0 true) = some r := by rw [if_pos rfl] at H; exact H
               clear H
               have H := H1
               clear H1
               have H' := Aside0.mk H
               clear H
               have hnb103 := NB366_367.out
               have hnc103 := NB367_366.out
               have hcz104_0 := bC BK366 0 (.int .i64 t358)
               have hcz104_1 := bC BK366 1 (.int .i64 t359)
               have hcz104_2 := bC BK366 2 (.int .i64 t360)
               have hcz104_3 := bC BK366 3 (.int .i64 t361)
               have hfz104_0 := blk_frozen BK366.out 0
               have hfz104_1 := blk_frozen BK366.out 1
               have hfz104_2 := blk_frozen BK366.out 2
               have hfz104_3 := blk_frozen BK366.out 3
               go_wp2_with (first | (go_at_call 9; (with_reducible refine (impl_IsSegment.calls t358 t359 t360 t361 true _ A87.out).mono ?_); rintro e w105 ⟨rfl, hb⟩; replace BK366 := mB BK366 hb; replace BK367 := mB BK367 hb; replace HB := sB2 HB hb GE366 GE367; (try clear hb); have hcz106_0 := bC BK367 0 (.int .i64 t362); have hcz106_1 := bC BK367 1 (.int .i64 t363); have hcz106_2 := bC BK367 2 (.int .i64 t364); have hcz106_3 := bC BK367 3 (.int .i64 t365); have hfz106_0 := blk_frozen BK367.out 0; have hfz106_1 := blk_frozen BK367.out 1; have hfz106_2 := blk_frozen BK367.out 2; have hfz106_3 := blk_frozen BK367.out 3) | (go_at_call 9; (with_reducible refine (impl_IsSegment.calls t362 t363 t364 t365 true _ A89.out).mono ?_); rintro e w107 ⟨rfl, hb⟩; replace BK366 := mB BK366 hb; replace BK367 := mB BK367 hb; replace HB := sB2 HB hb GE366 GE367; (try clear hb); have hcz108_0 := bC BK366 0 (.int .i64 t358); have hcz108_1 := bC BK366 1 (.int .i64 t359); have hcz108_2 := bC BK366 2 (.int .i64 t360); have hcz108_3 := bC BK366 3 (.int .i64 t361); have hfz108_0 := blk_frozen BK366.out 0; have hfz108_1 := blk_frozen BK366.out 1; have hfz108_2 := blk_frozen BK366.out 2; have hfz108_3 := blk_frozen BK366.out 3; have hcz109_0 := bC BK367 0 (.int .i64 t362); have hcz109_1 := bC BK367 1 (.int .i64 t363); have hcz109_2 := bC BK367 2 (.int .i64 t364); have hcz109_3 := bC BK367 3 (.int .i64 t365); have hfz109_0 := blk_frozen BK367.out 0; have hfz109_1 := blk_frozen BK367.out 1; have hfz109_2 := blk_frozen BK367.out 2; have hfz109_3 := blk_frozen BK367.out 3) | (go_at_call 10; (with_reducible refine (impl_IsOn.calls kj38 t358 t359 t360 t361 t362 t363 false _ A91.out).mono ?_); rintro e w110 ⟨rfl, hb⟩; replace BK366 := mB BK366 hb; replace BK367 := mB BK367 hb; replace HB := sB2 HB hb GE366 GE367; (try clear hb); have hcz111_0 := bC BK367 0 (.int .i64 t362); have hcz111_1 := bC BK367 1 (.int .i64 t363); have hcz111_2 := bC BK367 2 (.int .i64 t364); have hcz111_3 := bC BK367 3 (.int .i64 t365); have hfz111_0 := blk_frozen BK367.out 0; have hfz111_1 := blk_frozen BK367.out 1; have hfz111_2 := blk_frozen BK367.out 2; have hfz111_3 := blk_frozen BK367.out 3; have hcz112_0 := bC BK366 0 (.int .i64 t358); have hcz112_1 := bC BK366 1 (.int .i64 t359); have hcz112_2 := bC BK366 2 (.int .i64 t360); have hcz112_3 := bC BK366 3 (.int .i64 t361); have hfz112_0 := blk_frozen BK366.out 0; have hfz112_1 := blk_frozen BK366.out 1; have hfz112_2 := blk_frozen BK366.out 2; have hfz112_3 := blk_frozen BK366.out 3) | (go_at_call 10; (with_reducible refine (impl_IsOn.calls kj38 t362 t363 t364 t365 t360 t361 true _ A101.out).mono ?_); rintro e w113 ⟨rfl, hb⟩; replace BK366 := mB BK366 hb; replace BK367 := mB BK367 hb; replace HB := sB2 HB hb GE366 GE367; (try clear hb)))
               go_meet
               case rel => exact ⟨_, (true), (by first | rfl | (simp; done) | (simp [*]; done)), H', ⟨by have := HJ7.out; have := HJ38.out; first | omega | exact Nat.le_refl _⟩, ⟨by (with_reducible repeat (first | refine blk_drewN ?_ _ | refine blk_drew ?_ | refine blk_alloc ?_ _)); exact BK366.out⟩, ⟨by (with_reducible repeat (first | refine blk_drewN ?_ _ | refine blk_drew ?_ | refine blk_alloc ?_ _)); exact BK367.out⟩, ⟨eB2 HB GE366 GE367⟩⟩
              ·replace c102 := Bool.eq_false_iff.mpr c102
               subst c102
               have H1 : (if t368 = 2 then ((impl_IsOn.f kj38 t358 t359 t360 t361 t362 t363).bind fun t390 => (if t390 = true then (laws_FnSegments.j2 kj38 l0 true) else ((impl_IsOn.f kj38 t358 t359 t360 t361 t364 t365).bind fun t391 => (if t391 = true then (laws_FnSegments.j2 kj38 l0 true) else ((impl_IsOn.f kj38 t362 t363 t364 t365 t358 t359).bind fun t392 => (if t392 = true then (laws_FnSegments.j2 kj38 l0 true) else ((impl_IsOn.f kj38 t362 t363 t364 t365 t360 t361).bind fun t393 => (laws_FnSegments.j2 kj38 l0 t393)))))))) else (laws_FnSegments.j2 kj38 l0 false)) = some r := by rw [if_neg (show ¬ (false = true) by decide)] at H; exact H
               clear H
               have H := H1
               clear H1
               by_cases c114 : t368 = 2
               ·exact absurd ((beq_iff_eq.mp c86b0).symm.trans c114) (by decide)
               ·rw [if_neg c114] at H
                have c114b0 : (t368 == 2) = false := beq_eq_false_iff_ne.mpr c114
                have c114b1 : (t368 != 2) = true := bne_iff_ne.mpr c114
                have H' := Aside0.mk H
                clear H
                have hnb196 := NB366_367.out
                have hnc196 := NB367_366.out
                have hcz197_0 := bC BK366 0 (.int .i64 t358)
                have hcz197_1 := bC BK366 1 (.int .i64 t359)
                have hcz197_2 := bC BK366 2 (.int .i64 t360)
                have hcz197_3 := bC BK366 3 (.int .i64 t361)
                have hfz197_0 := blk_frozen BK366.out 0
                have hfz197_1 := blk_frozen BK366.out 1
                have hfz197_2 := blk_frozen BK366.out 2
                have hfz197_3 := blk_frozen BK366.out 3
                go_wp2_with (first | (go_at_call 9; (with_reducible refine (impl_IsSegment.calls t358 t359 t360 t361 true _ A87.out).mono ?_); rintro e w198 ⟨rfl, hb⟩; replace BK366 := mB BK366 hb; replace BK367 := mB BK367 hb; replace HB := sB2 HB hb GE366 GE367; (try clear hb); have hcz199_0 := bC BK367 0 (.int .i64 t362); have hcz199_1 := bC BK367 1 (.int .i64 t363); have hcz199_2 := bC BK367 2 (.int .i64 t364); have hcz199_3 := bC BK367 3 (.int .i64 t365); have hfz199_0 := blk_frozen BK367.out 0; have hfz199_1 := blk_frozen BK367.out 1; have hfz199_2 := blk_frozen BK367.out 2; have hfz199_3 := blk_frozen BK367.out 3) | (go_at_call 9; (with_reducible refine (impl_IsSegment.calls t362 t363 t364 t365 true _ A89.out).mono ?_); rintro e w200 ⟨rfl, hb⟩; replace BK366 := mB BK366 hb; replace BK367 := mB BK367 hb; replace HB := sB2 HB hb GE366 GE367; (try clear hb); have hcz201_0 := bC BK366 0 (.int .i64 t358); have hcz201_1 := bC BK366 1 (.int .i64 t359); have hcz201_2 := bC BK366 2 (.int .i64 t360); have hcz201_3 := bC BK366 3 (.int .i64 t361); have hfz201_0 := blk_frozen BK366.out 0; have hfz201_1 := blk_frozen BK366.out 1; have hfz201_2 := blk_frozen BK366.out 2; have hfz201_3 := blk_frozen BK366.out 3; have hcz202_0 := bC BK367 0 (.int .i64 t362); have hcz202_1 := bC BK367 1 (.int .i64 t363); have hcz202_2 := bC BK367 2 (.int .i64 t364); have hcz202_3 := bC BK367 3 (.int .i64 t365); have hfz202_0 := blk_frozen BK367.out 0; have hfz202_1 := blk_frozen BK367.out 1; have hfz202_2 := blk_frozen BK367.out 2; have hfz202_3 := blk_frozen BK367.out 3) | (go_at_call 10; (with_reducible refine (impl_IsOn.calls kj38 t358 t359 t360 t361 t362 t363 false _ A91.out).mono ?_); rintro e w203 ⟨rfl, hb⟩; replace BK366 := mB BK366 hb; replace BK367 := mB BK367 hb; replace HB := sB2 HB hb GE366 GE367; (try clear hb); have hcz204_0 := bC BK367 0 (.int .i64 t362); have hcz204_1 := bC BK367 1 (.int .i64 t363); have hcz204_2 := bC BK367 2 (.int .i64 t364); have hcz204_3 := bC BK367 3 (.int .i64 t365); have hfz204_0 := blk_frozen BK367.out 0; have hfz204_1 := blk_frozen BK367.out 1; have hfz204_2 := blk_frozen BK367.out 2; have hfz204_3 := blk_frozen BK367.out 3; have hcz205_0 := bC BK366 0 (.int .i64 t358); have hcz205_1 := bC BK366 1 (.int .i64 t359); have hcz205_2 := bC BK366 2 (.int .i64 t360); have hcz205_3 := bC BK366 3 (.int .i64 t361); have hfz205_0 := blk_frozen BK366.out 0; have hfz205_1 := blk_frozen BK366.out 1; have hfz205_2 := blk_frozen BK366.out 2; have hfz205_3 := blk_frozen BK366.out 3) | (go_at_call 10; (with_reducible refine (impl_IsOn.calls kj38 t362 t363 t364 t365 t360 t361 false _ A101.out).mono ?_); rintro e w206 ⟨rfl, hb⟩; replace BK366 := mB BK366 hb; replace BK367 := mB BK367 hb; replace HB := sB2 HB hb GE366 GE367; (try clear hb)))
                go_meet
                case rel => exact ⟨_, (false), (by first | rfl | (simp; done) | (simp [*]; done)), H', ⟨by have := HJ7.out; have := HJ38.out; first | omega | exact Nat.le_refl _⟩, ⟨by (with_reducible repeat (first | refine blk_drewN ?_ _ | refine blk_drew ?_ | refine blk_alloc ?_ _)); exact BK366.out⟩, ⟨by (with_reducible repeat (first | refine blk_drewN ?_ _ | refine blk_drew ?_ | refine blk_alloc ?_ _)); exact BK367.out⟩, ⟨eB2 HB GE366 GE367⟩⟩
            ·replace c90 := Bool.eq_false_iff.mpr c90
             subst c90
             have H1 : (if t368 = 2 then ((impl_IsOn.f kj38 t358 t359 t360 t361 t362 t363).bind fun t394 => (if t394 = true then (laws_FnSegments.j2 kj38 l0 true) else ((impl_IsOn.f kj38 t358 t359 t360 t361 t364 t365).bind fun t395 => (if t395 = true then (laws_FnSegments.j2 kj38 l0 true) else ((impl_IsOn.f kj38 t362 t363 t364 t365 t358 t359).bind fun t396 => (if t396 = true then (laws_FnSegments.j2 kj38 l0 true) else ((impl_IsOn.f kj38 t362 t363 t364 t365 t360 t361).bind fun t397 => (laws_FnSegments.j2 kj38 l0 t397)))))))) else (laws_FnSegments.j2 kj38 l0 false)) = some r := by rw [if_neg (show ¬ (false = true) by decide)] at H; exact H
             clear H
             have H := H1
             clear H1
             by_cases c207 : t368 = 2
             ·exact absurd ((beq_iff_eq.mp c86b0).symm.trans c207) (by decide)
             ·rw [if_neg c207] at H
              have c207b0 : (t368 == 2) = false := beq_eq_false_iff_ne.mpr c207
              have c207b1 : (t368 != 2) = true := bne_iff_ne.mpr c207
              have H' := Aside0.mk H
              clear H
              have hnb265 := NB366_367.out
              have hnc265 := NB367_366.out
              have hcz266_0 := bC BK366 0 (.int .i64 t358)
              have hcz266_1 := bC BK366 1 (.int .i64 t359)
              have hcz266_2 := bC BK366 2 (.int .i64 t360)
              have hcz266_3 := bC BK366 3 (.int .i64 t361)
              have hfz266_0 := blk_frozen BK366.out 0
              have hfz266_1 := blk_frozen BK366.out 1
              have hfz266_2 := blk_frozen BK366.out 2
              have hfz266_3 := blk_frozen BK366.out 3
              go_wp2_with (first | (go_at_call 9; (with_reducible refine (impl_IsSegment.calls t358 t359 t360 t361 true _ A87.out).mono ?_); rintro e w267 ⟨rfl, hb⟩; replace BK366 := mB BK366 hb; replace BK367 := mB BK367 hb; replace HB := sB2 HB hb GE366 GE367; (try clear hb); have hcz268_0 := bC BK367 0 (.int .i64 t362); have hcz268_1 := bC BK367 1 (.int .i64 t363); have hcz268_2 := bC BK367 2 (.int .i64 t364); have hcz268_3 := bC BK367 3 (.int .i64 t365); have hfz268_0 := blk_frozen BK367.out 0; have hfz268_1 := blk_frozen BK367.out 1; have hfz268_2 := blk_frozen BK367.out 2; have hfz268_3 := blk_frozen BK367.out 3) | (go_at_call 9; (with_reducible refine (impl_IsSegment.calls t362 t363 t364 t365 false _ A89.out).mono ?_); rintro e w269 ⟨rfl, hb⟩; replace BK366 := mB BK366 hb; replace BK367 := mB BK367 hb; replace HB := sB2 HB hb GE366 GE367; (try clear hb)))
              go_meet
              case rel => exact ⟨_, (false), (by first | rfl | (simp; done) | (simp [*]; done)), H', ⟨by have := HJ7.out; have := HJ38.out; first | omega | exact Nat.le_refl _⟩, ⟨by (with_reducible repeat (first | refine blk_drewN ?_ _ | refine blk_drew ?_ | refine blk_alloc ?_ _)); exact BK366.out⟩, ⟨by (with_reducible repeat (first | refine blk_drewN ?_ _ | refine blk_drew ?_ | refine blk_alloc ?_ _)); exact BK367.out⟩, ⟨eB2 HB GE366 GE367⟩⟩
           ·replace c88 := Bool.eq_false_iff.mpr c88
            subst c88
            have H1 : (if t368 = 2 then ((impl_IsOn.f kj38 t358 t359 t360 t361 t362 t363).bind fun t398 => (if t398 = true then (laws_FnSegments.j2 kj38 l0 true) else ((impl_IsOn.f kj38 t358 t359 t360 t361 t364 t365).bind fun t399 => (if t399 = true then (laws_FnSegments.j2 kj38 l0 true) else ((impl_IsOn.f kj38 t362 t363 t364 t365 t358 t359).bind fun t400 => (if t400 = true then (laws_FnSegments.j2 kj38 l0 true) else ((impl_IsOn.f kj38 t362 t363 t364 t365 t360 t361).bind fun t401 => (laws_FnSegments.j2 kj38 l0 t401)))))))) else (laws_FnSegments.j2 kj38 l0 false)) = some r := by rw [if_neg (show ¬ (false = true) by decide)] at H; exact H
            clear H
            have H := H1
            clear H1
            by_cases c270 : t368 = 2
            ·exact absurd ((beq_iff_eq.mp c86b0).symm.trans c270) (by decide)
            ·rw [if_neg c270] at H
             have c270b0 : (t368 == 2) = false := beq_eq_false_iff_ne.mpr c270
             have c270b1 : (t368 != 2) = true := bne_iff_ne.mpr c270
             have H' := Aside0.mk H
             clear H
             have hnb320 := NB366_367.out
             have hnc320 := NB367_366.out
             have hcz321_0 := bC BK366 0 (.int .i64 t358)
             have hcz321_1 := bC BK366 1 (.int .i64 t359)
             have hcz321_2 := bC BK366 2 (.int .i64 t360)
             have hcz321_3 := bC BK366 3 (.int .i64 t361)
             have hfz321_0 := blk_frozen BK366.out 0
             have hfz321_1 := blk_frozen BK366.out 1
             have hfz321_2 := blk_frozen BK366.out 2
             have hfz321_3 := blk_frozen BK366.out 3
             go_wp2_with (first | (go_at_call 9; (with_reducible refine (impl_IsSegment.calls t358 t359 t360 t361 false _ A87.out).mono ?_); rintro e w322 ⟨rfl, hb⟩; replace BK366 := mB BK366 hb; replace BK367 := mB BK367 hb; replace HB := sB2 HB hb GE366 GE367; (try clear hb)))
             go_meet
             case rel => exact ⟨_, (false), (by first | rfl | (simp; done) | (simp [*]; done)), H', ⟨by have := HJ7.out; have := HJ38.out; first | omega | exact Nat.le_refl _⟩, ⟨by (with_reducible repeat (first | refine blk_drewN ?_ _ | refine blk_drew ?_ | refine blk_alloc ?_ _)); exact BK366.out⟩, ⟨by (with_reducible repeat (first | refine blk_drewN ?_ _ | refine blk_drew ?_ | refine blk_alloc ?_ _)); exact BK367.out⟩, ⟨eB2 HB GE366 GE367⟩⟩
          ·rw [if_neg c86] at H
           have c86b0 : (t368 == 0) = false := beq_eq_false_iff_ne.mpr c86
           have c86b1 : (t368 != 0) = true := bne_iff_ne.mpr c86
           (first | rw [c86b0] | (simp only [i64_w, i32_w]; rw [c86b0]) | skip)
           by_cases c323 : t368 = 2
           ·rw [if_pos c323] at H
            have c323b0 : (t368 == 2) = true := beq_iff_eq.mpr c323
            have c323b1 : (t368 != 2) = false := bne_eq_false_iff_eq.mpr c323
            clear c323
            replace H := Option.bind_eq_some_iff.mp H
            obtain ⟨t402, A3240, H⟩ := H
            replace H : (if t402 = true then (laws_FnSegments.j2 kj38 l0 true) else ((impl_IsOn.f kj38 t358 t359 t360 t361 t364 t365).bind fun t403 => (if t403 = true then (laws_FnSegments.j2 kj38 l0 true) else ((impl_IsOn.f kj38 t362 t363 t364 t365 t358 t359).bind fun t404 => (if t404 = true then (laws_FnSegments.j2 kj38 l0 true) else ((impl_IsOn.f kj38 t362 t363 t364 t365 t360 t361).bind fun t405 => (laws_FnSegments.j2 kj38 l0 t405))))))) = some r := H
            have A324 := Aside0.mk A3240
            clear A3240
            by_cases c325 : t402 = true
            ·subst c325
             have H1 : (laws_FnSegments.j2 kj38 l0 true) = some r := by rw [if_pos rfl] at H; exact H
             clear H
             have H := H1
             clear H1
             have H' := Aside0.mk H
             clear H
             have hnb326 := NB366_367.out
             have hnc326 := NB367_366.out
             have hcz327_0 := bC BK366 0 (.int .i64 t358)
             have hcz327_1 := bC BK366 1 (.int .i64 t359)
             have hcz327_2 := bC BK366 2 (.int .i64 t360)
             have hcz327_3 := bC BK366 3 (.int .i64 t361)
             have hfz327_0 := blk_frozen BK366.out 0
             have hfz327_1 := blk_frozen BK366.out 1
             have hfz327_2 := blk_frozen BK366.out 2
             have hfz327_3 := blk_frozen BK366.out 3
             have hcz328_0 := bC BK367 0 (.int .i64 t362)
             have hcz328_1 := bC BK367 1 (.int .i64 t363)
             have hcz328_2 := bC BK367 2 (.int .i64 t364)
             have hcz328_3 := bC BK367 3 (.int .i64 t365)
             have hfz328_0 := blk_frozen BK367.out 0
             have hfz328_1 := blk_frozen BK367.out 1
             have hfz328_2 := blk_frozen BK367.out 2
             have hfz328_3 := blk_frozen BK367.out 3
             go_wp2_with (first | (go_at_call 10; (with_reducible refine (impl_IsOn.calls kj38 t358 t359 t360 t361 t362 t363 true _ A324.out).mono ?_); rintro e w329 ⟨rfl, hb⟩; replace BK366 := mB BK366 hb; replace BK367 := mB BK367 hb; replace HB := sB2 HB hb GE366 GE367; (try clear hb)))
             go_meet
             case rel => exact ⟨_, (true), (by first | rfl | (simp; done) | (simp [*]; done)), H', ⟨by have := HJ7.out; have := HJ38.out; first | omega | exact Nat.le_refl _⟩, ⟨by (with_reducible repeat (first | refine blk_drewN ?_ _ | refine blk_drew ?_ | refine blk_alloc ?_ _)); exact BK366.out⟩, ⟨by (with_reducible repeat (first | refine blk_drewN ?_ _ | refine blk_drew ?_ | refine blk_alloc ?_ _)); exact BK367.out⟩, ⟨eB2 HB GE366 GE367⟩⟩
            ·replace c325 := Bool.eq_false_iff.mpr c325
             subst c325
             have H1 : ((impl_IsOn.f kj38 t358 t359 t360 t361 t364 t365).bind fun t403 => (if t403 = true then (laws_FnSegments.j2 kj38 l0 true) else ((impl_IsOn.f kj38 t362 t363 t364 t365 t358 t359).bind fun t404 => (if t404 = true then (laws_FnSegments.j2 kj38 l0 true) else ((impl_IsOn.f kj38 t362 t363 t364 t365 t360 t361).bind fun t405 => (laws_FnSegments.j2 kj38 l0 t405)))))) = some r := by rw [if_neg (show ¬ (false = true) by decide)] at H; exact H
             clear H
             have H := H1
             clear H1
             replace H := Option.bind_eq_some_iff.mp H
             obtain ⟨t403, A3300, H⟩ := H
             replace H : (if t403 = true then (laws_FnSegments.j2 kj38 l0 true) else ((impl_IsOn.f kj38 t362 t363 t364 t365 t358 t359).bind fun t404 => (if t404 = true then (laws_FnSegments.j2 kj38 l0 true) else ((impl_IsOn.f kj38 t362 t363 t364 t365 t360 t361).bind fun t405 => (laws_FnSegments.j2 kj38 l0 t405))))) = some r := H
             have A330 := Aside0.mk A3300
             clear A3300
             by_cases c331 : t403 = true
             ·subst c331
              have H1 : (laws_FnSegments.j2 kj38 l0 true) = some r := by rw [if_pos rfl] at H; exact H
              clear H
              have H := H1
              clear H1
              have H' := Aside0.mk H
              clear H
              have hnb332 := NB366_367.out
              have hnc332 := NB367_366.out
              have hcz333_0 := bC BK366 0 (.int .i64 t358)
              have hcz333_1 := bC BK366 1 (.int .i64 t359)
              have hcz333_2 := bC BK366 2 (.int .i64 t360)
              have hcz333_3 := bC BK366 3 (.int .i64 t361)
              have hfz333_0 := blk_frozen BK366.out 0
              have hfz333_1 := blk_frozen BK366.out 1
              have hfz333_2 := blk_frozen BK366.out 2
              have hfz333_3 := blk_frozen BK366.out 3
              have hcz334_0 := bC BK367 0 (.int .i64 t362)
              have hcz334_1 := bC BK367 1 (.int .i64 t363)
              have hcz334_2 := bC BK367 2 (.int .i64 t364)
              have hcz334_3 := bC BK367 3 (.int .i64 t365)
              have hfz334_0 := blk_frozen BK367.out 0
              have hfz334_1 := blk_frozen BK367.out 1
              have hfz334_2 := blk_frozen BK367.out 2
              have hfz334_3 := blk_frozen BK367.out 3
              go_wp2_with (first | (go_at_call 10; (with_reducible refine (impl_IsOn.calls kj38 t358 t359 t360 t361 t362 t363 false _ A324.out).mono ?_); rintro e w335 ⟨rfl, hb⟩; replace BK366 := mB BK366 hb; replace BK367 := mB BK367 hb; replace HB := sB2 HB hb GE366 GE367; (try clear hb); have hcz336_0 := bC BK366 0 (.int .i64 t358); have hcz336_1 := bC BK366 1 (.int .i64 t359); have hcz336_2 := bC BK366 2 (.int .i64 t360); have hcz336_3 := bC BK366 3 (.int .i64 t361); have hfz336_0 := blk_frozen BK366.out 0; have hfz336_1 := blk_frozen BK366.out 1; have hfz336_2 := blk_frozen BK366.out 2; have hfz336_3 := blk_frozen BK366.out 3; have hcz337_0 := bC BK367 0 (.int .i64 t362); have hcz337_1 := bC BK367 1 (.int .i64 t363); have hcz337_2 := bC BK367 2 (.int .i64 t364); have hcz337_3 := bC BK367 3 (.int .i64 t365); have hfz337_0 := blk_frozen BK367.out 0; have hfz337_1 := blk_frozen BK367.out 1; have hfz337_2 := blk_frozen BK367.out 2; have hfz337_3 := blk_frozen BK367.out 3) | (go_at_call 10; (with_reducible refine (impl_IsOn.calls kj38 t358 t359 t360 t361 t364 t365 true _ A330.out).mono ?_); rintro e w338 ⟨rfl, hb⟩; replace BK366 := mB BK366 hb; replace BK367 := mB BK367 hb; replace HB := sB2 HB hb GE366 GE367; (try clear hb)))
              go_meet
              case rel => exact ⟨_, (true), (by first | rfl | (simp; done) | (simp [*]; done)), H', ⟨by have := HJ7.out; have := HJ38.out; first | omega | exact Nat.le_refl _⟩, ⟨by (with_reducible repeat (first | refine blk_drewN ?_ _ | refine blk_drew ?_ | refine blk_alloc ?_ _)); exact BK366.out⟩, ⟨by (with_reducible repeat (first | refine blk_drewN ?_ _ | refine blk_drew ?_ | refine blk_alloc ?_ _)); exact BK367.out⟩, ⟨eB2 HB GE366 GE367⟩⟩
             ·replace c331 := Bool.eq_false_iff.mpr c331
              subst c331
              have H1 : ((impl_IsOn.f kj38 t362 t363 t364 t365 t358 t359).bind fun t404 => (if t404 = true then (laws_FnSegments.j2 kj38 l0 true) else ((impl_IsOn.f kj38 t362 t363 t364 t365 t360 t361).bind fun t405 => (laws_FnSegments.j2 kj38 l0 t405)))) = some r := by rw [if_neg (show ¬ (false = true) by decide)] at H; exact H
              clear H
              have H := H1
              clear H1
              replace H := Option.bind_eq_some_iff.mp H
              obtain ⟨t404, A3390, H⟩ := H
              replace H : (if t404 = true then (laws_FnSegments.j2 kj38 l0 true) else ((impl_IsOn.f kj38 t362 t363 t364 t365 t360 t361).bind fun t405 => (laws_FnSegments.j2 kj38 l0 t405))) = some r := H
              have A339 := Aside0.mk A3390
              clear A3390
              by_cases c340 : t404 = true
              ·subst c340
               have H1 : (laws_FnSegments.j2 kj38 l0 true) = some r := by rw [if_pos rfl] at H; exact H
               clear H
               have H := H1
               clear H1
               have H' := Aside0.mk H
               clear H
               have hnb341 := NB366_367.out
               have hnc341 := NB367_366.out
               have hcz342_0 := bC BK366 0 (.int .i64 t358)
               have hcz342_1 := bC BK366 1 (.int .i64 t359)
               have hcz342_2 := bC BK366 2 (.int .i64 t360)
               have hcz342_3 := bC BK366 3 (.int .i64 t361)
               have hfz342_0 := blk_frozen BK366.out 0
               have hfz342_1 := blk_frozen BK366.out 1
               have hfz342_2 := blk_frozen BK366.out 2
               have hfz342_3 := blk_frozen BK366.out 3
               have hcz343_0 := bC BK367 0 (.int .i64 t362)
               have hcz343_1 := bC BK367 1 (.int .i64 t363)
               have hcz343_2 := bC BK367 2 (.int .i64 t364)
               have hcz343_3 := bC BK367 3 (.int .i64 t365)
               have hfz343_0 := blk_frozen BK367.out 0
               have hfz343_1 := blk_frozen BK367.out 1
               have hfz343_2 := blk_frozen BK367.out 2
               have hfz343_3 := blk_frozen BK367.out 3
               go_wp2_with (first | (go_at_call 10; (with_reducible refine (impl_IsOn.calls kj38 t358 t359 t360 t361 t362 t363 false _ A324.out).mono ?_); rintro e w344 ⟨rfl, hb⟩; replace BK366 := mB BK366 hb; replace BK367 := mB BK367 hb; replace HB := sB2 HB hb GE366 GE367; (try clear hb); have hcz345_0 := bC BK366 0 (.int .i64 t358); have hcz345_1 := bC BK366 1 (.int .i64 t359); have hcz345_2 := bC BK366 2 (.int .i64 t360); have hcz345_3 := bC BK366 3 (.int .i64 t361); have hfz345_0 := blk_frozen BK366.out 0; have hfz345_1 := blk_frozen BK366.out 1; have hfz345_2 := blk_frozen BK366.out 2; have hfz345_3 := blk_frozen BK366.out 3; have hcz346_0 := bC BK367 0 (.int .i64 t362); have hcz346_1 := bC BK367 1 (.int .i64 t363); have hcz346_2 := bC BK367 2 (.int .i64 t364); have hcz346_3 := bC BK367 3 (.int .i64 t365); have hfz346_0 := blk_frozen BK367.out 0; have hfz346_1 := blk_frozen BK367.out 1; have hfz346_2 := blk_frozen BK367.out 2; have hfz346_3 := blk_frozen BK367.out 3) | (go_at_call 10; (with_reducible refine (impl_IsOn.calls kj38 t358 t359 t360 t361 t364 t365 false _ A330.out).mono ?_); rintro e w347 ⟨rfl, hb⟩; replace BK366 := mB BK366 hb; replace BK367 := mB BK367 hb; replace HB := sB2 HB hb GE366 GE367; (try clear hb); have hcz348_0 := bC BK367 0 (.int .i64 t362); have hcz348_1 := bC BK367 1 (.int .i64 t363); have hcz348_2 := bC BK367 2 (.int .i64 t364); have hcz348_3 := bC BK367 3 (.int .i64 t365); have hfz348_0 := blk_frozen BK367.out 0; have hfz348_1 := blk_frozen BK367.out 1; have hfz348_2 := blk_frozen BK367.out 2; have hfz348_3 := blk_frozen BK367.out 3; have hcz349_0 := bC BK366 0 (.int .i64 t358); have hcz349_1 := bC BK366 1 (.int .i64 t359); have hcz349_2 := bC BK366 2 (.int .i64 t360); have hcz349_3 := bC BK366 3 (.int .i64 t361); have hfz349_0 := blk_frozen BK366.out 0; have hfz349_1 := blk_frozen BK366.out 1; have hfz349_2 := blk_frozen BK366.out 2; have hfz349_3 := blk_frozen BK366.out 3) | (go_at_call 10; (with_reducible refine (impl_IsOn.calls kj38 t362 t363 t364 t365 t358 t359 true _ A339.out).mono ?_); rintro e w350 ⟨rfl, hb⟩; replace BK366 := mB BK366 hb; replace BK367 := mB BK367 hb; replace HB := sB2 HB hb GE366 GE367; (try clear hb)))
               go_meet
               case rel => exact ⟨_, (true), (by first | rfl | (simp; done) | (simp [*]; done)), H', ⟨by have := HJ7.out; have := HJ38.out; first | omega | exact Nat.le_refl _⟩, ⟨by (with_reducible repeat (first | refine blk_drewN ?_ _ | refine blk_drew ?_ | refine blk_alloc ?_ _)); exact BK366.out⟩, ⟨by (with_reducible repeat (first | refine blk_drewN ?_ _ | refine blk_drew ?_ | refine blk_alloc ?_ _)); exact BK367.out⟩, ⟨eB2 HB GE366 GE367⟩⟩
              ·replace c340 := Bool.eq_false_iff.mpr c340
               subst c340
               have H1 : ((impl_IsOn.f kj38 t362 t363 t364 t365 t360 t361).bind fun t405 => (laws_FnSegments.j2 kj38 l0 t405)) = some r := by rw [if_neg (show ¬ (false = true) by decide)] at H; exact H
               clear H
               have H := H1
               clear H1
               replace H := Option.bind_eq_some_iff.mp H
               obtain ⟨t405, A3510, H⟩ := H
               replace H : (laws_FnSegments.j2 kj38 l0 t405) = some r := H
               have A351 := Aside0.mk A3510
               clear A3510
               have H' := Aside0.mk H
               clear H
               have hnb352 := NB366_367.out
               have hnc352 := NB367_366.out
               have hcz353_0 := bC BK366 0 (.int .i64 t358)
               have hcz353_1 := bC BK366 1 (.int .i64 t359)
               have hcz353_2 := bC BK366 2 (.int .i64 t360)
               have hcz353_3 := bC BK366 3 (.int .i64 t361)
               have hfz353_0 := blk_frozen BK366.out 0
               have hfz353_1 := blk_frozen BK366.out 1
               have hfz353_2 := blk_frozen BK366.out 2
               have hfz353_3 := blk_frozen BK366.out 3
               have hcz354_0 := bC BK367 0 (.int .i64 t362)
               have hcz354_1 := bC BK367 1 (.int .i64 t363)
               have hcz354_2 := bC BK367 2 (.int .i64 t364)
               have hcz354_3 := bC BK367 3 (.int .i64 t365)
               have hfz354_0 := blk_frozen BK367.out 0
               have hfz354_1 := blk_frozen BK367.out 1
               have hfz354_2 := blk_frozen BK367.out 2
               have hfz354_3 := blk_frozen BK367.out 3
               go_wp2_with (first | (go_at_call 10; (with_reducible refine (impl_IsOn.calls kj38 t358 t359 t360 t361 t362 t363 false _ A324.out).mono ?_); rintro e w355 ⟨rfl, hb⟩; replace BK366 := mB BK366 hb; replace BK367 := mB BK367 hb; replace HB := sB2 HB hb GE366 GE367; (try clear hb); have hcz356_0 := bC BK366 0 (.int .i64 t358); have hcz356_1 := bC BK366 1 (.int .i64 t359); have hcz356_2 := bC BK366 2 (.int .i64 t360); have hcz356_3 := bC BK366 3 (.int .i64 t361); have hfz356_0 := blk_frozen BK366.out 0; have hfz356_1 := blk_frozen BK366.out 1; have hfz356_2 := blk_frozen BK366.out 2; have hfz356_3 := blk_frozen BK366.out 3; have hcz357_0 := bC BK367 0 (.int .i64 t362); have hcz357_1 := bC BK367 1 (.int .i64 t363); have hcz357_2 := bC BK367 2 (.int .i64 t364); have hcz357_3 := bC BK367 3 (.int .i64 t365); have hfz357_0 := blk_frozen BK367.out 0; have hfz357_1 := blk_frozen BK367.out 1; have hfz357_2 := blk_frozen BK367.out 2; have hfz357_3 := blk_frozen BK367.out 3) | (go_at_call 10; (with_reducible refine (impl_IsOn.calls kj38 t358 t359 t360 t361 t364 t365 false _ A330.out).mono ?_); rintro e w358 ⟨rfl, hb⟩; replace BK366 := mB BK366 hb; replace BK367 := mB BK367 hb; replace HB := sB2 HB hb GE366 GE367; (try clear hb); have hcz359_0 := bC BK367 0 (.int .i64 t362); have hcz359_1 := bC BK367 1 (.int .i64 t363); have hcz359_2 := bC BK367 2 (.int .i64 t364); have hcz359_3 := bC BK367 3 (.int .i64 t365); have hfz359_0 := blk_frozen BK367.out 0; have hfz359_1 := blk_frozen BK367.out 1; have hfz359_2 := blk_frozen BK367.out 2; have hfz359_3 := blk_frozen BK367.out 3; have hcz360_0 := bC BK366 0 (.int .i64 t358); have hcz360_1 := bC BK366 1 (.int .i64 t359); have hcz360_2 := bC BK366 2 (.int .i64 t360); have hcz360_3 := bC BK366 3 (.int .i64 t361); have hfz360_0 := blk_frozen BK366.out 0; have hfz360_1 := blk_frozen BK366.out 1; have hfz360_2 := blk_frozen BK366.out 2; have hfz360_3 := blk_frozen BK366.out 3) | (go_at_call 10; (with_reducible refine (impl_IsOn.calls kj38 t362 t363 t364 t365 t358 t359 false _ A339.out).mono ?_); rintro e w361 ⟨rfl, hb⟩; replace BK366 := mB BK366 hb; replace BK367 := mB BK367 hb; replace HB := sB2 HB hb GE366 GE367; (try clear hb); have hcz362_0 := bC BK367 0 (.int .i64 t362); have hcz362_1 := bC BK367 1 (.int .i64 t363); have hcz362_2 := bC BK367 2 (.int .i64 t364); have hcz362_3 := bC BK367 3 (.int .i64 t365); have hfz362_0 := blk_frozen BK367.out 0; have hfz362_1 := blk_frozen BK367.out 1; have hfz362_2 := blk_frozen BK367.out 2; have hfz362_3 := blk_frozen BK367.out 3; have hcz363_0 := bC BK366 0 (.int .i64 t358); have hcz363_1 := bC BK366 1 (.int .i64 t359); have hcz363_2 := bC BK366 2 (.int .i64 t360); have hcz363_3 := bC BK366 3 (.int .i64 t361); have hfz363_0 := blk_frozen BK366.out 0; have hfz363_1 := blk_frozen BK366.out 1; have hfz363_2 := blk_frozen BK366.out 2; have hfz363_3 := blk_frozen BK366.out 3) | (go_at_call 10; (with_reducible refine (impl_IsOn.calls kj38 t362 t363 t364 t365 t360 t361 t405 _ A351.out).mono ?_); rintro e w364 ⟨rfl, hb⟩; replace BK366 := mB BK366 hb; replace BK367 := mB BK367 hb; replace HB := sB2 HB hb GE366 GE367; (try clear hb)))
               go_meet
               case rel => exact ⟨_, (t405), (by first | rfl | (simp; done) | (simp [*]; done)), H', ⟨by have := HJ7.out; have := HJ38.out; first | omega | exact Nat.le_refl _⟩, ⟨by (with_reducible repeat (first | refine blk_drewN ?_ _ | refine blk_drew ?_ | refine blk_alloc ?_ _)); exact BK366.out⟩, ⟨by (with_reducible repeat (first | refine blk_drewN ?_ _ | refine blk_drew ?_ | refine blk_alloc ?_ _)); exact BK367.out⟩, ⟨eB2 HB GE366 GE367⟩⟩
           ·rw [if_neg c323] at H
            have c323b0 : (t368 == 2) = false := beq_eq_false_iff_ne.mpr c323
            have c323b1 : (t368 != 2) = true := bne_iff_ne.mpr c323
            have H' := Aside0.mk H
            clear H
            go_wp2
            go_meet
            case rel => exact ⟨_, (false), (by first | rfl | (simp; done) | (simp [*]; done)), H', ⟨by have := HJ7.out; have := HJ38.out; first | omega | exact Nat.le_refl _⟩, ⟨by (with_reducible repeat (first | refine blk_drewN ?_ _ | refine blk_drew ?_ | refine blk_alloc ?_ _)); exact BK366.out⟩, ⟨by (with_reducible repeat (first | refine blk_drewN ?_ _ | refine blk_drew ?_ | refine blk_alloc ?_ _)); exact BK367.out⟩, ⟨eB2 HB GE366 GE367⟩⟩
         case rest =>
          clear HC85
          try clear c1
          try clear c2
          try clear p2
          try clear c3
          try clear c8
          try clear c9
          try clear c11
          try clear c13
          try clear c15
          try clear c17
          try clear c19
          try clear c20
          try clear c21
          try clear c22
          try clear c23
          try clear c24
          try clear c26
          try clear c27
          try clear c28
          try clear c29
          try clear c30
          try clear c32
          try clear c33
          try clear c34
          try clear c35
          try clear c86
          try clear c86b0
          try clear c86b1
          try clear c88
          try clear c90
          try clear c114
          try clear c114b0
          try clear c114b1
          try clear c116
          try clear c117
          try clear c132
          try clear c133
          try clear c151
          try clear c152
          try clear c173
          try clear c196
          try clear c207
          try clear c207b0
          try clear c207b1
          try clear c209
          try clear c210
          try clear c219
          try clear c220
          try clear c232
          try clear c233
          try clear c248
          try clear c265
          try clear c270
          try clear c270b0
          try clear c270b1
          try clear c272
          try clear c273
          try clear c280
          try clear c281
          try clear c291
          try clear c292
          try clear c305
          try clear c320
          try clear c323
          try clear c323b0
          try clear c323b1
          try clear c325
          try clear c326
          try clear c331
          try clear c332
          try clear c340
          try clear c341
          try clear c352
          obtain ⟨kq, x121_84, rfl, HA, HJ84, BK366, BK367, HB⟩ := hcut
          cases kq with
          | zero => exact absurd HA.out (by simp [laws_FnSegments.j2])
          | succ kj84 =>
           have H := HA.out
           clear HA
           simp only [laws_FnSegments.j2] at H
           by_cases c365 : x121_84 = true
           ·subst c365
            have H1 : (some false) = some r := by rw [if_pos rfl] at H; exact H
            clear H
            have H := H1
            clear H1
            obtain rfl := Option.some.inj H
            go_wp2
            go_ret
            exact ⟨by first | rfl | (simp [errW_none, errW_some] <;> rfl) | (simp [*, errW_none, errW_some] <;> rfl), eB2 HB GE366 GE367⟩
           ·replace c365 := Bool.eq_false_iff.mpr c365
            subst c365
            have H1 : ((spec_DrawIsOn.f kj84 l0).bind fun bt406 => ((impl_IsOn.f kj84 bt406.1 bt406.2.1 bt406.2.2.1 bt406.2.2.2.1 bt406.2.2.2.2.1 bt406.2.2.2.2.2).bind fun t414 => ((impl_TurnSegment.f bt406.1 bt406.2.1 bt406.2.2.1 bt406.2.2.2.1).bind fun bt415 => ((impl_IsOn.f kj84 bt415.1 bt415.2.1 bt415.2.2.1 bt415.2.2.2 bt406.2.2.2.2.1 bt406.2.2.2.2.2).bind fun t419 => (if (t414 == t419) = true then ((impl_IsBetween.f kj84 bt406.1 bt406.2.1 bt406.2.2.1 bt406.2.2.2.1 bt406.2.2.2.2.1 bt406.2.2.2.2.2).bind fun t420 => (if t420 = true then ((impl_IsOn.f kj84 bt406.1 bt406.2.1 bt406.2.2.1 bt406.2.2.2.1 bt406.2.2.2.2.1 bt406.2.2.2.2.2).bind fun t421 => (some t421)) else (some true))) else (some false)))))) = some r := by rw [if_neg (show ¬ (false = true) by decide)] at H; exact H
            clear H
            have H := H1
            clear H1
            replace H := Option.bind_eq_some_iff.mp H
            obtain ⟨⟨t406, t407, t408, t409, t410, t411⟩, A3660, H⟩ := H
            replace H : ((impl_IsOn.f kj84 t406 t407 t408 t409 t410 t411).bind fun t414 => ((impl_TurnSegment.f t406 t407 t408 t409).bind fun bt415 => ((impl_IsOn.f kj84 bt415.1 bt415.2.1 bt415.2.2.1 bt415.2.2.2 t410 t411).bind fun t419 => (if (t414 == t419) = true then ((impl_IsBetween.f kj84 t406 t407 t408 t409 t410 t411).bind fun t420 => (if t420 = true then ((impl_IsOn.f kj84 t406 t407 t408 t409 t410 t411).bind fun t421 => (some t421)) else (some true))) else (some false))))) = some r := H
            have A366 := Aside0.mk A3660
            clear A3660
            replace H := Option.bind_eq_some_iff.mp H
            obtain ⟨t414, A3670, H⟩ := H
            replace H : ((impl_TurnSegment.f t406 t407 t408 t409).bind fun bt415 => ((impl_IsOn.f kj84 bt415.1 bt415.2.1 bt415.2.2.1 bt415.2.2.2 t410 t411).bind fun t419 => (if (t414 == t419) = true then ((impl_IsBetween.f kj84 t406 t407 t408 t409 t410 t411).bind fun t420 => (if t420 = true then ((impl_IsOn.f kj84 t406 t407 t408 t409 t410 t411).bind fun t421 => (some t421)) else (some true))) else (some false)))) = some r := H
            have A367 := Aside0.mk A3670
            clear A3670
            replace H := Option.bind_eq_some_iff.mp H
            obtain ⟨⟨t415, t416, t417, t418⟩, A3680, H⟩ := H
            replace H : ((impl_IsOn.f kj84 t415 t416 t417 t418 t410 t411).bind fun t419 => (if (t414 == t419) = true then ((impl_IsBetween.f kj84 t406 t407 t408 t409 t410 t411).bind fun t420 => (if t420 = true then ((impl_IsOn.f kj84 t406 t407 t408 t409 t410 t411).bind fun t421 => (some t421)) else (some true))) else (some false))) = some r := H
            have A368 := Aside0.mk A3680
            clear A3680
            replace H := Option.bind_eq_some_iff.mp H
            obtain ⟨t419, A3690, H⟩ := H
            replace H : (if (t414 == t419) = true then ((impl_IsBetween.f kj84 t406 t407 t408 t409 t410 t411).bind fun t420 => (if t420 = true then ((impl_IsOn.f kj84 t406 t407 t408 t409 t410 t411).bind fun t421 => (some t421)) else (some true))) else (some false)) = some r := H
            have A369 := Aside0.mk A3690
            clear A3690
            by_cases c370 : (t414 == t419) = true
            ·rw [if_pos c370] at H
             have c370b0 : (t414 == t419) = true := c370
             (try (have c370b1 : decide (t414 = t419) = true := by simpa using c370))
             (try (have c370b2 : (t414 == t419) = true := by simpa using c370))
             clear c370
             replace H := Option.bind_eq_some_iff.mp H
             obtain ⟨t420, A3710, H⟩ := H
             replace H : (if t420 = true then ((impl_IsOn.f kj84 t406 t407 t408 t409 t410 t411).bind fun t421 => (some t421)) else (some true)) = some r := H
             have A371 := Aside0.mk A3710
             clear A3710
             by_cases c372 : t420 = true
             ·subst c372
              have H1 : ((impl_IsOn.f kj84 t406 t407 t408 t409 t410 t411).bind fun t421 => (some t421)) = some r := by rw [if_pos rfl] at H; exact H
              clear H
              have H := H1
              clear H1
              replace H := Option.bind_eq_some_iff.mp H
              obtain ⟨t421, A3730, H⟩ := H
              replace H : (some t421) = some r := H
              have A373 := Aside0.mk A3730
              clear A3730
              obtain rfl := Option.some.inj H
              try go_wp2_with (first | ((with_reducible refine gate_callee (f := 12) rfl ?_); refine gL (some 124) Try.func12 #[.slice A0 l0.length c0] ?_; (with_reducible refine (spec_DrawIsOn.calls kj84 _ _ l0 t406 t407 t408 t409 t410 t411 _ ?side1 ?side2 A366.out).mono ?_); (case side1 => exact cM (Kd.C_below HR0.out HB.out)); (case side2 => exact HC0.out); rintro e w374 ⟨rfl, hb⟩; refine ⟨_, rfl, ?_⟩; replace BK366 := mB BK366 hb; replace BK367 := mB BK367 hb; replace HB := sB2 HB hb GE366 GE367; (try clear hb)) | ((with_reducible refine gate_dst (N := 6) rfl ?_); refine box_event ?hg (N := 6) ?hd (cs := #[.int .i64 0, .int .i64 0, .int .i64 0, .int .i64 0]) (t := 27) ?hr ?_; (case hd => rfl); (case hg => rfl); (case hr => first | (go_simp; done) | (go_simp; rfl)); intro gb412 hg w375 hbox hb; have BK412 := Aside0.mk (hbox); have GW412 := zB2 HB hg GE366 GE367; have GE412 := zB2 HB hg GE366 GE367; have NB366_412 := nL BK366 hg; have NB412_366 := nG BK366 hg; have NB367_412 := nL BK367 hg; have NB412_367 := nG BK367 hg; replace BK366 := mB BK366 hb; replace BK367 := mB BK367 hb; replace HB := sB2 HB hb GE366 GE367; clear hb hbox hg) | ((with_reducible refine gate_dst (N := 7) rfl ?_); refine box_event ?hg (N := 7) ?hd (cs := #[.int .i64 0, .int .i64 0]) (t := 25) ?hr ?_; (case hd => rfl); (case hg => rfl); (case hr => first | (go_simp; done) | (go_simp; rfl)); intro gb413 hg w376 hbox hb; have BK413 := Aside0.mk (hbox); have GW413 := zB3 HB hg GE366 GE367 GE412; have GE413 := zB3 HB hg GE366 GE367 GE412; have NB366_413 := nL BK366 hg; have NB413_366 := nG BK366 hg; have NB367_413 := nL BK367 hg; have NB413_367 := nG BK367 hg; have NB412_413 := nL BK412 hg; have NB413_412 := nG BK412 hg; replace BK366 := mB BK366 hb; replace BK367 := mB BK367 hb; replace BK412 := mB BK412 hb; replace HB := sB3 HB hb GE366 GE367 GE412; clear hb hbox hg; have hnb377 := NB412_366.out; have hnc377 := NB366_412.out; have hnb378 := NB412_367.out; have hnc378 := NB367_412.out; have hnb379 := NB412_413.out; have hnc379 := NB413_412.out; have hcz380_0 := bC BK412 0 (.int .i64 0); have hcz380_1 := bC BK412 1 (.int .i64 0); have hcz380_2 := bC BK412 2 (.int .i64 0); have hcz380_3 := bC BK412 3 (.int .i64 0); have hfz380_0 := blk_frozen BK412.out 0; have hfz380_1 := blk_frozen BK412.out 1; have hfz380_2 := blk_frozen BK412.out 2; have hfz380_3 := blk_frozen BK412.out 3; have hnb381 := NB413_366.out; have hnc381 := NB366_413.out; have hnb382 := NB413_367.out; have hnc382 := NB367_413.out; have hcz383_0 := bC BK413 0 (.int .i64 0); have hcz383_1 := bC BK413 1 (.int .i64 0); have hfz383_0 := blk_frozen BK413.out 0; have hfz383_1 := blk_frozen BK413.out 1))
              have n0_ : Aside0 (((((((w376.setCell ⟨gb412, 0, none⟩ (.int .i64 t406)).setCell ⟨gb412, 1, none⟩ (.int .i64 t407)).setCell ⟨gb412, 2, none⟩ (.int .i64 t408)).setCell ⟨gb412, 3, none⟩ (.int .i64 t409)).setCell ⟨gb413, 0, none⟩ (.int .i64 t410)).setCell ⟨gb413, 1, none⟩ (.int .i64 t411)).heap[gb366]? = some (.cells #[.int .i64 t358, .int .i64 t359, .int .i64 t360, .int .i64 t361] 27 (0, 0))) := ⟨by (with_reducible repeat (first | refine blk_drewN ?_ _ | refine blk_drew ?_ | refine blk_alloc ?_ _)); refine blk_far ?_ NB366_413.out _; (with_reducible repeat (first | refine blk_drewN ?_ _ | refine blk_drew ?_ | refine blk_alloc ?_ _)); refine blk_far ?_ NB366_413.out _; (with_reducible repeat (first | refine blk_drewN ?_ _ | refine blk_drew ?_ | refine blk_alloc ?_ _)); refine blk_far ?_ NB366_412.out _; (with_reducible repeat (first | refine blk_drewN ?_ _ | refine blk_drew ?_ | refine blk_alloc ?_ _)); refine blk_far ?_ NB366_412.out _; (with_reducible repeat (first | refine blk_drewN ?_ _ | refine blk_drew ?_ | refine blk_alloc ?_ _)); refine blk_far ?_ NB366_412.out _; (with_reducible repeat (first | refine blk_drewN ?_ _ | refine blk_drew ?_ | refine blk_alloc ?_ _)); refine blk_far ?_ NB366_412.out _; (with_reducible repeat (first | refine blk_drewN ?_ _ | refine blk_drew ?_ | refine blk_alloc ?_ _)); exact BK366.out⟩
              have n1_ : Aside0 (((((((w376.setCell ⟨gb412, 0, none⟩ (.int .i64 t406)).setCell ⟨gb412, 1, none⟩ (.int .i64 t407)).setCell ⟨gb412, 2, none⟩ (.int .i64 t408)).setCell ⟨gb412, 3, none⟩ (.int .i64 t409)).setCell ⟨gb413, 0, none⟩ (.int .i64 t410)).setCell ⟨gb413, 1, none⟩ (.int .i64 t411)).heap[gb367]? = some (.cells #[.int .i64 t362, .int .i64 t363, .int .i64 t364, .int .i64 t365] 27 (0, 0))) := ⟨by (with_reducible repeat (first | refine blk_drewN ?_ _ | refine blk_drew ?_ | refine blk_alloc ?_ _)); refine blk_far ?_ NB367_413.out _; (with_reducible repeat (first | refine blk_drewN ?_ _ | refine blk_drew ?_ | refine blk_alloc ?_ _)); refine blk_far ?_ NB367_413.out _; (with_reducible repeat (first | refine blk_drewN ?_ _ | refine blk_drew ?_ | refine blk_alloc ?_ _)); refine blk_far ?_ NB367_412.out _; (with_reducible repeat (first | refine blk_drewN ?_ _ | refine blk_drew ?_ | refine blk_alloc ?_ _)); refine blk_far ?_ NB367_412.out _; (with_reducible repeat (first | refine blk_drewN ?_ _ | refine blk_drew ?_ | refine blk_alloc ?_ _)); refine blk_far ?_ NB367_412.out _; (with_reducible repeat (first | refine blk_drewN ?_ _ | refine blk_drew ?_ | refine blk_alloc ?_ _)); refine blk_far ?_ NB367_412.out _; (with_reducible repeat (first | refine blk_drewN ?_ _ | refine blk_drew ?_ | refine blk_alloc ?_ _)); exact BK367.out⟩
              have n2_ : Aside0 (((((((w376.setCell ⟨gb412, 0, none⟩ (.int .i64 t406)).setCell ⟨gb412, 1, none⟩ (.int .i64 t407)).setCell ⟨gb412, 2, none⟩ (.int .i64 t408)).setCell ⟨gb412, 3, none⟩ (.int .i64 t409)).setCell ⟨gb413, 0, none⟩ (.int .i64 t410)).setCell ⟨gb413, 1, none⟩ (.int .i64 t411)).heap[gb412]? = some (.cells #[.int .i64 t406, .int .i64 t407, .int .i64 t408, .int .i64 t409] 27 (0, 0))) := ⟨by (with_reducible repeat (first | refine blk_drewN ?_ _ | refine blk_drew ?_ | refine blk_alloc ?_ _)); refine blk_far ?_ NB412_413.out _; (with_reducible repeat (first | refine blk_drewN ?_ _ | refine blk_drew ?_ | refine blk_alloc ?_ _)); refine blk_far ?_ NB412_413.out _; (with_reducible repeat (first | refine blk_drewN ?_ _ | refine blk_drew ?_ | refine blk_alloc ?_ _)); refine blk_put (cs := #[.int .i64 t406, .int .i64 t407, .int .i64 t408, .int .i64 0]) ?_ 3 _ rfl; (with_reducible repeat (first | refine blk_drewN ?_ _ | refine blk_drew ?_ | refine blk_alloc ?_ _)); refine blk_put (cs := #[.int .i64 t406, .int .i64 t407, .int .i64 0, .int .i64 0]) ?_ 2 _ rfl; (with_reducible repeat (first | refine blk_drewN ?_ _ | refine blk_drew ?_ | refine blk_alloc ?_ _)); refine blk_put (cs := #[.int .i64 t406, .int .i64 0, .int .i64 0, .int .i64 0]) ?_ 1 _ rfl; (with_reducible repeat (first | refine blk_drewN ?_ _ | refine blk_drew ?_ | refine blk_alloc ?_ _)); refine blk_put (cs := #[.int .i64 0, .int .i64 0, .int .i64 0, .int .i64 0]) ?_ 0 _ rfl; (with_reducible repeat (first | refine blk_drewN ?_ _ | refine blk_drew ?_ | refine blk_alloc ?_ _)); exact BK412.out⟩
              have n3_ : Aside0 (((((((w376.setCell ⟨gb412, 0, none⟩ (.int .i64 t406)).setCell ⟨gb412, 1, none⟩ (.int .i64 t407)).setCell ⟨gb412, 2, none⟩ (.int .i64 t408)).setCell ⟨gb412, 3, none⟩ (.int .i64 t409)).setCell ⟨gb413, 0, none⟩ (.int .i64 t410)).setCell ⟨gb413, 1, none⟩ (.int .i64 t411)).heap[gb413]? = some (.cells #[.int .i64 t410, .int .i64 t411] 25 (0, 0))) := ⟨by (with_reducible repeat (first | refine blk_drewN ?_ _ | refine blk_drew ?_ | refine blk_alloc ?_ _)); refine blk_put (cs := #[.int .i64 t410, .int .i64 0]) ?_ 1 _ rfl; (with_reducible repeat (first | refine blk_drewN ?_ _ | refine blk_drew ?_ | refine blk_alloc ?_ _)); refine blk_put (cs := #[.int .i64 0, .int .i64 0]) ?_ 0 _ rfl; (with_reducible repeat (first | refine blk_drewN ?_ _ | refine blk_drew ?_ | refine blk_alloc ?_ _)); refine blk_far ?_ NB413_412.out _; (with_reducible repeat (first | refine blk_drewN ?_ _ | refine blk_drew ?_ | refine blk_alloc ?_ _)); refine blk_far ?_ NB413_412.out _; (with_reducible repeat (first | refine blk_drewN ?_ _ | refine blk_drew ?_ | refine blk_alloc ?_ _)); refine blk_far ?_ NB413_412.out _; (with_reducible repeat (first | refine blk_drewN ?_ _ | refine blk_drew ?_ | refine blk_alloc ?_ _)); refine blk_far ?_ NB413_412.out _; (with_reducible repeat (first | refine blk_drewN ?_ _ | refine blk_drew ?_ | refine blk_alloc ?_ _)); exact BK413.out⟩
              have n4_ : Aside0 (Below w.heap.size w ((((((w376.setCell ⟨gb412, 0, none⟩ (.int .i64 t406)).setCell ⟨gb412, 1, none⟩ (.int .i64 t407)).setCell ⟨gb412, 2, none⟩ (.int .i64 t408)).setCell ⟨gb412, 3, none⟩ (.int .i64 t409)).setCell ⟨gb413, 0, none⟩ (.int .i64 t410)).setCell ⟨gb413, 1, none⟩ (.int .i64 t411))) := ⟨eB4 HB GE366 GE367 GE412 GE413⟩
              (try clear BK366)
              (try clear BK367)
              (try clear BK412)
              (try clear BK413)
              (try clear HB)
              generalize ((((((w376.setCell ⟨gb412, 0, none⟩ (.int .i64 t406)).setCell ⟨gb412, 1, none⟩ (.int .i64 t407)).setCell ⟨gb412, 2, none⟩ (.int .i64 t408)).setCell ⟨gb412, 3, none⟩ (.int .i64 t409)).setCell ⟨gb413, 0, none⟩ (.int .i64 t410)).setCell ⟨gb413, 1, none⟩ (.int .i64 t411)) = w384 at n0_ n1_ n2_ n3_ n4_ ⊢
              have BK366 := n0_
              have BK367 := n1_
              have BK412 := n2_
              have BK413 := n3_
              have HB := n4_
              clear n0_ n1_ n2_ n3_ n4_
              replace BK366 := Aside0.mk (blk_drew BK366.out)
              replace BK367 := Aside0.mk (blk_drew BK367.out)
              replace BK412 := Aside0.mk (blk_drew BK412.out)
              replace BK413 := Aside0.mk (blk_drew BK413.out)
              replace HB := Aside0.mk (below_drew1 HB.out)
              refine start_ (n := 20) (S := fun w' => w'.cell? ⟨gb412, 0, none⟩ = some (.int .i64 t406) ∧ w'.cell? ⟨gb412, 1, none⟩ = some (.int .i64 t407) ∧ w'.cell? ⟨gb412, 2, none⟩ = some (.int .i64 t408) ∧ w'.cell? ⟨gb412, 3, none⟩ = some (.int .i64 t409) ∧ w'.cell? ⟨gb413, 0, none⟩ = some (.int .i64 t410) ∧ w'.cell? ⟨gb413, 1, none⟩ = some (.int .i64 t411)) (ds := []) #[false, false, false, false, false, false, false, false, false, false, false, false, false, false, false, false, false, false, false, false] (by kernel_rfl) rfl rfl ⟨(blk_cell BK412.out 0).trans rfl, (blk_cell BK412.out 1).trans rfl, (blk_cell BK412.out 2).trans rfl, (blk_cell BK412.out 3).trans rfl, (blk_cell BK413.out 0).trans rfl, (blk_cell BK413.out 1).trans rfl⟩ (fun hHeld => ?_); refine with_tabW laws_FnSegments.tab14 laws_FnSegments.bits14 (fun HT_ HW_ => ?_)
              generalize w384.drew = w385 at BK366 BK367 BK412 BK413 HB hHeld ⊢
              refine tA6 HT_.out HW_.out 0 127 hHeld ?_
              refine tA6 HT_.out HW_.out 1 128 hHeld ?_
              refine tA6 HT_.out HW_.out 3 130 hHeld ?_
              refine tA6 HT_.out HW_.out 5 132 hHeld ?_
              refine one_ (i := 2) (N := some 129) #[true, true, true, true, false, true, false, false, false, false, false, false, false, false, false, false, false, false, false, false] rfl rfl (one_of HT_.out (by kernel_rfl)) (by decide) (fun K hK => ?_)
              refine gS Try.func10 #[.agg #[.int .i64 t406, .int .i64 t407, .int .i64 t408, .int .i64 t409], .agg #[.int .i64 t410, .int .i64 t411]] ?_
              with_reducible refine (impl_IsOn.calls kj84 t406 t407 t408 t409 t410 t411 t414 _ A367.out).mono ?_
              rintro e w386 ⟨rfl, hb⟩
              refine ⟨_, rfl, ?_⟩
              replace BK366 := mB BK366 hb
              replace BK367 := mB BK367 hb
              replace BK412 := mB BK412 hb
              replace BK413 := mB BK413 hb
              replace HB := sB4 HB hb GE366 GE367 GE412 GE413
              (try clear hb)
              (try clear hb2)
              (try clear hk)
              (try clear hi)
              refine hK.out _ _ ⟨(blk_cell BK412.out 0).trans rfl, (blk_cell BK412.out 1).trans rfl, (blk_cell BK412.out 2).trans rfl, (blk_cell BK412.out 3).trans rfl, (blk_cell BK413.out 0).trans rfl, (blk_cell BK413.out 1).trans rfl⟩ (fun hHeld => ?_)
              clear hK K
              refine norm_ (a' := ?_) ?_ ?_
              rotate_left
              ·show Act.put _ (some 129) _ = _
               simp only [Act.put, List.setIfInBounds_toArray, List.set_cons_zero, List.set_cons_succ, i64_w, i32_w]
               rfl
              refine one_ (i := 4) (N := some 131) #[true, true, true, true, true, true, false, false, false, false, false, false, false, false, false, false, false, false, false, false] rfl rfl (one_of HT_.out (by kernel_rfl)) (by decide) (fun K hK => ?_)
              refine gS Try.func8 #[.agg #[.int .i64 t406, .int .i64 t407, .int .i64 t408, .int .i64 t409]] ?_
              with_reducible refine (impl_TurnSegment.calls t406 t407 t408 t409 t415 t416 t417 t418 _ A368.out).mono ?_
              rintro e w387 ⟨rfl, hb⟩
              refine ⟨_, rfl, ?_⟩
              replace BK366 := mB BK366 hb
              replace BK367 := mB BK367 hb
              replace BK412 := mB BK412 hb
              replace BK413 := mB BK413 hb
              replace HB := sB4 HB hb GE366 GE367 GE412 GE413
              (try clear hb)
              (try clear hb2)
              (try clear hk)
              (try clear hi)
              refine hK.out _ _ ⟨(blk_cell BK412.out 0).trans rfl, (blk_cell BK412.out 1).trans rfl, (blk_cell BK412.out 2).trans rfl, (blk_cell BK412.out 3).trans rfl, (blk_cell BK413.out 0).trans rfl, (blk_cell BK413.out 1).trans rfl⟩ (fun hHeld => ?_)
              clear hK K
              refine norm_ (a' := ?_) ?_ ?_
              rotate_left
              ·show Act.put _ (some 131) _ = _
               simp only [Act.put, List.setIfInBounds_toArray, List.set_cons_zero, List.set_cons_succ, i64_w, i32_w]
               rfl
              refine one_ (i := 6) (N := some 133) #[true, true, true, true, true, true, true, false, false, false, false, false, false, false, false, false, false, false, false, false] rfl rfl (one_of HT_.out (by kernel_rfl)) (by decide) (fun K hK => ?_)
              refine gS Try.func10 #[.agg #[.int .i64 t415, .int .i64 t416, .int .i64 t417, .int .i64 t418], .agg #[.int .i64 t410, .int .i64 t411]] ?_
              with_reducible refine (impl_IsOn.calls kj84 t415 t416 t417 t418 t410 t411 t419 _ A369.out).mono ?_
              rintro e w388 ⟨rfl, hb⟩
              refine ⟨_, rfl, ?_⟩
              replace BK366 := mB BK366 hb
              replace BK367 := mB BK367 hb
              replace BK412 := mB BK412 hb
              replace BK413 := mB BK413 hb
              replace HB := sB4 HB hb GE366 GE367 GE412 GE413
              (try clear hb)
              (try clear hb2)
              (try clear hk)
              (try clear hi)
              refine hK.out _ _ ⟨(blk_cell BK412.out 0).trans rfl, (blk_cell BK412.out 1).trans rfl, (blk_cell BK412.out 2).trans rfl, (blk_cell BK412.out 3).trans rfl, (blk_cell BK413.out 0).trans rfl, (blk_cell BK413.out 1).trans rfl⟩ (fun hHeld => ?_)
              clear hK K
              refine norm_ (a' := ?_) ?_ ?_
              rotate_left
              ·show Act.put _ (some 133) _ = _
               simp only [Act.put, List.setIfInBounds_toArray, List.set_cons_zero, List.set_cons_succ, i64_w, i32_w]
               rfl
              refine pA HT_.out 7 134 ?_
              refine pA HT_.out 8 135 ?_
              refine tA6 HT_.out HW_.out 9 136 hHeld ?_
              refine tA6 HT_.out HW_.out 10 137 hHeld ?_
              refine one_ (i := 11) (N := some 138) #[true, true, true, true, true, true, true, true, true, true, true, true, false, false, false, false, false, false, false, false] rfl rfl (one_of HT_.out (by kernel_rfl)) (by decide) (fun K hK => ?_)
              refine gS Try.func11 #[.agg #[.int .i64 t406, .int .i64 t407, .int .i64 t408, .int .i64 t409], .agg #[.int .i64 t410, .int .i64 t411]] ?_
              with_reducible refine (impl_IsBetween.calls kj84 t406 t407 t408 t409 t410 t411 true _ A371.out).mono ?_
              rintro e w389 ⟨rfl, hb⟩
              refine ⟨_, rfl, ?_⟩
              replace BK366 := mB BK366 hb
              replace BK367 := mB BK367 hb
              replace BK412 := mB BK412 hb
              replace BK413 := mB BK413 hb
              replace HB := sB4 HB hb GE366 GE367 GE412 GE413
              (try clear hb)
              (try clear hb2)
              (try clear hk)
              (try clear hi)
              refine hK.out _ _ ⟨(blk_cell BK412.out 0).trans rfl, (blk_cell BK412.out 1).trans rfl, (blk_cell BK412.out 2).trans rfl, (blk_cell BK412.out 3).trans rfl, (blk_cell BK413.out 0).trans rfl, (blk_cell BK413.out 1).trans rfl⟩ (fun hHeld => ?_)
              clear hK K
              refine norm_ (a' := ?_) ?_ ?_
              rotate_left
              ·show Act.put _ (some 138) _ = _
               simp only [Act.put, List.setIfInBounds_toArray, List.set_cons_zero, List.set_cons_succ, i64_w, i32_w]
               rfl
              refine pA HT_.out 12 139 ?_
              refine pA HT_.out 13 140 ?_
              refine tA6 HT_.out HW_.out 14 141 hHeld ?_
              refine tA6 HT_.out HW_.out 15 142 hHeld ?_
              refine one_ (i := 16) (N := some 143) #[true, true, true, true, true, true, true, true, true, true, true, true, true, true, true, true, true, false, false, false] rfl rfl (one_of HT_.out (by kernel_rfl)) (by decide) (fun K hK => ?_)
              refine gS Try.func10 #[.agg #[.int .i64 t406, .int .i64 t407, .int .i64 t408, .int .i64 t409], .agg #[.int .i64 t410, .int .i64 t411]] ?_
              with_reducible refine (impl_IsOn.calls kj84 t406 t407 t408 t409 t410 t411 t421 _ A373.out).mono ?_
              rintro e w390 ⟨rfl, hb⟩
              refine ⟨_, rfl, ?_⟩
              replace BK366 := mB BK366 hb
              replace BK367 := mB BK367 hb
              replace BK412 := mB BK412 hb
              replace BK413 := mB BK413 hb
              replace HB := sB4 HB hb GE366 GE367 GE412 GE413
              (try clear hb)
              (try clear hb2)
              (try clear hk)
              (try clear hi)
              refine hK.out _ _ ⟨(blk_cell BK412.out 0).trans rfl, (blk_cell BK412.out 1).trans rfl, (blk_cell BK412.out 2).trans rfl, (blk_cell BK412.out 3).trans rfl, (blk_cell BK413.out 0).trans rfl, (blk_cell BK413.out 1).trans rfl⟩ (fun hHeld => ?_)
              clear hK K
              refine norm_ (a' := ?_) ?_ ?_
              rotate_left
              ·show Act.put _ (some 143) _ = _
               simp only [Act.put, List.setIfInBounds_toArray, List.set_cons_zero, List.set_cons_succ, i64_w, i32_w]
               rfl
              refine pA HT_.out 17 144 ?_
              refine pA HT_.out 18 145 ?_
              refine pA HT_.out 19 2 ?_
              refine done_ (done_of HT_.out (by kernel_rfl)) ?_
              try go_wp2
              go_ret
              exact ⟨by first | rfl | (simp [errW_none, errW_some] <;> rfl) | (simp [*, errW_none, errW_some] <;> rfl), eB4 HB GE366 GE367 GE412 GE413⟩
             ·replace c372 := Bool.eq_false_iff.mpr c372
              subst c372
              have H1 : (some true) = some r := by rw [if_neg (show ¬ (false = true) by decide)] at H; exact H
              clear H
              have H := H1
              clear H1
              obtain rfl := Option.some.inj H
              try go_wp2_with (first | ((with_reducible refine gate_callee (f := 12) rfl ?_); refine gL (some 124) Try.func12 #[.slice A0 l0.length c0] ?_; (with_reducible refine (spec_DrawIsOn.calls kj84 _ _ l0 t406 t407 t408 t409 t410 t411 _ ?side1 ?side2 A366.out).mono ?_); (case side1 => exact cM (Kd.C_below HR0.out HB.out)); (case side2 => exact HC0.out); rintro e w391 ⟨rfl, hb⟩; refine ⟨_, rfl, ?_⟩; replace BK366 := mB BK366 hb; replace BK367 := mB BK367 hb; replace HB := sB2 HB hb GE366 GE367; (try clear hb)) | ((with_reducible refine gate_dst (N := 6) rfl ?_); refine box_event ?hg (N := 6) ?hd (cs := #[.int .i64 0, .int .i64 0, .int .i64 0, .int .i64 0]) (t := 27) ?hr ?_; (case hd => rfl); (case hg => rfl); (case hr => first | (go_simp; done) | (go_simp; rfl)); intro gb412 hg w392 hbox hb; have BK412 := Aside0.mk (hbox); have GW412 := zB2 HB hg GE366 GE367; have GE412 := zB2 HB hg GE366 GE367; have NB366_412 := nL BK366 hg; have NB412_366 := nG BK366 hg; have NB367_412 := nL BK367 hg; have NB412_367 := nG BK367 hg; replace BK366 := mB BK366 hb; replace BK367 := mB BK367 hb; replace HB := sB2 HB hb GE366 GE367; clear hb hbox hg) | ((with_reducible refine gate_dst (N := 7) rfl ?_); refine box_event ?hg (N := 7) ?hd (cs := #[.int .i64 0, .int .i64 0]) (t := 25) ?hr ?_; (case hd => rfl); (case hg => rfl); (case hr => first | (go_simp; done) | (go_simp; rfl)); intro gb413 hg w393 hbox hb; have BK413 := Aside0.mk (hbox); have GW413 := zB3 HB hg GE366 GE367 GE412; have GE413 := zB3 HB hg GE366 GE367 GE412; have NB366_413 := nL BK366 hg; have NB413_366 := nG BK366 hg; have NB367_413 := nL BK367 hg; have NB413_367 := nG BK367 hg; have NB412_413 := nL BK412 hg; have NB413_412 := nG BK412 hg; replace BK366 := mB BK366 hb; replace BK367 := mB BK367 hb; replace BK412 := mB BK412 hb; replace HB := sB3 HB hb GE366 GE367 GE412; clear hb hbox hg; have hnb394 := NB412_366.out; have hnc394 := NB366_412.out; have hnb395 := NB412_367.out; have hnc395 := NB367_412.out; have hnb396 := NB412_413.out; have hnc396 := NB413_412.out; have hcz397_0 := bC BK412 0 (.int .i64 0); have hcz397_1 := bC BK412 1 (.int .i64 0); have hcz397_2 := bC BK412 2 (.int .i64 0); have hcz397_3 := bC BK412 3 (.int .i64 0); have hfz397_0 := blk_frozen BK412.out 0; have hfz397_1 := blk_frozen BK412.out 1; have hfz397_2 := blk_frozen BK412.out 2; have hfz397_3 := blk_frozen BK412.out 3; have hnb398 := NB413_366.out; have hnc398 := NB366_413.out; have hnb399 := NB413_367.out; have hnc399 := NB367_413.out; have hcz400_0 := bC BK413 0 (.int .i64 0); have hcz400_1 := bC BK413 1 (.int .i64 0); have hfz400_0 := blk_frozen BK413.out 0; have hfz400_1 := blk_frozen BK413.out 1))
              have n0_ : Aside0 (((((((w393.setCell ⟨gb412, 0, none⟩ (.int .i64 t406)).setCell ⟨gb412, 1, none⟩ (.int .i64 t407)).setCell ⟨gb412, 2, none⟩ (.int .i64 t408)).setCell ⟨gb412, 3, none⟩ (.int .i64 t409)).setCell ⟨gb413, 0, none⟩ (.int .i64 t410)).setCell ⟨gb413, 1, none⟩ (.int .i64 t411)).heap[gb366]? = some (.cells #[.int .i64 t358, .int .i64 t359, .int .i64 t360, .int .i64 t361] 27 (0, 0))) := ⟨by (with_reducible repeat (first | refine blk_drewN ?_ _ | refine blk_drew ?_ | refine blk_alloc ?_ _)); refine blk_far ?_ NB366_413.out _; (with_reducible repeat (first | refine blk_drewN ?_ _ | refine blk_drew ?_ | refine blk_alloc ?_ _)); refine blk_far ?_ NB366_413.out _; (with_reducible repeat (first | refine blk_drewN ?_ _ | refine blk_drew ?_ | refine blk_alloc ?_ _)); refine blk_far ?_ NB366_412.out _; (with_reducible repeat (first | refine blk_drewN ?_ _ | refine blk_drew ?_ | refine blk_alloc ?_ _)); refine blk_far ?_ NB366_412.out _; (with_reducible repeat (first | refine blk_drewN ?_ _ | refine blk_drew ?_ | refine blk_alloc ?_ _)); refine blk_far ?_ NB366_412.out _; (with_reducible repeat (first | refine blk_drewN ?_ _ | refine blk_drew ?_ | refine blk_alloc ?_ _)); refine blk_far ?_ NB366_412.out _; (with_reducible repeat (first | refine blk_drewN ?_ _ | refine blk_drew ?_ | refine blk_alloc ?_ _)); exact BK366.out⟩
              have n1_ : Aside0 (((((((w393.setCell ⟨gb412, 0, none⟩ (.int .i64 t406)).setCell ⟨gb412, 1, none⟩ (.int .i64 t407)).setCell ⟨gb412, 2, none⟩ (.int .i64 t408)).setCell ⟨gb412, 3, none⟩ (.int .i64 t409)).setCell ⟨gb413, 0, none⟩ (.int .i64 t410)).setCell ⟨gb413, 1, none⟩ (.int .i64 t411)).heap[gb367]? = some (.cells #[.int .i64 t362, .int .i64 t363, .int .i64 t364, .int .i64 t365] 27 (0, 0))) := ⟨by (with_reducible repeat (first | refine blk_drewN ?_ _ | refine blk_drew ?_ | refine blk_alloc ?_ _)); refine blk_far ?_ NB367_413.out _; (with_reducible repeat (first | refine blk_drewN ?_ _ | refine blk_drew ?_ | refine blk_alloc ?_ _)); refine blk_far ?_ NB367_413.out _; (with_reducible repeat (first | refine blk_drewN ?_ _ | refine blk_drew ?_ | refine blk_alloc ?_ _)); refine blk_far ?_ NB367_412.out _; (with_reducible repeat (first | refine blk_drewN ?_ _ | refine blk_drew ?_ | refine blk_alloc ?_ _)); refine blk_far ?_ NB367_412.out _; (with_reducible repeat (first | refine blk_drewN ?_ _ | refine blk_drew ?_ | refine blk_alloc ?_ _)); refine blk_far ?_ NB367_412.out _; (with_reducible repeat (first | refine blk_drewN ?_ _ | refine blk_drew ?_ | refine blk_alloc ?_ _)); refine blk_far ?_ NB367_412.out _; (with_reducible repeat (first | refine blk_drewN ?_ _ | refine blk_drew ?_ | refine blk_alloc ?_ _)); exact BK367.out⟩
              have n2_ : Aside0 (((((((w393.setCell ⟨gb412, 0, none⟩ (.int .i64 t406)).setCell ⟨gb412, 1, none⟩ (.int .i64 t407)).setCell ⟨gb412, 2, none⟩ (.int .i64 t408)).setCell ⟨gb412, 3, none⟩ (.int .i64 t409)).setCell ⟨gb413, 0, none⟩ (.int .i64 t410)).setCell ⟨gb413, 1, none⟩ (.int .i64 t411)).heap[gb412]? = some (.cells #[.int .i64 t406, .int .i64 t407, .int .i64 t408, .int .i64 t409] 27 (0, 0))) := ⟨by (with_reducible repeat (first | refine blk_drewN ?_ _ | refine blk_drew ?_ | refine blk_alloc ?_ _)); refine blk_far ?_ NB412_413.out _; (with_reducible repeat (first | refine blk_drewN ?_ _ | refine blk_drew ?_ | refine blk_alloc ?_ _)); refine blk_far ?_ NB412_413.out _; (with_reducible repeat (first | refine blk_drewN ?_ _ | refine blk_drew ?_ | refine blk_alloc ?_ _)); refine blk_put (cs := #[.int .i64 t406, .int .i64 t407, .int .i64 t408, .int .i64 0]) ?_ 3 _ rfl; (with_reducible repeat (first | refine blk_drewN ?_ _ | refine blk_drew ?_ | refine blk_alloc ?_ _)); refine blk_put (cs := #[.int .i64 t406, .int .i64 t407, .int .i64 0, .int .i64 0]) ?_ 2 _ rfl; (with_reducible repeat (first | refine blk_drewN ?_ _ | refine blk_drew ?_ | refine blk_alloc ?_ _)); refine blk_put (cs := #[.int .i64 t406, .int .i64 0, .int .i64 0, .int .i64 0]) ?_ 1 _ rfl; (with_reducible repeat (first | refine blk_drewN ?_ _ | refine blk_drew ?_ | refine blk_alloc ?_ _)); refine blk_put (cs := #[.int .i64 0, .int .i64 0, .int .i64 0, .int .i64 0]) ?_ 0 _ rfl; (with_reducible repeat (first | refine blk_drewN ?_ _ | refine blk_drew ?_ | refine blk_alloc ?_ _)); exact BK412.out⟩
              have n3_ : Aside0 (((((((w393.setCell ⟨gb412, 0, none⟩ (.int .i64 t406)).setCell ⟨gb412, 1, none⟩ (.int .i64 t407)).setCell ⟨gb412, 2, none⟩ (.int .i64 t408)).setCell ⟨gb412, 3, none⟩ (.int .i64 t409)).setCell ⟨gb413, 0, none⟩ (.int .i64 t410)).setCell ⟨gb413, 1, none⟩ (.int .i64 t411)).heap[gb413]? = some (.cells #[.int .i64 t410, .int .i64 t411] 25 (0, 0))) := ⟨by (with_reducible repeat (first | refine blk_drewN ?_ _ | refine blk_drew ?_ | refine blk_alloc ?_ _)); refine blk_put (cs := #[.int .i64 t410, .int .i64 0]) ?_ 1 _ rfl; (with_reducible repeat (first | refine blk_drewN ?_ _ | refine blk_drew ?_ | refine blk_alloc ?_ _)); refine blk_put (cs := #[.int .i64 0, .int .i64 0]) ?_ 0 _ rfl; (with_reducible repeat (first | refine blk_drewN ?_ _ | refine blk_drew ?_ | refine blk_alloc ?_ _)); refine blk_far ?_ NB413_412.out _; (with_reducible repeat (first | refine blk_drewN ?_ _ | refine blk_drew ?_ | refine blk_alloc ?_ _)); refine blk_far ?_ NB413_412.out _; (with_reducible repeat (first | refine blk_drewN ?_ _ | refine blk_drew ?_ | refine blk_alloc ?_ _)); refine blk_far ?_ NB413_412.out _; (with_reducible repeat (first | refine blk_drewN ?_ _ | refine blk_drew ?_ | refine blk_alloc ?_ _)); refine blk_far ?_ NB413_412.out _; (with_reducible repeat (first | refine blk_drewN ?_ _ | refine blk_drew ?_ | refine blk_alloc ?_ _)); exact BK413.out⟩
              have n4_ : Aside0 (Below w.heap.size w ((((((w393.setCell ⟨gb412, 0, none⟩ (.int .i64 t406)).setCell ⟨gb412, 1, none⟩ (.int .i64 t407)).setCell ⟨gb412, 2, none⟩ (.int .i64 t408)).setCell ⟨gb412, 3, none⟩ (.int .i64 t409)).setCell ⟨gb413, 0, none⟩ (.int .i64 t410)).setCell ⟨gb413, 1, none⟩ (.int .i64 t411))) := ⟨eB4 HB GE366 GE367 GE412 GE413⟩
              (try clear BK366)
              (try clear BK367)
              (try clear BK412)
              (try clear BK413)
              (try clear HB)
              generalize ((((((w393.setCell ⟨gb412, 0, none⟩ (.int .i64 t406)).setCell ⟨gb412, 1, none⟩ (.int .i64 t407)).setCell ⟨gb412, 2, none⟩ (.int .i64 t408)).setCell ⟨gb412, 3, none⟩ (.int .i64 t409)).setCell ⟨gb413, 0, none⟩ (.int .i64 t410)).setCell ⟨gb413, 1, none⟩ (.int .i64 t411)) = w401 at n0_ n1_ n2_ n3_ n4_ ⊢
              have BK366 := n0_
              have BK367 := n1_
              have BK412 := n2_
              have BK413 := n3_
              have HB := n4_
              clear n0_ n1_ n2_ n3_ n4_
              replace BK366 := Aside0.mk (blk_drew BK366.out)
              replace BK367 := Aside0.mk (blk_drew BK367.out)
              replace BK412 := Aside0.mk (blk_drew BK412.out)
              replace BK413 := Aside0.mk (blk_drew BK413.out)
              replace HB := Aside0.mk (below_drew1 HB.out)
              refine start_ (n := 20) (S := fun w' => w'.cell? ⟨gb412, 0, none⟩ = some (.int .i64 t406) ∧ w'.cell? ⟨gb412, 1, none⟩ = some (.int .i64 t407) ∧ w'.cell? ⟨gb412, 2, none⟩ = some (.int .i64 t408) ∧ w'.cell? ⟨gb412, 3, none⟩ = some (.int .i64 t409) ∧ w'.cell? ⟨gb413, 0, none⟩ = some (.int .i64 t410) ∧ w'.cell? ⟨gb413, 1, none⟩ = some (.int .i64 t411)) (ds := []) #[false, false, false, false, false, false, false, false, false, false, false, false, false, false, false, false, false, false, false, false] (by kernel_rfl) rfl rfl ⟨(blk_cell BK412.out 0).trans rfl, (blk_cell BK412.out 1).trans rfl, (blk_cell BK412.out 2).trans rfl, (blk_cell BK412.out 3).trans rfl, (blk_cell BK413.out 0).trans rfl, (blk_cell BK413.out 1).trans rfl⟩ (fun hHeld => ?_); refine with_tabW laws_FnSegments.tab14 laws_FnSegments.bits14 (fun HT_ HW_ => ?_)
              generalize w401.drew = w402 at BK366 BK367 BK412 BK413 HB hHeld ⊢
              refine tA6 HT_.out HW_.out 0 127 hHeld ?_
              refine tA6 HT_.out HW_.out 1 128 hHeld ?_
              refine tA6 HT_.out HW_.out 3 130 hHeld ?_
              refine tA6 HT_.out HW_.out 5 132 hHeld ?_
              refine one_ (i := 2) (N := some 129) #[true, true, true, true, false, true, false, false, false, false, false, false, false, false, false, false, false, false, false, false] rfl rfl (one_of HT_.out (by kernel_rfl)) (by decide) (fun K hK => ?_)
              refine gS Try.func10 #[.agg #[.int .i64 t406, .int .i64 t407, .int .i64 t408, .int .i64 t409], .agg #[.int .i64 t410, .int .i64 t411]] ?_
              with_reducible refine (impl_IsOn.calls kj84 t406 t407 t408 t409 t410 t411 t414 _ A367.out).mono ?_
              rintro e w403 ⟨rfl, hb⟩
              refine ⟨_, rfl, ?_⟩
              replace BK366 := mB BK366 hb
              replace BK367 := mB BK367 hb
              replace BK412 := mB BK412 hb
              replace BK413 := mB BK413 hb
              replace HB := sB4 HB hb GE366 GE367 GE412 GE413
              (try clear hb)
              (try clear hb2)
              (try clear hk)
              (try clear hi)
              refine hK.out _ _ ⟨(blk_cell BK412.out 0).trans rfl, (blk_cell BK412.out 1).trans rfl, (blk_cell BK412.out 2).trans rfl, (blk_cell BK412.out 3).trans rfl, (blk_cell BK413.out 0).trans rfl, (blk_cell BK413.out 1).trans rfl⟩ (fun hHeld => ?_)
              clear hK K
              refine norm_ (a' := ?_) ?_ ?_
              rotate_left
              ·show Act.put _ (some 129) _ = _
               simp only [Act.put, List.setIfInBounds_toArray, List.set_cons_zero, List.set_cons_succ, i64_w, i32_w]
               rfl
              refine one_ (i := 4) (N := some 131) #[true, true, true, true, true, true, false, false, false, false, false, false, false, false, false, false, false, false, false, false] rfl rfl (one_of HT_.out (by kernel_rfl)) (by decide) (fun K hK => ?_)
              refine gS Try.func8 #[.agg #[.int .i64 t406, .int .i64 t407, .int .i64 t408, .int .i64 t409]] ?_
              with_reducible refine (impl_TurnSegment.calls t406 t407 t408 t409 t415 t416 t417 t418 _ A368.out).mono ?_
              rintro e w404 ⟨rfl, hb⟩
              refine ⟨_, rfl, ?_⟩
              replace BK366 := mB BK366 hb
              replace BK367 := mB BK367 hb
              replace BK412 := mB BK412 hb
              replace BK413 := mB BK413 hb
              replace HB := sB4 HB hb GE366 GE367 GE412 GE413
              (try clear hb)
              (try clear hb2)
              (try clear hk)
              (try clear hi)
              refine hK.out _ _ ⟨(blk_cell BK412.out 0).trans rfl, (blk_cell BK412.out 1).trans rfl, (blk_cell BK412.out 2).trans rfl, (blk_cell BK412.out 3).trans rfl, (blk_cell BK413.out 0).trans rfl, (blk_cell BK413.out 1).trans rfl⟩ (fun hHeld => ?_)
              clear hK K
              refine norm_ (a' := ?_) ?_ ?_
              rotate_left
              ·show Act.put _ (some 131) _ = _
               simp only [Act.put, List.setIfInBounds_toArray, List.set_cons_zero, List.set_cons_succ, i64_w, i32_w]
               rfl
              refine one_ (i := 6) (N := some 133) #[true, true, true, true, true, true, true, false, false, false, false, false, false, false, false, false, false, false, false, false] rfl rfl (one_of HT_.out (by kernel_rfl)) (by decide) (fun K hK => ?_)
              refine gS Try.func10 #[.agg #[.int .i64 t415, .int .i64 t416, .int .i64 t417, .int .i64 t418], .agg #[.int .i64 t410, .int .i64 t411]] ?_
              with_reducible refine (impl_IsOn.calls kj84 t415 t416 t417 t418 t410 t411 t419 _ A369.out).mono ?_
              rintro e w405 ⟨rfl, hb⟩
              refine ⟨_, rfl, ?_⟩
              replace BK366 := mB BK366 hb
              replace BK367 := mB BK367 hb
              replace BK412 := mB BK412 hb
              replace BK413 := mB BK413 hb
              replace HB := sB4 HB hb GE366 GE367 GE412 GE413
              (try clear hb)
              (try clear hb2)
              (try clear hk)
              (try clear hi)
              refine hK.out _ _ ⟨(blk_cell BK412.out 0).trans rfl, (blk_cell BK412.out 1).trans rfl, (blk_cell BK412.out 2).trans rfl, (blk_cell BK412.out 3).trans rfl, (blk_cell BK413.out 0).trans rfl, (blk_cell BK413.out 1).trans rfl⟩ (fun hHeld => ?_)
              clear hK K
              refine norm_ (a' := ?_) ?_ ?_
              rotate_left
              ·show Act.put _ (some 133) _ = _
               simp only [Act.put, List.setIfInBounds_toArray, List.set_cons_zero, List.set_cons_succ, i64_w, i32_w]
               rfl
              refine pA HT_.out 7 134 ?_
              refine pA HT_.out 8 135 ?_
              refine tA6 HT_.out HW_.out 9 136 hHeld ?_
              refine tA6 HT_.out HW_.out 10 137 hHeld ?_
              refine one_ (i := 11) (N := some 138) #[true, true, true, true, true, true, true, true, true, true, true, true, false, false, false, false, false, false, false, false] rfl rfl (one_of HT_.out (by kernel_rfl)) (by decide) (fun K hK => ?_)
              refine gS Try.func11 #[.agg #[.int .i64 t406, .int .i64 t407, .int .i64 t408, .int .i64 t409], .agg #[.int .i64 t410, .int .i64 t411]] ?_
              with_reducible refine (impl_IsBetween.calls kj84 t406 t407 t408 t409 t410 t411 false _ A371.out).mono ?_
              rintro e w406 ⟨rfl, hb⟩
              refine ⟨_, rfl, ?_⟩
              replace BK366 := mB BK366 hb
              replace BK367 := mB BK367 hb
              replace BK412 := mB BK412 hb
              replace BK413 := mB BK413 hb
              replace HB := sB4 HB hb GE366 GE367 GE412 GE413
              (try clear hb)
              (try clear hb2)
              (try clear hk)
              (try clear hi)
              refine hK.out _ _ ⟨(blk_cell BK412.out 0).trans rfl, (blk_cell BK412.out 1).trans rfl, (blk_cell BK412.out 2).trans rfl, (blk_cell BK412.out 3).trans rfl, (blk_cell BK413.out 0).trans rfl, (blk_cell BK413.out 1).trans rfl⟩ (fun hHeld => ?_)
              clear hK K
              refine norm_ (a' := ?_) ?_ ?_
              rotate_left
              ·show Act.put _ (some 138) _ = _
               simp only [Act.put, List.setIfInBounds_toArray, List.set_cons_zero, List.set_cons_succ, i64_w, i32_w]
               rfl
              refine pA HT_.out 12 139 ?_
              refine pA HT_.out 13 140 ?_
              refine pU HT_.out 14 141 ?_
              refine pU HT_.out 15 142 ?_
              refine pU HT_.out 16 143 ?_
              refine pA HT_.out 17 144 ?_
              refine pA HT_.out 18 145 ?_
              refine pA HT_.out 19 2 ?_
              refine done_ (done_of HT_.out (by kernel_rfl)) ?_
              try go_wp2
              go_ret
              exact ⟨by first | rfl | (simp [errW_none, errW_some] <;> rfl) | (simp [*, errW_none, errW_some] <;> rfl), eB4 HB GE366 GE367 GE412 GE413⟩
            ·rw [if_neg c370] at H
             have c370b0 : (t414 == t419) = false := by simpa using c370
             (try (have c370b1 : decide (t414 = t419) = false := by simpa using c370))
             (try (have c370b2 : (t414 == t419) = false := by simpa using c370))
             (try (have c370b3 : ¬ (t414 = t419) := by simpa using c370))
             clear c370
             obtain rfl := Option.some.inj H
             try go_wp2_with (first | ((with_reducible refine gate_callee (f := 12) rfl ?_); refine gL (some 124) Try.func12 #[.slice A0 l0.length c0] ?_; (with_reducible refine (spec_DrawIsOn.calls kj84 _ _ l0 t406 t407 t408 t409 t410 t411 _ ?side1 ?side2 A366.out).mono ?_); (case side1 => exact cM (Kd.C_below HR0.out HB.out)); (case side2 => exact HC0.out); rintro e w407 ⟨rfl, hb⟩; refine ⟨_, rfl, ?_⟩; replace BK366 := mB BK366 hb; replace BK367 := mB BK367 hb; replace HB := sB2 HB hb GE366 GE367; (try clear hb)) | ((with_reducible refine gate_dst (N := 6) rfl ?_); refine box_event ?hg (N := 6) ?hd (cs := #[.int .i64 0, .int .i64 0, .int .i64 0, .int .i64 0]) (t := 27) ?hr ?_; (case hd => rfl); (case hg => rfl); (case hr => first | (go_simp; done) | (go_simp; rfl)); intro gb412 hg w408 hbox hb; have BK412 := Aside0.mk (hbox); have GW412 := zB2 HB hg GE366 GE367; have GE412 := zB2 HB hg GE366 GE367; have NB366_412 := nL BK366 hg; have NB412_366 := nG BK366 hg; have NB367_412 := nL BK367 hg; have NB412_367 := nG BK367 hg; replace BK366 := mB BK366 hb; replace BK367 := mB BK367 hb; replace HB := sB2 HB hb GE366 GE367; clear hb hbox hg) | ((with_reducible refine gate_dst (N := 7) rfl ?_); refine box_event ?hg (N := 7) ?hd (cs := #[.int .i64 0, .int .i64 0]) (t := 25) ?hr ?_; (case hd => rfl); (case hg => rfl); (case hr => first | (go_simp; done) | (go_simp; rfl)); intro gb413 hg w409 hbox hb; have BK413 := Aside0.mk (hbox); have GW413 := zB3 HB hg GE366 GE367 GE412; have GE413 := zB3 HB hg GE366 GE367 GE412; have NB366_413 := nL BK366 hg; have NB413_366 := nG BK366 hg; have NB367_413 := nL BK367 hg; have NB413_367 := nG BK367 hg; have NB412_413 := nL BK412 hg; have NB413_412 := nG BK412 hg; replace BK366 := mB BK366 hb; replace BK367 := mB BK367 hb; replace BK412 := mB BK412 hb; replace HB := sB3 HB hb GE366 GE367 GE412; clear hb hbox hg; have hnb410 := NB412_366.out; have hnc410 := NB366_412.out; have hnb411 := NB412_367.out; have hnc411 := NB367_412.out; have hnb412 := NB412_413.out; have hnc412 := NB413_412.out; have hcz413_0 := bC BK412 0 (.int .i64 0); have hcz413_1 := bC BK412 1 (.int .i64 0); have hcz413_2 := bC BK412 2 (.int .i64 0); have hcz413_3 := bC BK412 3 (.int .i64 0); have hfz413_0 := blk_frozen BK412.out 0; have hfz413_1 := blk_frozen BK412.out 1; have hfz413_2 := blk_frozen BK412.out 2; have hfz413_3 := blk_frozen BK412.out 3; have hnb414 := NB413_366.out; have hnc414 := NB366_413.out; have hnb415 := NB413_367.out; have hnc415 := NB367_413.out; have hcz416_0 := bC BK413 0 (.int .i64 0); have hcz416_1 := bC BK413 1 (.int .i64 0); have hfz416_0 := blk_frozen BK413.out 0; have hfz416_1 := blk_frozen BK413.out 1))
             have n0_ : Aside0 (((((((w409.setCell ⟨gb412, 0, none⟩ (.int .i64 t406)).setCell ⟨gb412, 1, none⟩ (.int .i64 t407)).setCell ⟨gb412, 2, none⟩ (.int .i64 t408)).setCell ⟨gb412, 3, none⟩ (.int .i64 t409)).setCell ⟨gb413, 0, none⟩ (.int .i64 t410)).setCell ⟨gb413, 1, none⟩ (.int .i64 t411)).heap[gb366]? = some (.cells #[.int .i64 t358, .int .i64 t359, .int .i64 t360, .int .i64 t361] 27 (0, 0))) := ⟨by (with_reducible repeat (first | refine blk_drewN ?_ _ | refine blk_drew ?_ | refine blk_alloc ?_ _)); refine blk_far ?_ NB366_413.out _; (with_reducible repeat (first | refine blk_drewN ?_ _ | refine blk_drew ?_ | refine blk_alloc ?_ _)); refine blk_far ?_ NB366_413.out _; (with_reducible repeat (first | refine blk_drewN ?_ _ | refine blk_drew ?_ | refine blk_alloc ?_ _)); refine blk_far ?_ NB366_412.out _; (with_reducible repeat (first | refine blk_drewN ?_ _ | refine blk_drew ?_ | refine blk_alloc ?_ _)); refine blk_far ?_ NB366_412.out _; (with_reducible repeat (first | refine blk_drewN ?_ _ | refine blk_drew ?_ | refine blk_alloc ?_ _)); refine blk_far ?_ NB366_412.out _; (with_reducible repeat (first | refine blk_drewN ?_ _ | refine blk_drew ?_ | refine blk_alloc ?_ _)); refine blk_far ?_ NB366_412.out _; (with_reducible repeat (first | refine blk_drewN ?_ _ | refine blk_drew ?_ | refine blk_alloc ?_ _)); exact BK366.out⟩
             have n1_ : Aside0 (((((((w409.setCell ⟨gb412, 0, none⟩ (.int .i64 t406)).setCell ⟨gb412, 1, none⟩ (.int .i64 t407)).setCell ⟨gb412, 2, none⟩ (.int .i64 t408)).setCell ⟨gb412, 3, none⟩ (.int .i64 t409)).setCell ⟨gb413, 0, none⟩ (.int .i64 t410)).setCell ⟨gb413, 1, none⟩ (.int .i64 t411)).heap[gb367]? = some (.cells #[.int .i64 t362, .int .i64 t363, .int .i64 t364, .int .i64 t365] 27 (0, 0))) := ⟨by (with_reducible repeat (first | refine blk_drewN ?_ _ | refine blk_drew ?_ | refine blk_alloc ?_ _)); refine blk_far ?_ NB367_413.out _; (with_reducible repeat (first | refine blk_drewN ?_ _ | refine blk_drew ?_ | refine blk_alloc ?_ _)); refine blk_far ?_ NB367_413.out _; (with_reducible repeat (first | refine blk_drewN ?_ _ | refine blk_drew ?_ | refine blk_alloc ?_ _)); refine blk_far ?_ NB367_412.out _; (with_reducible repeat (first | refine blk_drewN ?_ _ | refine blk_drew ?_ | refine blk_alloc ?_ _)); refine blk_far ?_ NB367_412.out _; (with_reducible repeat (first | refine blk_drewN ?_ _ | refine blk_drew ?_ | refine blk_alloc ?_ _)); refine blk_far ?_ NB367_412.out _; (with_reducible repeat (first | refine blk_drewN ?_ _ | refine blk_drew ?_ | refine blk_alloc ?_ _)); refine blk_far ?_ NB367_412.out _; (with_reducible repeat (first | refine blk_drewN ?_ _ | refine blk_drew ?_ | refine blk_alloc ?_ _)); exact BK367.out⟩
             have n2_ : Aside0 (((((((w409.setCell ⟨gb412, 0, none⟩ (.int .i64 t406)).setCell ⟨gb412, 1, none⟩ (.int .i64 t407)).setCell ⟨gb412, 2, none⟩ (.int .i64 t408)).setCell ⟨gb412, 3, none⟩ (.int .i64 t409)).setCell ⟨gb413, 0, none⟩ (.int .i64 t410)).setCell ⟨gb413, 1, none⟩ (.int .i64 t411)).heap[gb412]? = some (.cells #[.int .i64 t406, .int .i64 t407, .int .i64 t408, .int .i64 t409] 27 (0, 0))) := ⟨by (with_reducible repeat (first | refine blk_drewN ?_ _ | refine blk_drew ?_ | refine blk_alloc ?_ _)); refine blk_far ?_ NB412_413.out _; (with_reducible repeat (first | refine blk_drewN ?_ _ | refine blk_drew ?_ | refine blk_alloc ?_ _)); refine blk_far ?_ NB412_413.out _; (with_reducible repeat (first | refine blk_drewN ?_ _ | refine blk_drew ?_ | refine blk_alloc ?_ _)); refine blk_put (cs := #[.int .i64 t406, .int .i64 t407, .int .i64 t408, .int .i64 0]) ?_ 3 _ rfl; (with_reducible repeat (first | refine blk_drewN ?_ _ | refine blk_drew ?_ | refine blk_alloc ?_ _)); refine blk_put (cs := #[.int .i64 t406, .int .i64 t407, .int .i64 0, .int .i64 0]) ?_ 2 _ rfl; (with_reducible repeat (first | refine blk_drewN ?_ _ | refine blk_drew ?_ | refine blk_alloc ?_ _)); refine blk_put (cs := #[.int .i64 t406, .int .i64 0, .int .i64 0, .int .i64 0]) ?_ 1 _ rfl; (with_reducible repeat (first | refine blk_drewN ?_ _ | refine blk_drew ?_ | refine blk_alloc ?_ _)); refine blk_put (cs := #[.int .i64 0, .int .i64 0, .int .i64 0, .int .i64 0]) ?_ 0 _ rfl; (with_reducible repeat (first | refine blk_drewN ?_ _ | refine blk_drew ?_ | refine blk_alloc ?_ _)); exact BK412.out⟩
             have n3_ : Aside0 (((((((w409.setCell ⟨gb412, 0, none⟩ (.int .i64 t406)).setCell ⟨gb412, 1, none⟩ (.int .i64 t407)).setCell ⟨gb412, 2, none⟩ (.int .i64 t408)).setCell ⟨gb412, 3, none⟩ (.int .i64 t409)).setCell ⟨gb413, 0, none⟩ (.int .i64 t410)).setCell ⟨gb413, 1, none⟩ (.int .i64 t411)).heap[gb413]? = some (.cells #[.int .i64 t410, .int .i64 t411] 25 (0, 0))) := ⟨by (with_reducible repeat (first | refine blk_drewN ?_ _ | refine blk_drew ?_ | refine blk_alloc ?_ _)); refine blk_put (cs := #[.int .i64 t410, .int .i64 0]) ?_ 1 _ rfl; (with_reducible repeat (first | refine blk_drewN ?_ _ | refine blk_drew ?_ | refine blk_alloc ?_ _)); refine blk_put (cs := #[.int .i64 0, .int .i64 0]) ?_ 0 _ rfl; (with_reducible repeat (first | refine blk_drewN ?_ _ | refine blk_drew ?_ | refine blk_alloc ?_ _)); refine blk_far ?_ NB413_412.out _; (with_reducible repeat (first | refine blk_drewN ?_ _ | refine blk_drew ?_ | refine blk_alloc ?_ _)); refine blk_far ?_ NB413_412.out _; (with_reducible repeat (first | refine blk_drewN ?_ _ | refine blk_drew ?_ | refine blk_alloc ?_ _)); refine blk_far ?_ NB413_412.out _; (with_reducible repeat (first | refine blk_drewN ?_ _ | refine blk_drew ?_ | refine blk_alloc ?_ _)); refine blk_far ?_ NB413_412.out _; (with_reducible repeat (first | refine blk_drewN ?_ _ | refine blk_drew ?_ | refine blk_alloc ?_ _)); exact BK413.out⟩
             have n4_ : Aside0 (Below w.heap.size w ((((((w409.setCell ⟨gb412, 0, none⟩ (.int .i64 t406)).setCell ⟨gb412, 1, none⟩ (.int .i64 t407)).setCell ⟨gb412, 2, none⟩ (.int .i64 t408)).setCell ⟨gb412, 3, none⟩ (.int .i64 t409)).setCell ⟨gb413, 0, none⟩ (.int .i64 t410)).setCell ⟨gb413, 1, none⟩ (.int .i64 t411))) := ⟨eB4 HB GE366 GE367 GE412 GE413⟩
             (try clear BK366)
             (try clear BK367)
             (try clear BK412)
             (try clear BK413)
             (try clear HB)
             generalize ((((((w409.setCell ⟨gb412, 0, none⟩ (.int .i64 t406)).setCell ⟨gb412, 1, none⟩ (.int .i64 t407)).setCell ⟨gb412, 2, none⟩ (.int .i64 t408)).setCell ⟨gb412, 3, none⟩ (.int .i64 t409)).setCell ⟨gb413, 0, none⟩ (.int .i64 t410)).setCell ⟨gb413, 1, none⟩ (.int .i64 t411)) = w417 at n0_ n1_ n2_ n3_ n4_ ⊢
             have BK366 := n0_
             have BK367 := n1_
             have BK412 := n2_
             have BK413 := n3_
             have HB := n4_
             clear n0_ n1_ n2_ n3_ n4_
             replace BK366 := Aside0.mk (blk_drew BK366.out)
             replace BK367 := Aside0.mk (blk_drew BK367.out)
             replace BK412 := Aside0.mk (blk_drew BK412.out)
             replace BK413 := Aside0.mk (blk_drew BK413.out)
             replace HB := Aside0.mk (below_drew1 HB.out)
             refine start_ (n := 20) (S := fun w' => w'.cell? ⟨gb412, 0, none⟩ = some (.int .i64 t406) ∧ w'.cell? ⟨gb412, 1, none⟩ = some (.int .i64 t407) ∧ w'.cell? ⟨gb412, 2, none⟩ = some (.int .i64 t408) ∧ w'.cell? ⟨gb412, 3, none⟩ = some (.int .i64 t409) ∧ w'.cell? ⟨gb413, 0, none⟩ = some (.int .i64 t410) ∧ w'.cell? ⟨gb413, 1, none⟩ = some (.int .i64 t411)) (ds := []) #[false, false, false, false, false, false, false, false, false, false, false, false, false, false, false, false, false, false, false, false] (by kernel_rfl) rfl rfl ⟨(blk_cell BK412.out 0).trans rfl, (blk_cell BK412.out 1).trans rfl, (blk_cell BK412.out 2).trans rfl, (blk_cell BK412.out 3).trans rfl, (blk_cell BK413.out 0).trans rfl, (blk_cell BK413.out 1).trans rfl⟩ (fun hHeld => ?_); refine with_tabW laws_FnSegments.tab14 laws_FnSegments.bits14 (fun HT_ HW_ => ?_)
             generalize w417.drew = w418 at BK366 BK367 BK412 BK413 HB hHeld ⊢
             refine tA6 HT_.out HW_.out 0 127 hHeld ?_
             refine tA6 HT_.out HW_.out 1 128 hHeld ?_
             refine tA6 HT_.out HW_.out 3 130 hHeld ?_
             refine tA6 HT_.out HW_.out 5 132 hHeld ?_
             refine one_ (i := 2) (N := some 129) #[true, true, true, true, false, true, false, false, false, false, false, false, false, false, false, false, false, false, false, false] rfl rfl (one_of HT_.out (by kernel_rfl)) (by decide) (fun K hK => ?_)
             refine gS Try.func10 #[.agg #[.int .i64 t406, .int .i64 t407, .int .i64 t408, .int .i64 t409], .agg #[.int .i64 t410, .int .i64 t411]] ?_
             with_reducible refine (impl_IsOn.calls kj84 t406 t407 t408 t409 t410 t411 t414 _ A367.out).mono ?_
             rintro e w419 ⟨rfl, hb⟩
             refine ⟨_, rfl, ?_⟩
             replace BK366 := mB BK366 hb
             replace BK367 := mB BK367 hb
             replace BK412 := mB BK412 hb
             replace BK413 := mB BK413 hb
             replace HB := sB4 HB hb GE366 GE367 GE412 GE413
             (try clear hb)
             (try clear hb2)
             (try clear hk)
             (try clear hi)
             refine hK.out _ _ ⟨(blk_cell BK412.out 0).trans rfl, (blk_cell BK412.out 1).trans rfl, (blk_cell BK412.out 2).trans rfl, (blk_cell BK412.out 3).trans rfl, (blk_cell BK413.out 0).trans rfl, (blk_cell BK413.out 1).trans rfl⟩ (fun hHeld => ?_)
             clear hK K
             refine norm_ (a' := ?_) ?_ ?_
             rotate_left
             ·show Act.put _ (some 129) _ = _
              simp only [Act.put, List.setIfInBounds_toArray, List.set_cons_zero, List.set_cons_succ, i64_w, i32_w]
              rfl
             refine one_ (i := 4) (N := some 131) #[true, true, true, true, true, true, false, false, false, false, false, false, false, false, false, false, false, false, false, false] rfl rfl (one_of HT_.out (by kernel_rfl)) (by decide) (fun K hK => ?_)
             refine gS Try.func8 #[.agg #[.int .i64 t406, .int .i64 t407, .int .i64 t408, .int .i64 t409]] ?_
             with_reducible refine (impl_TurnSegment.calls t406 t407 t408 t409 t415 t416 t417 t418 _ A368.out).mono ?_
             rintro e w420 ⟨rfl, hb⟩
             refine ⟨_, rfl, ?_⟩
             replace BK366 := mB BK366 hb
             replace BK367 := mB BK367 hb
             replace BK412 := mB BK412 hb
             replace BK413 := mB BK413 hb
             replace HB := sB4 HB hb GE366 GE367 GE412 GE413
             (try clear hb)
             (try clear hb2)
             (try clear hk)
             (try clear hi)
             refine hK.out _ _ ⟨(blk_cell BK412.out 0).trans rfl, (blk_cell BK412.out 1).trans rfl, (blk_cell BK412.out 2).trans rfl, (blk_cell BK412.out 3).trans rfl, (blk_cell BK413.out 0).trans rfl, (blk_cell BK413.out 1).trans rfl⟩ (fun hHeld => ?_)
             clear hK K
             refine norm_ (a' := ?_) ?_ ?_
             rotate_left
             ·show Act.put _ (some 131) _ = _
              simp only [Act.put, List.setIfInBounds_toArray, List.set_cons_zero, List.set_cons_succ, i64_w, i32_w]
              rfl
             refine one_ (i := 6) (N := some 133) #[true, true, true, true, true, true, true, false, false, false, false, false, false, false, false, false, false, false, false, false] rfl rfl (one_of HT_.out (by kernel_rfl)) (by decide) (fun K hK => ?_)
             refine gS Try.func10 #[.agg #[.int .i64 t415, .int .i64 t416, .int .i64 t417, .int .i64 t418], .agg #[.int .i64 t410, .int .i64 t411]] ?_
             with_reducible refine (impl_IsOn.calls kj84 t415 t416 t417 t418 t410 t411 t419 _ A369.out).mono ?_
             rintro e w421 ⟨rfl, hb⟩
             refine ⟨_, rfl, ?_⟩
             replace BK366 := mB BK366 hb
             replace BK367 := mB BK367 hb
             replace BK412 := mB BK412 hb
             replace BK413 := mB BK413 hb
             replace HB := sB4 HB hb GE366 GE367 GE412 GE413
             (try clear hb)
             (try clear hb2)
             (try clear hk)
             (try clear hi)
             refine hK.out _ _ ⟨(blk_cell BK412.out 0).trans rfl, (blk_cell BK412.out 1).trans rfl, (blk_cell BK412.out 2).trans rfl, (blk_cell BK412.out 3).trans rfl, (blk_cell BK413.out 0).trans rfl, (blk_cell BK413.out 1).trans rfl⟩ (fun hHeld => ?_)
             clear hK K
             refine norm_ (a' := ?_) ?_ ?_
             rotate_left
             ·show Act.put _ (some 133) _ = _
              simp only [Act.put, List.setIfInBounds_toArray, List.set_cons_zero, List.set_cons_succ, i64_w, i32_w]
              rfl
             refine pA HT_.out 7 134 ?_
             refine pA HT_.out 8 135 ?_
             refine pU HT_.out 9 136 ?_
             refine pU HT_.out 10 137 ?_
             refine pU HT_.out 11 138 ?_
             refine pU HT_.out 12 139 ?_
             refine pU HT_.out 13 140 ?_
             refine pU HT_.out 14 141 ?_
             refine pU HT_.out 15 142 ?_
             refine pU HT_.out 16 143 ?_
             refine pU HT_.out 17 144 ?_
             refine pA HT_.out 18 145 ?_
             refine pA HT_.out 19 2 ?_
             refine done_ (done_of HT_.out (by kernel_rfl)) ?_
             try go_wp2
             go_ret
             exact ⟨by first | rfl | (simp [errW_none, errW_some] <;> rfl) | (simp [*, errW_none, errW_some] <;> rfl), eB4 HB GE366 GE367 GE412 GE413⟩
  ·rw [if_neg c7] at H
   have c7b0 : (t368 == t369) = false := beq_eq_false_iff_ne.mpr c7
   have c7b1 : (t368 != t369) = true := bne_iff_ne.mpr c7
   obtain rfl := Option.some.inj H
   go_enter Try.func3, Try.ntmps3
   go_wp2_with (first | ((with_reducible refine gate_callee (f := 4) rfl ?_); refine gL (some 9) Try.func4 #[.slice A0 l0.length c0] ?_; (with_reducible refine (laws_big.calls _ _ l0 false _ ?side1 ?side2 A2.out).mono ?_); (case side1 => exact cM HR0.out); (case side2 => exact HC0.out); rintro e w' ⟨rfl, ⟨nd, rfl⟩⟩; refine ⟨_, rfl, ?_⟩) | ((with_reducible refine gate_callee (f := 5) rfl ?_); refine gL (some 12) Try.func5 #[.slice A0 l0.length c0] ?_; (with_reducible refine (spec_DrawHowMeet.calls k _ _ l0 t358 t359 t360 t361 t362 t363 t364 t365 _ ?side1 ?side2 A4.out).mono ?_); (case side1 => exact cM HR0.out); (case side2 => exact HC0.out); rintro e w422 ⟨rfl, hb⟩; refine ⟨_, rfl, ?_⟩; replace HB := sB0 HB hb; (try clear hb)) | ((with_reducible refine gate_dst (N := 3) rfl ?_); refine box_event ?hg (N := 3) ?hd (cs := #[.int .i64 0, .int .i64 0, .int .i64 0, .int .i64 0]) (t := 27) ?hr ?_; (case hd => rfl); (case hg => rfl); (case hr => first | (go_simp; done) | (go_simp; rfl)); intro gb366 hg w423 hbox hb; have BK366 := Aside0.mk (hbox); have GW366 := zB0 HB hg; have GE366 := zB0 HB hg; replace HB := sB0 HB hb; clear hb hbox hg) | ((with_reducible refine gate_dst (N := 4) rfl ?_); refine box_event ?hg (N := 4) ?hd (cs := #[.int .i64 0, .int .i64 0, .int .i64 0, .int .i64 0]) (t := 27) ?hr ?_; (case hd => rfl); (case hg => rfl); (case hr => first | (go_simp; done) | (go_simp; rfl)); intro gb367 hg w424 hbox hb; have BK367 := Aside0.mk (hbox); have GW367 := zB1 HB hg GE366; have GE367 := zB1 HB hg GE366; have NB366_367 := nL BK366 hg; have NB367_366 := nG BK366 hg; replace BK366 := mB BK366 hb; replace HB := sB1 HB hb GE366; clear hb hbox hg; have hnb425 := NB366_367.out; have hnc425 := NB367_366.out; have hcz426_0 := bC BK366 0 (.int .i64 0); have hcz426_1 := bC BK366 1 (.int .i64 0); have hcz426_2 := bC BK366 2 (.int .i64 0); have hcz426_3 := bC BK366 3 (.int .i64 0); have hfz426_0 := blk_frozen BK366.out 0; have hfz426_1 := blk_frozen BK366.out 1; have hfz426_2 := blk_frozen BK366.out 2; have hfz426_3 := blk_frozen BK366.out 3; have hcz427_0 := bC BK367 0 (.int .i64 0); have hcz427_1 := bC BK367 1 (.int .i64 0); have hcz427_2 := bC BK367 2 (.int .i64 0); have hcz427_3 := bC BK367 3 (.int .i64 0); have hfz427_0 := blk_frozen BK367.out 0; have hfz427_1 := blk_frozen BK367.out 1; have hfz427_2 := blk_frozen BK367.out 2; have hfz427_3 := blk_frozen BK367.out 3) | ((with_reducible refine gate_callee (f := 6) rfl ?_); refine gL (some 17) Try.func6 #[.agg #[.int .i64 t358, .int .i64 t359, .int .i64 t360, .int .i64 t361], .agg #[.int .i64 t362, .int .i64 t363, .int .i64 t364, .int .i64 t365]] ?_; (with_reducible refine (impl_HowMeet.calls k t358 t359 t360 t361 t362 t363 t364 t365 t368 _ A5.out).mono ?_); rintro e w428 ⟨rfl, hb⟩; refine ⟨_, rfl, ?_⟩; replace BK366 := Aside0.mk (blk_below (g := gb366) (o := .cells #[.int .i64 t358, .int .i64 t359, .int .i64 t360, .int .i64 t361] 27 (0, 0)) (by (with_reducible repeat (first | refine blk_drewN ?_ _ | refine blk_drew ?_ | refine blk_alloc ?_ _)); refine blk_far ?_ NB366_367.out _; (with_reducible repeat (first | refine blk_drewN ?_ _ | refine blk_drew ?_ | refine blk_alloc ?_ _)); refine blk_far ?_ NB366_367.out _; (with_reducible repeat (first | refine blk_drewN ?_ _ | refine blk_drew ?_ | refine blk_alloc ?_ _)); refine blk_far ?_ NB366_367.out _; (with_reducible repeat (first | refine blk_drewN ?_ _ | refine blk_drew ?_ | refine blk_alloc ?_ _)); refine blk_far ?_ NB366_367.out _; (with_reducible repeat (first | refine blk_drewN ?_ _ | refine blk_drew ?_ | refine blk_alloc ?_ _)); refine blk_put (cs := #[.int .i64 t358, .int .i64 t359, .int .i64 t360, .int .i64 0]) ?_ 3 _ rfl; (with_reducible repeat (first | refine blk_drewN ?_ _ | refine blk_drew ?_ | refine blk_alloc ?_ _)); refine blk_put (cs := #[.int .i64 t358, .int .i64 t359, .int .i64 0, .int .i64 0]) ?_ 2 _ rfl; (with_reducible repeat (first | refine blk_drewN ?_ _ | refine blk_drew ?_ | refine blk_alloc ?_ _)); refine blk_put (cs := #[.int .i64 t358, .int .i64 0, .int .i64 0, .int .i64 0]) ?_ 1 _ rfl; (with_reducible repeat (first | refine blk_drewN ?_ _ | refine blk_drew ?_ | refine blk_alloc ?_ _)); refine blk_put (cs := #[.int .i64 0, .int .i64 0, .int .i64 0, .int .i64 0]) ?_ 0 _ rfl; (with_reducible repeat (first | refine blk_drewN ?_ _ | refine blk_drew ?_ | refine blk_alloc ?_ _)); exact BK366.out) hb); replace BK367 := Aside0.mk (blk_below (g := gb367) (o := .cells #[.int .i64 t362, .int .i64 t363, .int .i64 t364, .int .i64 t365] 27 (0, 0)) (by (with_reducible repeat (first | refine blk_drewN ?_ _ | refine blk_drew ?_ | refine blk_alloc ?_ _)); refine blk_put (cs := #[.int .i64 t362, .int .i64 t363, .int .i64 t364, .int .i64 0]) ?_ 3 _ rfl; (with_reducible repeat (first | refine blk_drewN ?_ _ | refine blk_drew ?_ | refine blk_alloc ?_ _)); refine blk_put (cs := #[.int .i64 t362, .int .i64 t363, .int .i64 0, .int .i64 0]) ?_ 2 _ rfl; (with_reducible repeat (first | refine blk_drewN ?_ _ | refine blk_drew ?_ | refine blk_alloc ?_ _)); refine blk_put (cs := #[.int .i64 t362, .int .i64 0, .int .i64 0, .int .i64 0]) ?_ 1 _ rfl; (with_reducible repeat (first | refine blk_drewN ?_ _ | refine blk_drew ?_ | refine blk_alloc ?_ _)); refine blk_put (cs := #[.int .i64 0, .int .i64 0, .int .i64 0, .int .i64 0]) ?_ 0 _ rfl; (with_reducible repeat (first | refine blk_drewN ?_ _ | refine blk_drew ?_ | refine blk_alloc ?_ _)); refine blk_far ?_ NB367_366.out _; (with_reducible repeat (first | refine blk_drewN ?_ _ | refine blk_drew ?_ | refine blk_alloc ?_ _)); refine blk_far ?_ NB367_366.out _; (with_reducible repeat (first | refine blk_drewN ?_ _ | refine blk_drew ?_ | refine blk_alloc ?_ _)); refine blk_far ?_ NB367_366.out _; (with_reducible repeat (first | refine blk_drewN ?_ _ | refine blk_drew ?_ | refine blk_alloc ?_ _)); refine blk_far ?_ NB367_366.out _; (with_reducible repeat (first | refine blk_drewN ?_ _ | refine blk_drew ?_ | refine blk_alloc ?_ _)); exact BK367.out) hb); replace HB := sB2 HB hb GE366 GE367; (try clear hb); have hcz429_0 := bC BK366 0 (.int .i64 t358); have hcz429_1 := bC BK366 1 (.int .i64 t359); have hcz429_2 := bC BK366 2 (.int .i64 t360); have hcz429_3 := bC BK366 3 (.int .i64 t361); have hfz429_0 := blk_frozen BK366.out 0; have hfz429_1 := blk_frozen BK366.out 1; have hfz429_2 := blk_frozen BK366.out 2; have hfz429_3 := blk_frozen BK366.out 3; have hcz430_0 := bC BK367 0 (.int .i64 t362); have hcz430_1 := bC BK367 1 (.int .i64 t363); have hcz430_2 := bC BK367 2 (.int .i64 t364); have hcz430_3 := bC BK367 3 (.int .i64 t365); have hfz430_0 := blk_frozen BK367.out 0; have hfz430_1 := blk_frozen BK367.out 1; have hfz430_2 := blk_frozen BK367.out 2; have hfz430_3 := blk_frozen BK367.out 3) | ((with_reducible refine gate_callee (f := 7) rfl ?_); refine gL (some 21) Try.func7 #[.agg #[.int .i64 t358, .int .i64 t359, .int .i64 t360, .int .i64 t361], .agg #[.int .i64 t362, .int .i64 t363, .int .i64 t364, .int .i64 t365]] ?_; (with_reducible refine (spec_HowMeet.calls k t358 t359 t360 t361 t362 t363 t364 t365 t369 _ A6.out).mono ?_); rintro e w431 ⟨rfl, hb⟩; refine ⟨_, rfl, ?_⟩; replace BK366 := mB BK366 hb; replace BK367 := mB BK367 hb; replace HB := sB2 HB hb GE366 GE367; (try clear hb)))
   go_ret
   exact ⟨by first | rfl | (simp [errW_none, errW_some] <;> rfl) | (simp [*, errW_none, errW_some] <;> rfl), eB2 HB GE366 GE367⟩

/-- THE ONE PURE STATEMENT of laws_FnSegments: yours. -/
def laws_FnSegments.Pure : Prop := ∀ (l0 : List Int), l0.length ≤ maxLen → l0.length * 1 ≤ 140737488351232 → (∀ x ∈ l0, (Lit.int .u8 x).wf = true) → ∃ k, laws_FnSegments.f k l0 = some true
theorem laws_FnSegments.walk (P : laws_FnSegments.Pure) (a0 : Option Addr) (len0 cap0 : Nat) (z0 : List Int) (w : World) (w0 : (a0 = none ∧ len0 = 0 ∧ cap0 = 0 ∧ z0 = []) ∨ ∃ x, a0 = some x ∧ len0 ≤ cap0 ∧ cap0 ≤ maxLen ∧ z0.length = cap0 ∧ (∀ i, i < z0.length → w.cell? (x.add i) = some (.int .u8 (z0.getD i 0))) ∧ ∀ n ∈ z0, (Lit.int .u8 n).wf = true) (y0 : len0 * 1 ≤ 140737488351232) :
  Calls Try.prog 3 #[.slice a0 len0 cap0] w fun e w' => e = .returned (.bool true) ∧ Below w.heap.size w w' := by
 obtain ⟨l0, rfl, hr0, hm0, hw0, hc0⟩ := ReadsInt.ofRowC w0
 obtain ⟨k, h⟩ := P l0 hm0 y0 hw0
 refine (laws_FnSegments.calls k _ _ l0 true w (Kd.C_of_reads (d := (0 : Int)) (h1 := fun _ => rfl) hr0) hc0 h).mono ?_
 rintro e w' ⟨rfl, hd⟩
 exact ⟨rfl, hd⟩

end Go.Proofs.Ytokhmgfjgpcmdaa.PFnSegments
