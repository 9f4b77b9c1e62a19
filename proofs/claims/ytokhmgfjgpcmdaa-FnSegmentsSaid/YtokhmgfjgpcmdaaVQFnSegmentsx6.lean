/- What the functions of FnSegments compute, each with its proof: this session's own text. -/
import Derived.Test.YtokhmgfjgpcmdaaVQFnSegmentsx0
import Derived.Test.YtokhmgfjgpcmdaaVQFnSegmentsx1
import Derived.Test.YtokhmgfjgpcmdaaVQFnSegmentsx4
import Derived.Test.YtokhmgfjgpcmdaaVQFnSegmentsx5
namespace Go.Proofs.Ytokhmgfjgpcmdaa.PFnSegments
open Go.RowKit Go.Proofs.YtokhmgfjgpcmdaaW.PrintWords Go.Proofs.YtokhmgfjgpcmdaaW.PrintLast Go.Proofs.YtokhmgfjgpcmdaaW.PrintMore Go.Proofs.Ytokhmgfjgpcmdaa.Sh
attribute [local go_sem] max2_int min2_int max_two min_two max_three min_three max_four min_four   -- for this text's walks alone
set_option linter.unusedVariables false
set_option linter.unusedSimpArgs false

attribute [local go_sem high] eqA25
/-! ### impl_HowMeet: function 6 -/
mutual
def impl_HowMeet.j0 : Nat → Bool → Int → Int → Int → Int → Int → Int → Int → Int → Option (Int)
 | 0, _, _, _, _, _, _, _, _, _ => none
 | k + 1, x16, x244000, x244001, x244002, x244003, x245000, x245001, x245002, x245003 => if x16 = true then (some 0) else ((impl_SideOf.f k x244000 x244001 x244002 x244003 x245000 x245001).bind fun t247 => ((impl_SideOf.f k x244000 x244001 x244002 x244003 x245002 x245003).bind fun t248 => (if t247 = 0 then (impl_HowMeet.j1 k t247 t248 (t248 == 0) x244000 x244001 x244002 x244003 x245000 x245001 x245002 x245003) else (impl_HowMeet.j1 k t247 t248 false x244000 x244001 x244002 x244003 x245000 x245001 x245002 x245003))))
def impl_HowMeet.j1 : Nat → Int → Int → Bool → Int → Int → Int → Int → Int → Int → Int → Int → Option (Int)
 | 0, _, _, _, _, _, _, _, _, _, _, _ => none
 | k + 1, x5, x6, x36, x244000, x244001, x244002, x244003, x245000, x245001, x245002, x245003 => if x36 = true then ((impl_forward.f x244000 x244001 x244002 x244003).bind fun bt249 => ((impl_forward.f x245000 x245001 x245002 x245003).bind fun bt253 => ((impl_BeforePoint.f bt249.1 bt249.2.1 bt253.1 bt253.2.1).bind fun t259 => (if t259 = true then (impl_HowMeet.j2 k bt253.1 bt253.2.1 bt253.2.2.1 bt253.2.2.2 bt253.1 bt253.2.1 bt249.2.2.1 bt249.2.2.2) else (impl_HowMeet.j2 k bt253.1 bt253.2.1 bt253.2.2.1 bt253.2.2.2 bt249.1 bt249.2.1 bt249.2.2.1 bt249.2.2.2))))) else (if (wrap64 (x5 * x6)) < 0 then ((impl_SideOf.f k x245000 x245001 x245002 x245003 x244000 x244001).bind fun t262 => ((impl_SideOf.f k x245000 x245001 x245002 x245003 x244002 x244003).bind fun t263 => (impl_HowMeet.j4 k (decide ((wrap64 (t262 * t263)) < 0)) x244000 x244001 x244002 x244003 x245000 x245001 x245002 x245003))) else (impl_HowMeet.j4 k false x244000 x244001 x244002 x244003 x245000 x245001 x245002 x245003))
def impl_HowMeet.j2 : Nat → Int → Int → Int → Int → Int → Int → Int → Int → Option (Int)
 | 0, _, _, _, _, _, _, _, _ => none
 | k + 1, x245000, x245001, x245002, x245003, x258000, x258001, x259000, x259001 => (impl_BeforePoint.f x245002 x245003 x259000 x259001).bind fun t260 => (if t260 = true then (impl_HowMeet.j3 k x258000 x258001 x245002 x245003) else (impl_HowMeet.j3 k x258000 x258001 x259000 x259001))
def impl_HowMeet.j3 : Nat → Int → Int → Int → Int → Option (Int)
 | 0, _, _, _, _ => none
 | k + 1, x258000, x258001, x259000, x259001 => (impl_BeforePoint.f x259000 x259001 x258000 x258001).bind fun t261 => (if t261 = true then (some 0) else (if (x258000 == x259000 && (x258001 == x259001)) = true then (some 1) else (some 3)))
def impl_HowMeet.j4 : Nat → Bool → Int → Int → Int → Int → Int → Int → Int → Int → Option (Int)
 | 0, _, _, _, _, _, _, _, _, _ => none
 | k + 1, x86, x244000, x244001, x244002, x244003, x245000, x245001, x245002, x245003 => if x86 = true then (some 2) else ((impl_IsOn.f k x244000 x244001 x244002 x244003 x245000 x245001).bind fun t264 => (if t264 = true then (some 1) else ((impl_IsOn.f k x244000 x244001 x244002 x244003 x245002 x245003).bind fun t265 => (if t265 = true then (some 1) else ((impl_IsOn.f k x245000 x245001 x245002 x245003 x244000 x244001).bind fun t266 => (if t266 = true then (some 1) else ((impl_IsOn.f k x245000 x245001 x245002 x245003 x244002 x244003).bind fun t267 => (if t267 = true then (some 1) else (some 0)))))))))
end
def impl_HowMeet.f (k : Nat) (a0_0 : Int) (a0_1 : Int) (a0_2 : Int) (a0_3 : Int) (a1_0 : Int) (a1_1 : Int) (a1_2 : Int) (a1_3 : Int) : Option (Int) := (impl_IsSegment.f a0_0 a0_1 a0_2 a0_3).bind fun t245 => (if t245 = true then ((impl_IsSegment.f a1_0 a1_1 a1_2 a1_3).bind fun t246 => (impl_HowMeet.j0 k (!t246) a0_0 a0_1 a0_2 a0_3 a1_0 a1_1 a1_2 a1_3)) else (impl_HowMeet.j0 k true a0_0 a0_1 a0_2 a0_3 a1_0 a1_1 a1_2 a1_3))
theorem impl_HowMeet.mono_l : ∀ k, (∀ y0 y1 y2 y3 y4 y5 y6 y7 y8, LeO (impl_HowMeet.j0 k y0 y1 y2 y3 y4 y5 y6 y7 y8) (impl_HowMeet.j0 (k + 1) y0 y1 y2 y3 y4 y5 y6 y7 y8)) ∧ (∀ y0 y1 y2 y3 y4 y5 y6 y7 y8 y9 y10, LeO (impl_HowMeet.j1 k y0 y1 y2 y3 y4 y5 y6 y7 y8 y9 y10) (impl_HowMeet.j1 (k + 1) y0 y1 y2 y3 y4 y5 y6 y7 y8 y9 y10)) ∧ (∀ y0 y1 y2 y3 y4 y5 y6 y7, LeO (impl_HowMeet.j2 k y0 y1 y2 y3 y4 y5 y6 y7) (impl_HowMeet.j2 (k + 1) y0 y1 y2 y3 y4 y5 y6 y7)) ∧ (∀ y0 y1 y2 y3, LeO (impl_HowMeet.j3 k y0 y1 y2 y3) (impl_HowMeet.j3 (k + 1) y0 y1 y2 y3)) ∧ (∀ y0 y1 y2 y3 y4 y5 y6 y7 y8, LeO (impl_HowMeet.j4 k y0 y1 y2 y3 y4 y5 y6 y7 y8) (impl_HowMeet.j4 (k + 1) y0 y1 y2 y3 y4 y5 y6 y7 y8))
 | 0 => ⟨fun _ _ _ _ _ _ _ _ _ r h => by simp [impl_HowMeet.j0] at h, fun _ _ _ _ _ _ _ _ _ _ _ r h => by simp [impl_HowMeet.j1] at h, fun _ _ _ _ _ _ _ _ r h => by simp [impl_HowMeet.j2] at h, fun _ _ _ _ r h => by simp [impl_HowMeet.j3] at h, fun _ _ _ _ _ _ _ _ _ r h => by simp [impl_HowMeet.j4] at h⟩
 | k + 1 => by
  obtain ⟨ih0, ih1, ih2, ih3, ih4⟩ := impl_HowMeet.mono_l k
  refine ⟨?_, ?_, ?_, ?_, ?_⟩
  ·intro y0 y1 y2 y3 y4 y5 y6 y7 y8
   unfold impl_HowMeet.j0
   repeat' first
   | (with_reducible exact ih0 _ _ _ _ _ _ _ _ _)
   | (with_reducible exact ih1 _ _ _ _ _ _ _ _ _ _ _)
   | (with_reducible exact ih2 _ _ _ _ _ _ _ _)
   | (with_reducible exact ih3 _ _ _ _)
   | (with_reducible exact ih4 _ _ _ _ _ _ _ _ _)
   | (with_reducible exact impl_IsOn.mono _ _ _ _ _ _ _)
   | (with_reducible exact impl_SideOf.mono _ _ _ _ _ _ _)
   | (with_reducible exact LeO.refl _)
   | (with_reducible exact LeO.none _)
   | (with_reducible refine LeO.ite ?_ ?_)
   | (with_reducible refine LeO.bind ?_ (fun _ => ?_))
   | exact ih0 _ _ _ _ _ _ _ _ _
   | exact ih1 _ _ _ _ _ _ _ _ _ _ _
   | exact ih2 _ _ _ _ _ _ _ _
   | exact ih3 _ _ _ _
   | exact ih4 _ _ _ _ _ _ _ _ _
   | exact impl_IsOn.mono _ _ _ _ _ _ _
   | exact impl_SideOf.mono _ _ _ _ _ _ _
   | exact LeO.none _
   | refine LeO.ite ?_ ?_
   | refine LeO.bind ?_ (fun _ => ?_)
  ·intro y0 y1 y2 y3 y4 y5 y6 y7 y8 y9 y10
   unfold impl_HowMeet.j1
   repeat' first
   | (with_reducible exact ih0 _ _ _ _ _ _ _ _ _)
   | (with_reducible exact ih1 _ _ _ _ _ _ _ _ _ _ _)
   | (with_reducible exact ih2 _ _ _ _ _ _ _ _)
   | (with_reducible exact ih3 _ _ _ _)
   | (with_reducible exact ih4 _ _ _ _ _ _ _ _ _)
   | (with_reducible exact impl_IsOn.mono _ _ _ _ _ _ _)
   | (with_reducible exact impl_SideOf.mono _ _ _ _ _ _ _)
   | (with_reducible exact LeO.refl _)
   | (with_reducible exact LeO.none _)
   | (with_reducible refine LeO.ite ?_ ?_)
   | (with_reducible refine LeO.bind ?_ (fun _ => ?_))
   | exact ih0 _ _ _ _ _ _ _ _ _
   | exact ih1 _ _ _ _ _ _ _ _ _ _ _
   | exact ih2 _ _ _ _ _ _ _ _
   | exact ih3 _ _ _ _
   | exact ih4 _ _ _ _ _ _ _ _ _
   | exact impl_IsOn.mono _ _ _ _ _ _ _
   | exact impl_SideOf.mono _ _ _ _ _ _ _
   | exact LeO.none _
   | refine LeO.ite ?_ ?_
   | refine LeO.bind ?_ (fun _ => ?_)
  ·intro y0 y1 y2 y3 y4 y5 y6 y7
   unfold impl_HowMeet.j2
   repeat' first
   | (with_reducible exact ih0 _ _ _ _ _ _ _ _ _)
   | (with_reducible exact ih1 _ _ _ _ _ _ _ _ _ _ _)
   | (with_reducible exact ih2 _ _ _ _ _ _ _ _)
   | (with_reducible exact ih3 _ _ _ _)
   | (with_reducible exact ih4 _ _ _ _ _ _ _ _ _)
   | (with_reducible exact impl_IsOn.mono _ _ _ _ _ _ _)
   | (with_reducible exact impl_SideOf.mono _ _ _ _ _ _ _)
   | (with_reducible exact LeO.refl _)
   | (with_reducible exact LeO.none _)
   | (with_reducible refine LeO.ite ?_ ?_)
   | (with_reducible refine LeO.bind ?_ (fun _ => ?_))
   | exact ih0 _ _ _ _ _ _ _ _ _
   | exact ih1 _ _ _ _ _ _ _ _ _ _ _
   | exact ih2 _ _ _ _ _ _ _ _
   | exact ih3 _ _ _ _
   | exact ih4 _ _ _ _ _ _ _ _ _
   | exact impl_IsOn.mono _ _ _ _ _ _ _
   | exact impl_SideOf.mono _ _ _ _ _ _ _
   | exact LeO.none _
   | refine LeO.ite ?_ ?_
   | refine LeO.bind ?_ (fun _ => ?_)
  ·intro y0 y1 y2 y3
   unfold impl_HowMeet.j3
   repeat' first
   | (with_reducible exact ih0 _ _ _ _ _ _ _ _ _)
   | (with_reducible exact ih1 _ _ _ _ _ _ _ _ _ _ _)
   | (with_reducible exact ih2 _ _ _ _ _ _ _ _)
   | (with_reducible exact ih3 _ _ _ _)
   | (with_reducible exact ih4 _ _ _ _ _ _ _ _ _)
   | (with_reducible exact impl_IsOn.mono _ _ _ _ _ _ _)
   | (with_reducible exact impl_SideOf.mono _ _ _ _ _ _ _)
   | (with_reducible exact LeO.refl _)
   | (with_reducible exact LeO.none _)
   | (with_reducible refine LeO.ite ?_ ?_)
   | (with_reducible refine LeO.bind ?_ (fun _ => ?_))
   | exact ih0 _ _ _ _ _ _ _ _ _
   | exact ih1 _ _ _ _ _ _ _ _ _ _ _
   | exact ih2 _ _ _ _ _ _ _ _
   | exact ih3 _ _ _ _
   | exact ih4 _ _ _ _ _ _ _ _ _
   | exact impl_IsOn.mono _ _ _ _ _ _ _
   | exact impl_SideOf.mono _ _ _ _ _ _ _
   | exact LeO.none _
   | refine LeO.ite ?_ ?_
   | refine LeO.bind ?_ (fun _ => ?_)
  ·intro y0 y1 y2 y3 y4 y5 y6 y7 y8
   unfold impl_HowMeet.j4
   repeat' first
   | (with_reducible exact ih0 _ _ _ _ _ _ _ _ _)
   | (with_reducible exact ih1 _ _ _ _ _ _ _ _ _ _ _)
   | (with_reducible exact ih2 _ _ _ _ _ _ _ _)
   | (with_reducible exact ih3 _ _ _ _)
   | (with_reducible exact ih4 _ _ _ _ _ _ _ _ _)
   | (with_reducible exact impl_IsOn.mono _ _ _ _ _ _ _)
   | (with_reducible exact impl_SideOf.mono _ _ _ _ _ _ _)
   | (with_reducible exact LeO.refl _)
   | (with_reducible exact LeO.none _)
   | (with_reducible refine LeO.ite ?_ ?_)
   | (with_reducible refine LeO.bind ?_ (fun _ => ?_))
   | exact ih0 _ _ _ _ _ _ _ _ _
   | exact ih1 _ _ _ _ _ _ _ _ _ _ _
   | exact ih2 _ _ _ _ _ _ _ _
   | exact ih3 _ _ _ _
   | exact ih4 _ _ _ _ _ _ _ _ _
   | exact impl_IsOn.mono _ _ _ _ _ _ _
   | exact impl_SideOf.mono _ _ _ _ _ _ _
   | exact LeO.none _
   | refine LeO.ite ?_ ?_
   | refine LeO.bind ?_ (fun _ => ?_)
theorem impl_HowMeet.mono : ∀ a0 a1 a2 a3 a4 a5 a6 a7 k, LeO (impl_HowMeet.f k a0 a1 a2 a3 a4 a5 a6 a7) (impl_HowMeet.f (k + 1) a0 a1 a2 a3 a4 a5 a6 a7) := by
 intro a0 a1 a2 a3 a4 a5 a6 a7 k
 obtain ⟨ih0, ih1, ih2, ih3, ih4⟩ := impl_HowMeet.mono_l k
 unfold impl_HowMeet.f
 repeat' first
   | (with_reducible exact ih0 _ _ _ _ _ _ _ _ _)
   | (with_reducible exact ih1 _ _ _ _ _ _ _ _ _ _ _)
   | (with_reducible exact ih2 _ _ _ _ _ _ _ _)
   | (with_reducible exact ih3 _ _ _ _)
   | (with_reducible exact ih4 _ _ _ _ _ _ _ _ _)
   | (with_reducible exact impl_IsOn.mono _ _ _ _ _ _ _)
   | (with_reducible exact impl_SideOf.mono _ _ _ _ _ _ _)
   | (with_reducible exact LeO.refl _)
   | (with_reducible exact LeO.none _)
   | (with_reducible refine LeO.ite ?_ ?_)
   | (with_reducible refine LeO.bind ?_ (fun _ => ?_))
   | exact ih0 _ _ _ _ _ _ _ _ _
   | exact ih1 _ _ _ _ _ _ _ _ _ _ _
   | exact ih2 _ _ _ _ _ _ _ _
   | exact ih3 _ _ _ _
   | exact ih4 _ _ _ _ _ _ _ _ _
   | exact impl_IsOn.mono _ _ _ _ _ _ _
   | exact impl_SideOf.mono _ _ _ _ _ _ _
   | exact LeO.none _
   | refine LeO.ite ?_ ?_
   | refine LeO.bind ?_ (fun _ => ?_)
def impl_HowMeet.T3 : Bool × List (List Nat × List Nat) := (true, [([], []), ([0], [0]), ([], []), ([2], [2]), ([], []), ([4], [4]), ([1, 3, 5], [1, 3, 5]), ([], []), ([7], [7]), ([], []), ([9], [9]), ([], []), ([11], [11]), ([8, 10, 12, 6], [8, 10, 12]), ([6, 13, 0, 1, 2, 3, 4, 5, 6], [6]), ([13, 14, 0, 1, 2, 3, 4, 5, 6, 7, 8, 9, 10, 11, 12, 13, 14], [13])])
def impl_HowMeet.B3 : List Nat := [0, 1, 0, 4, 0, 16, 63, 0, 128, 0, 512, 0, 2048, 8191, 16383, 32767]
theorem impl_HowMeet.tab3 : rtab .any (opsOf Try.f6 3) = impl_HowMeet.T3 := by kernel_rfl
theorem impl_HowMeet.bits3 : waitsOk impl_HowMeet.T3.2 impl_HowMeet.B3 = true := by kernel_rfl
def impl_HowMeet.T6 : Bool × List (List Nat × List Nat) := (true, [([], []), ([0], [0]), ([], []), ([2], [2]), ([], []), ([], []), ([4, 1, 0, 1, 4, 5], [1, 4]), ([5, 3, 6, 0, 1, 2, 3, 4, 5, 6], [3, 5])])
def impl_HowMeet.B6 : List Nat := [0, 1, 0, 4, 0, 0, 51, 127]
theorem impl_HowMeet.tab6 : rtab .any (opsOf Try.f6 6) = impl_HowMeet.T6 := by kernel_rfl
theorem impl_HowMeet.bits6 : waitsOk impl_HowMeet.T6.2 impl_HowMeet.B6 = true := by kernel_rfl
def impl_HowMeet.T16 : Bool × List (List Nat × List Nat) := (true, [([], []), ([], []), ([0, 1], [0, 1]), ([2], [2]), ([3], [3]), ([4], [4]), ([5, 4], [4, 5]), ([4], [4]), ([7, 4], [4, 7]), ([4], [4]), ([9, 4], [4, 9]), ([6, 8, 10, 4, 4], [4, 6, 8, 10]), ([4], [4]), ([12, 4], [4, 12]), ([4], [4]), ([14, 4], [4, 14]), ([4], [4]), ([16, 4], [4, 16]), ([13, 15, 17, 11, 4], [4, 13, 15, 17]), ([11, 18, 4], [4, 11, 18]), ([19, 4], [4, 19]), ([4, 20], [4, 20])])
def impl_HowMeet.B16 : List Nat := [0, 0, 3, 7, 15, 31, 63, 31, 159, 31, 543, 2047, 31, 4127, 31, 16415, 31, 65567, 262143, 524287, 1048575, 2097151]
theorem impl_HowMeet.tab16 : rtab .any (opsOf Try.f6 16) = impl_HowMeet.T16 := by kernel_rfl
theorem impl_HowMeet.bits16 : waitsOk impl_HowMeet.T16.2 impl_HowMeet.B16 = true := by kernel_rfl
set_option maxHeartbeats 8000000 in
set_option maxRecDepth 100000 in
theorem impl_HowMeet.calls (k : Nat) (a0_0 : Int) (a0_1 : Int) (a0_2 : Int) (a0_3 : Int) (a1_0 : Int) (a1_1 : Int) (a1_2 : Int) (a1_3 : Int) (r : Int) (w : World) (h : impl_HowMeet.f k a0_0 a0_1 a0_2 a0_3 a1_0 a1_1 a1_2 a1_3 = some r) :
  Calls Try.prog 6 #[.agg #[.int .i64 a0_0, .int .i64 a0_1, .int .i64 a0_2, .int .i64 a0_3], .agg #[.int .i64 a1_0, .int .i64 a1_1, .int .i64 a1_2, .int .i64 a1_3]] w fun e w' => e = .returned (.int .i64 r) ∧ Below w.heap.size w w' := by
 have hu27 := Try.underlying27
 have hu25 := Try.underlying25
 have HB := Aside0.mk (Below.refl w.heap.size w)
 have H : ((impl_IsSegment.f a0_0 a0_1 a0_2 a0_3).bind fun t245 => (if t245 = true then ((impl_IsSegment.f a1_0 a1_1 a1_2 a1_3).bind fun t246 => (impl_HowMeet.j0 k (!t246) a0_0 a0_1 a0_2 a0_3 a1_0 a1_1 a1_2 a1_3)) else (impl_HowMeet.j0 k true a0_0 a0_1 a0_2 a0_3 a1_0 a1_1 a1_2 a1_3))) = some r := h
 clear h
 have HC3 := Aside0.mk H
 clear H
 go_enter Try.func6, Try.ntmps6
 go_upto_region 1 with (first | ((with_reducible refine gate_dst (N := 2) rfl ?_); refine box_event ?hg (N := 2) ?hd (cs := #[.int .i64 a0_0, .int .i64 a0_1, .int .i64 a0_2, .int .i64 a0_3]) (t := 27) ?hr ?_; (case hd => rfl); (case hg => rfl); (case hr => first | (go_simp; done) | (go_simp; rfl)); intro gb243 hg w4 hbox hb; have BK243 := Aside0.mk (hbox); have GW243 := zB0 HB hg; have GE243 := zB0 HB hg; replace HB := sB0 HB hb; clear hb hbox hg) | ((with_reducible refine gate_dst (N := 3) rfl ?_); refine box_event ?hg (N := 3) ?hd (cs := #[.int .i64 a1_0, .int .i64 a1_1, .int .i64 a1_2, .int .i64 a1_3]) (t := 27) ?hr ?_; (case hd => rfl); (case hg => rfl); (case hr => first | (go_simp; done) | (go_simp; rfl)); intro gb244 hg w5 hbox hb; have BK244 := Aside0.mk (hbox); have GW244 := zB1 HB hg GE243; have GE244 := zB1 HB hg GE243; have NB243_244 := nL BK243 hg; have NB244_243 := nG BK243 hg; replace BK243 := mB BK243 hb; replace HB := sB1 HB hb GE243; clear hb hbox hg))
 (try simp only [Act.put, List.setIfInBounds_toArray, List.set_cons_zero, List.set_cons_succ])
 go_cut [16] (fun v16 wc => ∃ (kq : Nat) (x16_2 : Bool), v16 = .bool x16_2 ∧ Aside0 (impl_HowMeet.j0 kq x16_2 a0_0 a0_1 a0_2 a0_3 a1_0 a1_1 a1_2 a1_3 = some r) ∧ Aside0 (kq ≤ k) ∧ Aside0 (wc.heap[gb243]? = some (.cells #[.int .i64 a0_0, .int .i64 a0_1, .int .i64 a0_2, .int .i64 a0_3] 27 (0, 0))) ∧ Aside0 (wc.heap[gb244]? = some (.cells #[.int .i64 a1_0, .int .i64 a1_1, .int .i64 a1_2, .int .i64 a1_3] 27 (0, 0))) ∧ Aside0 (Below w.heap.size w wc))
 case first =>
  have H := HC3.out
  clear HC3
  replace H := Option.bind_eq_some_iff.mp H
  obtain ⟨t245, A60, H⟩ := H
  replace H : (if t245 = true then ((impl_IsSegment.f a1_0 a1_1 a1_2 a1_3).bind fun t246 => (impl_HowMeet.j0 k (!t246) a0_0 a0_1 a0_2 a0_3 a1_0 a1_1 a1_2 a1_3)) else (impl_HowMeet.j0 k true a0_0 a0_1 a0_2 a0_3 a1_0 a1_1 a1_2 a1_3)) = some r := H
  have A6 := Aside0.mk A60
  clear A60
  by_cases c7 : t245 = true
  ·subst c7
   have H1 : ((impl_IsSegment.f a1_0 a1_1 a1_2 a1_3).bind fun t246 => (impl_HowMeet.j0 k (!t246) a0_0 a0_1 a0_2 a0_3 a1_0 a1_1 a1_2 a1_3)) = some r := by rw [if_pos rfl] at H; exact H
   clear H
   have H := H1
   clear H1
   replace H := Option.bind_eq_some_iff.mp H
   obtain ⟨t246, A80, H⟩ := H
   replace H : (impl_HowMeet.j0 k (!t246) a0_0 a0_1 a0_2 a0_3 a1_0 a1_1 a1_2 a1_3) = some r := H
   have A8 := Aside0.mk A80
   clear A80
   have H' := Aside0.mk H
   clear H
   have hnb9 := NB243_244.out
   have hnc9 := NB244_243.out
   have hcz10_0 := bC BK243 0 (.int .i64 a0_0)
   have hcz10_1 := bC BK243 1 (.int .i64 a0_1)
   have hcz10_2 := bC BK243 2 (.int .i64 a0_2)
   have hcz10_3 := bC BK243 3 (.int .i64 a0_3)
   have hfz10_0 := blk_frozen BK243.out 0
   have hfz10_1 := blk_frozen BK243.out 1
   have hfz10_2 := blk_frozen BK243.out 2
   have hfz10_3 := blk_frozen BK243.out 3
   go_wp2_with (first | ((with_reducible refine gate_callee (f := 9) rfl ?_); refine gL (some 10) Try.func9 #[.agg #[.int .i64 a0_0, .int .i64 a0_1, .int .i64 a0_2, .int .i64 a0_3]] ?_; (with_reducible refine (impl_IsSegment.calls a0_0 a0_1 a0_2 a0_3 true _ A6.out).mono ?_); rintro e w11 ⟨rfl, hb⟩; refine ⟨_, rfl, ?_⟩; replace BK243 := mB BK243 hb; replace BK244 := mB BK244 hb; replace HB := sB2 HB hb GE243 GE244; (try clear hb); have hcz12_0 := bC BK244 0 (.int .i64 a1_0); have hcz12_1 := bC BK244 1 (.int .i64 a1_1); have hcz12_2 := bC BK244 2 (.int .i64 a1_2); have hcz12_3 := bC BK244 3 (.int .i64 a1_3); have hfz12_0 := blk_frozen BK244.out 0; have hfz12_1 := blk_frozen BK244.out 1; have hfz12_2 := blk_frozen BK244.out 2; have hfz12_3 := blk_frozen BK244.out 3) | (go_at_call 9; (with_reducible refine (impl_IsSegment.calls a1_0 a1_1 a1_2 a1_3 t246 _ A8.out).mono ?_); rintro e w13 ⟨rfl, hb⟩; replace BK243 := mB BK243 hb; replace BK244 := mB BK244 hb; replace HB := sB2 HB hb GE243 GE244; (try clear hb)))
   go_meet
   case rel => exact ⟨_, (!t246), (by first | rfl | (simp; done) | (simp [*]; done)), H', ⟨by first | omega | exact Nat.le_refl _⟩, ⟨by (with_reducible repeat (first | refine blk_drewN ?_ _ | refine blk_drew ?_ | refine blk_alloc ?_ _)); exact BK243.out⟩, ⟨by (with_reducible repeat (first | refine blk_drewN ?_ _ | refine blk_drew ?_ | refine blk_alloc ?_ _)); exact BK244.out⟩, ⟨eB2 HB GE243 GE244⟩⟩
  ·replace c7 := Bool.eq_false_iff.mpr c7
   subst c7
   have H1 : (impl_HowMeet.j0 k true a0_0 a0_1 a0_2 a0_3 a1_0 a1_1 a1_2 a1_3) = some r := by rw [if_neg (show ¬ (false = true) by decide)] at H; exact H
   clear H
   have H := H1
   clear H1
   have H' := Aside0.mk H
   clear H
   have hnb14 := NB243_244.out
   have hnc14 := NB244_243.out
   have hcz15_0 := bC BK243 0 (.int .i64 a0_0)
   have hcz15_1 := bC BK243 1 (.int .i64 a0_1)
   have hcz15_2 := bC BK243 2 (.int .i64 a0_2)
   have hcz15_3 := bC BK243 3 (.int .i64 a0_3)
   have hfz15_0 := blk_frozen BK243.out 0
   have hfz15_1 := blk_frozen BK243.out 1
   have hfz15_2 := blk_frozen BK243.out 2
   have hfz15_3 := blk_frozen BK243.out 3
   go_wp2_with (first | ((with_reducible refine gate_callee (f := 9) rfl ?_); refine gL (some 10) Try.func9 #[.agg #[.int .i64 a0_0, .int .i64 a0_1, .int .i64 a0_2, .int .i64 a0_3]] ?_; (with_reducible refine (impl_IsSegment.calls a0_0 a0_1 a0_2 a0_3 false _ A6.out).mono ?_); rintro e w16 ⟨rfl, hb⟩; refine ⟨_, rfl, ?_⟩; replace BK243 := mB BK243 hb; replace BK244 := mB BK244 hb; replace HB := sB2 HB hb GE243 GE244; (try clear hb)))
   go_meet
   case rel => exact ⟨_, (true), (by first | rfl | (simp; done) | (simp [*]; done)), H', ⟨by first | omega | exact Nat.le_refl _⟩, ⟨by (with_reducible repeat (first | refine blk_drewN ?_ _ | refine blk_drew ?_ | refine blk_alloc ?_ _)); exact BK243.out⟩, ⟨by (with_reducible repeat (first | refine blk_drewN ?_ _ | refine blk_drew ?_ | refine blk_alloc ?_ _)); exact BK244.out⟩, ⟨eB2 HB GE243 GE244⟩⟩
 case rest =>
  clear HC3
  try clear c1
  try clear p2
  try clear c6
  try clear c7
  try clear c9
  try clear c14
  obtain ⟨kq, x16_2, rfl, HA, HJ2, BK243, BK244, HB⟩ := hcut
  cases kq with
  | zero => exact absurd HA.out (by simp [impl_HowMeet.j0])
  | succ kj2 =>
   have H := HA.out
   clear HA
   simp only [impl_HowMeet.j0] at H
   by_cases c17 : x16_2 = true
   ·subst c17
    have H1 : (some 0) = some r := by rw [if_pos rfl] at H; exact H
    clear H
    have H := H1
    clear H1
    obtain rfl := Option.some.inj H
    go_wp2
    go_ret
    exact ⟨by first | rfl | (simp [errW_none, errW_some] <;> rfl) | (simp [*, errW_none, errW_some] <;> rfl), eB2 HB GE243 GE244⟩
   ·replace c17 := Bool.eq_false_iff.mpr c17
    subst c17
    have H1 : ((impl_SideOf.f kj2 a0_0 a0_1 a0_2 a0_3 a1_0 a1_1).bind fun t247 => ((impl_SideOf.f kj2 a0_0 a0_1 a0_2 a0_3 a1_2 a1_3).bind fun t248 => (if t247 = 0 then (impl_HowMeet.j1 kj2 t247 t248 (t248 == 0) a0_0 a0_1 a0_2 a0_3 a1_0 a1_1 a1_2 a1_3) else (impl_HowMeet.j1 kj2 t247 t248 false a0_0 a0_1 a0_2 a0_3 a1_0 a1_1 a1_2 a1_3)))) = some r := by rw [if_neg (show ¬ (false = true) by decide)] at H; exact H
    clear H
    have H := H1
    clear H1
    replace H := Option.bind_eq_some_iff.mp H
    obtain ⟨t247, A180, H⟩ := H
    replace H : ((impl_SideOf.f kj2 a0_0 a0_1 a0_2 a0_3 a1_2 a1_3).bind fun t248 => (if t247 = 0 then (impl_HowMeet.j1 kj2 t247 t248 (t248 == 0) a0_0 a0_1 a0_2 a0_3 a1_0 a1_1 a1_2 a1_3) else (impl_HowMeet.j1 kj2 t247 t248 false a0_0 a0_1 a0_2 a0_3 a1_0 a1_1 a1_2 a1_3))) = some r := H
    have A18 := Aside0.mk A180
    clear A180
    replace H := Option.bind_eq_some_iff.mp H
    obtain ⟨t248, A190, H⟩ := H
    replace H : (if t247 = 0 then (impl_HowMeet.j1 kj2 t247 t248 (t248 == 0) a0_0 a0_1 a0_2 a0_3 a1_0 a1_1 a1_2 a1_3) else (impl_HowMeet.j1 kj2 t247 t248 false a0_0 a0_1 a0_2 a0_3 a1_0 a1_1 a1_2 a1_3)) = some r := H
    have A19 := Aside0.mk A190
    clear A190
    have HC20 := Aside0.mk H
    clear H
    try go_wp2
    replace BK243 := Aside0.mk (blk_drew BK243.out)
    replace BK244 := Aside0.mk (blk_drew BK244.out)
    replace HB := Aside0.mk (below_drew1 HB.out)
    refine start_ (n := 16) (S := fun w' => w'.cell? ⟨gb243, 0, none⟩ = some (.int .i64 a0_0) ∧ w'.cell? ⟨gb243, 1, none⟩ = some (.int .i64 a0_1) ∧ w'.cell? ⟨gb243, 2, none⟩ = some (.int .i64 a0_2) ∧ w'.cell? ⟨gb243, 3, none⟩ = some (.int .i64 a0_3) ∧ w'.cell? ⟨gb244, 0, none⟩ = some (.int .i64 a1_0) ∧ w'.cell? ⟨gb244, 1, none⟩ = some (.int .i64 a1_1) ∧ w'.cell? ⟨gb244, 2, none⟩ = some (.int .i64 a1_2) ∧ w'.cell? ⟨gb244, 3, none⟩ = some (.int .i64 a1_3)) (ds := []) #[false, false, false, false, false, false, false, false, false, false, false, false, false, false, false, false] (by kernel_rfl) rfl rfl ⟨(blk_cell BK243.out 0).trans rfl, (blk_cell BK243.out 1).trans rfl, (blk_cell BK243.out 2).trans rfl, (blk_cell BK243.out 3).trans rfl, (blk_cell BK244.out 0).trans rfl, (blk_cell BK244.out 1).trans rfl, (blk_cell BK244.out 2).trans rfl, (blk_cell BK244.out 3).trans rfl⟩ (fun hHeld => ?_); refine with_tabW impl_HowMeet.tab3 impl_HowMeet.bits3 (fun HT_ HW_ => ?_)
    generalize wc.drew = w21 at BK243 BK244 HB hHeld ⊢
    refine pA HT_.out 0 17 ?_
    refine pA HT_.out 2 19 ?_
    refine pA HT_.out 4 21 ?_
    refine pA HT_.out 7 24 ?_
    refine pA HT_.out 9 26 ?_
    refine pA HT_.out 11 28 ?_
    refine tA8 HT_.out HW_.out 1 18 hHeld ?_
    refine tA8 HT_.out HW_.out 3 20 hHeld ?_
    refine tA8 HT_.out HW_.out 5 22 hHeld ?_
    refine tA8 HT_.out HW_.out 8 25 hHeld ?_
    refine tA8 HT_.out HW_.out 10 27 hHeld ?_
    refine tA8 HT_.out HW_.out 12 29 hHeld ?_
    refine one_ (i := 6) (N := some 23) #[true, true, true, true, true, true, true, true, true, true, true, true, true, false, false, false] rfl rfl (one_of HT_.out (by kernel_rfl)) (by decide) (fun K hK => ?_)
    refine gS Try.func16 #[.agg #[.int .i64 a0_0, .int .i64 a0_1], .agg #[.int .i64 a0_2, .int .i64 a0_3], .agg #[.int .i64 a1_0, .int .i64 a1_1]] ?_
    with_reducible refine (impl_SideOf.calls kj2 a0_0 a0_1 a0_2 a0_3 a1_0 a1_1 t247 _ A18.out).mono ?_
    rintro e w22 ⟨rfl, hb⟩
    refine ⟨_, rfl, ?_⟩
    replace BK243 := mB BK243 hb
    replace BK244 := mB BK244 hb
    replace HB := sB2 HB hb GE243 GE244
    (try clear hb)
    (try clear hb2)
    (try clear hk)
    (try clear hi)
    refine hK.out _ _ ⟨(blk_cell BK243.out 0).trans rfl, (blk_cell BK243.out 1).trans rfl, (blk_cell BK243.out 2).trans rfl, (blk_cell BK243.out 3).trans rfl, (blk_cell BK244.out 0).trans rfl, (blk_cell BK244.out 1).trans rfl, (blk_cell BK244.out 2).trans rfl, (blk_cell BK244.out 3).trans rfl⟩ (fun hHeld => ?_)
    clear hK K
    refine norm_ (a' := ?_) ?_ ?_
    rotate_left
    ·show Act.put _ (some 23) _ = _
     simp only [Act.put, List.setIfInBounds_toArray, List.set_cons_zero, List.set_cons_succ, i64_w, i32_w]
     rfl
    refine one_ (i := 13) (N := some 30) #[true, true, true, true, true, true, true, true, true, true, true, true, true, true, false, false] rfl rfl (one_of HT_.out (by kernel_rfl)) (by decide) (fun K hK => ?_)
    refine gS Try.func16 #[.agg #[.int .i64 a0_0, .int .i64 a0_1], .agg #[.int .i64 a0_2, .int .i64 a0_3], .agg #[.int .i64 a1_2, .int .i64 a1_3]] ?_
    with_reducible refine (impl_SideOf.calls kj2 a0_0 a0_1 a0_2 a0_3 a1_2 a1_3 t248 _ A19.out).mono ?_
    rintro e w23 ⟨rfl, hb⟩
    refine ⟨_, rfl, ?_⟩
    replace BK243 := mB BK243 hb
    replace BK244 := mB BK244 hb
    replace HB := sB2 HB hb GE243 GE244
    (try clear hb)
    (try clear hb2)
    (try clear hk)
    (try clear hi)
    refine hK.out _ _ ⟨(blk_cell BK243.out 0).trans rfl, (blk_cell BK243.out 1).trans rfl, (blk_cell BK243.out 2).trans rfl, (blk_cell BK243.out 3).trans rfl, (blk_cell BK244.out 0).trans rfl, (blk_cell BK244.out 1).trans rfl, (blk_cell BK244.out 2).trans rfl, (blk_cell BK244.out 3).trans rfl⟩ (fun hHeld => ?_)
    clear hK K
    refine norm_ (a' := ?_) ?_ ?_
    rotate_left
    ·show Act.put _ (some 30) _ = _
     simp only [Act.put, List.setIfInBounds_toArray, List.set_cons_zero, List.set_cons_succ, i64_w, i32_w]
     rfl
    refine pA HT_.out 14 5 ?_
    refine pA HT_.out 15 6 ?_
    refine done_ (done_of HT_.out (by kernel_rfl)) ?_
    go_upto_region 4 with (fail)
    go_cut [36] (fun v36 wc => ∃ (kq : Nat) (x36_19 : Bool), v36 = .bool x36_19 ∧ Aside0 (impl_HowMeet.j1 kq t247 t248 x36_19 a0_0 a0_1 a0_2 a0_3 a1_0 a1_1 a1_2 a1_3 = some r) ∧ Aside0 (kq ≤ kj2) ∧ Aside0 (wc.heap[gb243]? = some (.cells #[.int .i64 a0_0, .int .i64 a0_1, .int .i64 a0_2, .int .i64 a0_3] 27 (0, 0))) ∧ Aside0 (wc.heap[gb244]? = some (.cells #[.int .i64 a1_0, .int .i64 a1_1, .int .i64 a1_2, .int .i64 a1_3] 27 (0, 0))) ∧ Aside0 (Below w.heap.size w wc))
    case first =>
     have H := HC20.out
     clear HC20
     by_cases c24 : t247 = 0
     ·rw [if_pos c24] at H
      have c24b0 : (t247 == 0) = true := beq_iff_eq.mpr c24
      have c24b1 : (t247 != 0) = false := bne_eq_false_iff_eq.mpr c24
      clear c24
      (first | rw [c24b0] | (simp only [i64_w, i32_w]; rw [c24b0]) | skip)
      have H' := Aside0.mk H
      clear H
      go_wp2
      go_meet
      case rel => exact ⟨_, ((t248 == 0)), (by first | rfl | (simp; done) | (simp [*]; done)), H', ⟨by have := HJ2.out; first | omega | exact Nat.le_refl _⟩, ⟨by (with_reducible repeat (first | refine blk_drewN ?_ _ | refine blk_drew ?_ | refine blk_alloc ?_ _)); exact BK243.out⟩, ⟨by (with_reducible repeat (first | refine blk_drewN ?_ _ | refine blk_drew ?_ | refine blk_alloc ?_ _)); exact BK244.out⟩, ⟨eB2 HB GE243 GE244⟩⟩
     ·rw [if_neg c24] at H
      have c24b0 : (t247 == 0) = false := beq_eq_false_iff_ne.mpr c24
      have c24b1 : (t247 != 0) = true := bne_iff_ne.mpr c24
      (first | rw [c24b0] | (simp only [i64_w, i32_w]; rw [c24b0]) | skip)
      have H' := Aside0.mk H
      clear H
      go_wp2
      go_meet
      case rel => exact ⟨_, (false), (by first | rfl | (simp; done) | (simp [*]; done)), H', ⟨by have := HJ2.out; first | omega | exact Nat.le_refl _⟩, ⟨by (with_reducible repeat (first | refine blk_drewN ?_ _ | refine blk_drew ?_ | refine blk_alloc ?_ _)); exact BK243.out⟩, ⟨by (with_reducible repeat (first | refine blk_drewN ?_ _ | refine blk_drew ?_ | refine blk_alloc ?_ _)); exact BK244.out⟩, ⟨eB2 HB GE243 GE244⟩⟩
    case rest =>
     clear HC20
     try clear c1
     try clear c2
     try clear p2
     try clear c6
     try clear c7
     try clear c9
     try clear c14
     try clear c16
     try clear c17
     try clear c24
     try clear c24b0
     try clear c24b1
     try clear p2
     obtain ⟨kq, x36_19, rfl, HA, HJ19, BK243, BK244, HB⟩ := hcut
     cases kq with
     | zero => exact absurd HA.out (by simp [impl_HowMeet.j1])
     | succ kj19 =>
      have H := HA.out
      clear HA
      simp only [impl_HowMeet.j1] at H
      by_cases c25 : x36_19 = true
      ·subst c25
       have H1 : ((impl_forward.f a0_0 a0_1 a0_2 a0_3).bind fun bt249 => ((impl_forward.f a1_0 a1_1 a1_2 a1_3).bind fun bt253 => ((impl_BeforePoint.f bt249.1 bt249.2.1 bt253.1 bt253.2.1).bind fun t259 => (if t259 = true then (impl_HowMeet.j2 kj19 bt253.1 bt253.2.1 bt253.2.2.1 bt253.2.2.2 bt253.1 bt253.2.1 bt249.2.2.1 bt249.2.2.2) else (impl_HowMeet.j2 kj19 bt253.1 bt253.2.1 bt253.2.2.1 bt253.2.2.2 bt249.1 bt249.2.1 bt249.2.2.1 bt249.2.2.2))))) = some r := by rw [if_pos rfl] at H; exact H
       clear H
       have H := H1
       clear H1
       replace H := Option.bind_eq_some_iff.mp H
       obtain ⟨⟨t249, t250, t251, t252⟩, A260, H⟩ := H
       replace H : ((impl_forward.f a1_0 a1_1 a1_2 a1_3).bind fun bt253 => ((impl_BeforePoint.f t249 t250 bt253.1 bt253.2.1).bind fun t259 => (if t259 = true then (impl_HowMeet.j2 kj19 bt253.1 bt253.2.1 bt253.2.2.1 bt253.2.2.2 bt253.1 bt253.2.1 t251 t252) else (impl_HowMeet.j2 kj19 bt253.1 bt253.2.1 bt253.2.2.1 bt253.2.2.2 t249 t250 t251 t252)))) = some r := H
       have A26 := Aside0.mk A260
       clear A260
       replace H := Option.bind_eq_some_iff.mp H
       obtain ⟨⟨t253, t254, t255, t256⟩, A270, H⟩ := H
       replace H : ((impl_BeforePoint.f t249 t250 t253 t254).bind fun t259 => (if t259 = true then (impl_HowMeet.j2 kj19 t253 t254 t255 t256 t253 t254 t251 t252) else (impl_HowMeet.j2 kj19 t253 t254 t255 t256 t249 t250 t251 t252))) = some r := H
       have A27 := Aside0.mk A270
       clear A270
       replace H := Option.bind_eq_some_iff.mp H
       obtain ⟨t259, A280, H⟩ := H
       replace H : (if t259 = true then (impl_HowMeet.j2 kj19 t253 t254 t255 t256 t253 t254 t251 t252) else (impl_HowMeet.j2 kj19 t253 t254 t255 t256 t249 t250 t251 t252)) = some r := H
       have A28 := Aside0.mk A280
       clear A280
       have HC29 := Aside0.mk H
       clear H
       try go_wp2
       replace BK243 := Aside0.mk (blk_drew BK243.out)
       replace BK244 := Aside0.mk (blk_drew BK244.out)
       replace HB := Aside0.mk (below_drew1 HB.out)
       refine start_ (n := 6) (S := fun w' => w'.cell? ⟨gb243, 0, none⟩ = some (.int .i64 a0_0) ∧ w'.cell? ⟨gb243, 1, none⟩ = some (.int .i64 a0_1) ∧ w'.cell? ⟨gb243, 2, none⟩ = some (.int .i64 a0_2) ∧ w'.cell? ⟨gb243, 3, none⟩ = some (.int .i64 a0_3) ∧ w'.cell? ⟨gb244, 0, none⟩ = some (.int .i64 a1_0) ∧ w'.cell? ⟨gb244, 1, none⟩ = some (.int .i64 a1_1) ∧ w'.cell? ⟨gb244, 2, none⟩ = some (.int .i64 a1_2) ∧ w'.cell? ⟨gb244, 3, none⟩ = some (.int .i64 a1_3)) (ds := [4, 5]) #[false, false, false, false, false, false] (by kernel_rfl) rfl rfl ⟨(blk_cell BK243.out 0).trans rfl, (blk_cell BK243.out 1).trans rfl, (blk_cell BK243.out 2).trans rfl, (blk_cell BK243.out 3).trans rfl, (blk_cell BK244.out 0).trans rfl, (blk_cell BK244.out 1).trans rfl, (blk_cell BK244.out 2).trans rfl, (blk_cell BK244.out 3).trans rfl⟩ (fun hHeld => ?_)
       generalize wc.drew = w30 at BK243 BK244 HB hHeld ⊢
       refine take_ (i := 0) (N := some 37) (v := ?_) (a' := ?_) #[true, false, false, false, false, false] rfl rfl (by kernel_rfl) (fun _ _ _ h => h) (Or.inl ⟨by rfl, ?_⟩) hHeld ?_ ?_
       rotate_left
       ·rintro w' ⟨s0, s1, s2, s3, s4, s5, s6, s7⟩
        go_simp
        with_reducible rfl
       rotate_left
       ·simp only [Act.put, List.setIfInBounds_toArray, List.set_cons_zero, List.set_cons_succ, i64_w, i32_w]
        rfl
       refine take_ (i := 2) (N := some 39) (v := ?_) (a' := ?_) #[true, false, true, false, false, false] rfl rfl (by kernel_rfl) (fun _ _ _ h => h) (Or.inl ⟨by rfl, ?_⟩) hHeld ?_ ?_
       rotate_left
       ·rintro w' ⟨s0, s1, s2, s3, s4, s5, s6, s7⟩
        go_simp
        with_reducible rfl
       rotate_left
       ·simp only [Act.put, List.setIfInBounds_toArray, List.set_cons_zero, List.set_cons_succ, i64_w, i32_w]
        rfl
       refine one_ (i := 1) (N := some 38) #[true, true, true, false, false, false] rfl rfl (by kernel_rfl) (by decide) (fun K hK => ?_)
       refine gS Try.func17 #[.agg #[.int .i64 a0_0, .int .i64 a0_1, .int .i64 a0_2, .int .i64 a0_3]] ?_
       with_reducible refine (impl_forward.calls a0_0 a0_1 a0_2 a0_3 t249 t250 t251 t252 _ A26.out).mono ?_
       rintro e w31 ⟨rfl, hb⟩
       refine ⟨_, rfl, ?_⟩
       replace BK243 := mB BK243 hb
       replace BK244 := mB BK244 hb
       replace HB := sB2 HB hb GE243 GE244
       (try clear hb)
       (try clear hb2)
       (try clear hk)
       (try clear hi)
       refine hK.out _ _ ⟨(blk_cell BK243.out 0).trans rfl, (blk_cell BK243.out 1).trans rfl, (blk_cell BK243.out 2).trans rfl, (blk_cell BK243.out 3).trans rfl, (blk_cell BK244.out 0).trans rfl, (blk_cell BK244.out 1).trans rfl, (blk_cell BK244.out 2).trans rfl, (blk_cell BK244.out 3).trans rfl⟩ (fun hHeld => ?_)
       clear hK K
       refine norm_ (a' := ?_) ?_ ?_
       rotate_left
       ·show Act.put _ (some 38) _ = _
        simp only [Act.put, List.setIfInBounds_toArray, List.set_cons_zero, List.set_cons_succ, i64_w, i32_w]
        rfl
       refine one_ (i := 3) (N := some 40) #[true, true, true, true, false, false] rfl rfl (by kernel_rfl) (by decide) (fun K hK => ?_)
       refine gS Try.func17 #[.agg #[.int .i64 a1_0, .int .i64 a1_1, .int .i64 a1_2, .int .i64 a1_3]] ?_
       with_reducible refine (impl_forward.calls a1_0 a1_1 a1_2 a1_3 t253 t254 t255 t256 _ A27.out).mono ?_
       rintro e w32 ⟨rfl, hb⟩
       refine ⟨_, rfl, ?_⟩
       replace BK243 := mB BK243 hb
       replace BK244 := mB BK244 hb
       replace HB := sB2 HB hb GE243 GE244
       (try clear hb)
       (try clear hb2)
       (try clear hk)
       (try clear hi)
       refine hK.out _ _ ⟨(blk_cell BK243.out 0).trans rfl, (blk_cell BK243.out 1).trans rfl, (blk_cell BK243.out 2).trans rfl, (blk_cell BK243.out 3).trans rfl, (blk_cell BK244.out 0).trans rfl, (blk_cell BK244.out 1).trans rfl, (blk_cell BK244.out 2).trans rfl, (blk_cell BK244.out 3).trans rfl⟩ (fun hHeld => ?_)
       clear hK K
       refine norm_ (a' := ?_) ?_ ?_
       rotate_left
       ·show Act.put _ (some 40) _ = _
        simp only [Act.put, List.setIfInBounds_toArray, List.set_cons_zero, List.set_cons_succ, i64_w, i32_w]
        rfl
       refine last_ (i := 4) (N := none) #[true, true, true, true, true, false] rfl rfl (by kernel_rfl) (by decide) (fun K hK => ?_)
       have hs33 := bC BK243 0 (.int .i64 a0_0)
       have hfs33 := blk_frozen BK243.out 0
       have hns33_1 := NB244_243.out
       have hms33_1 := NB243_244.out
       have hs34 := bC BK243 1 (.int .i64 a0_1)
       have hfs34 := blk_frozen BK243.out 1
       have hns34_1 := NB244_243.out
       have hms34_1 := NB243_244.out
       have hs35 := bC BK243 2 (.int .i64 a0_2)
       have hfs35 := blk_frozen BK243.out 2
       have hns35_1 := NB244_243.out
       have hms35_1 := NB243_244.out
       have hs36 := bC BK243 3 (.int .i64 a0_3)
       have hfs36 := blk_frozen BK243.out 3
       have hns36_1 := NB244_243.out
       have hms36_1 := NB243_244.out
       refine skip_ (w1 := ?_) (by rfl) rfl ?_ ?_
       rotate_left
       ·go_simp
        rfl
       refine hK.out _ _ ?_
       clear hK K
       refine last_ (i := 5) (N := none) #[true, true, true, true, true, true] rfl rfl (by kernel_rfl) (by decide) (fun K hK => ?_)
       have hs37 := bC BK244 0 (.int .i64 a1_0)
       have hfs37 := blk_frozen BK244.out 0
       have hns37_0 := NB243_244.out
       have hms37_0 := NB244_243.out
       have hs38 := bC BK244 1 (.int .i64 a1_1)
       have hfs38 := blk_frozen BK244.out 1
       have hns38_0 := NB243_244.out
       have hms38_0 := NB244_243.out
       have hs39 := bC BK244 2 (.int .i64 a1_2)
       have hfs39 := blk_frozen BK244.out 2
       have hns39_0 := NB243_244.out
       have hms39_0 := NB244_243.out
       have hs40 := bC BK244 3 (.int .i64 a1_3)
       have hfs40 := blk_frozen BK244.out 3
       have hns40_0 := NB243_244.out
       have hms40_0 := NB244_243.out
       refine skip_ (w1 := ?_) (by rfl) rfl ?_ ?_
       rotate_left
       ·go_simp
        rfl
       refine hK.out _ _ ?_
       clear hK K
       refine done_ (by kernel_rfl) ?_
       try go_wp2
       have n0_ : Aside0 (((((((((w32.setCell ⟨gb243, 0, none⟩ (.int .i64 t249)).setCell ⟨gb243, 1, none⟩ (.int .i64 t250)).setCell ⟨gb243, 2, none⟩ (.int .i64 t251)).setCell ⟨gb243, 3, none⟩ (.int .i64 t252)).setCell ⟨gb244, 0, none⟩ (.int .i64 t253)).setCell ⟨gb244, 1, none⟩ (.int .i64 t254)).setCell ⟨gb244, 2, none⟩ (.int .i64 t255)).setCell ⟨gb244, 3, none⟩ (.int .i64 t256)).heap[gb243]? = some (.cells #[.int .i64 t249, .int .i64 t250, .int .i64 t251, .int .i64 t252] 27 (0, 0))) := ⟨by (with_reducible repeat (first | refine blk_drewN ?_ _ | refine blk_drew ?_ | refine blk_alloc ?_ _)); refine blk_far ?_ NB243_244.out _; (with_reducible repeat (first | refine blk_drewN ?_ _ | refine blk_drew ?_ | refine blk_alloc ?_ _)); refine blk_far ?_ NB243_244.out _; (with_reducible repeat (first | refine blk_drewN ?_ _ | refine blk_drew ?_ | refine blk_alloc ?_ _)); refine blk_far ?_ NB243_244.out _; (with_reducible repeat (first | refine blk_drewN ?_ _ | refine blk_drew ?_ | refine blk_alloc ?_ _)); refine blk_far ?_ NB243_244.out _; (with_reducible repeat (first | refine blk_drewN ?_ _ | refine blk_drew ?_ | refine blk_alloc ?_ _)); refine blk_put (cs := #[.int .i64 t249, .int .i64 t250, .int .i64 t251, .int .i64 a0_3]) ?_ 3 _ rfl; (with_reducible repeat (first | refine blk_drewN ?_ _ | refine blk_drew ?_ | refine blk_alloc ?_ _)); refine blk_put (cs := #[.int .i64 t249, .int .i64 t250, .int .i64 a0_2, .int .i64 a0_3]) ?_ 2 _ rfl; (with_reducible repeat (first | refine blk_drewN ?_ _ | refine blk_drew ?_ | refine blk_alloc ?_ _)); refine blk_put (cs := #[.int .i64 t249, .int .i64 a0_1, .int .i64 a0_2, .int .i64 a0_3]) ?_ 1 _ rfl; (with_reducible repeat (first | refine blk_drewN ?_ _ | refine blk_drew ?_ | refine blk_alloc ?_ _)); refine blk_put (cs := #[.int .i64 a0_0, .int .i64 a0_1, .int .i64 a0_2, .int .i64 a0_3]) ?_ 0 _ rfl; (with_reducible repeat (first | refine blk_drewN ?_ _ | refine blk_drew ?_ | refine blk_alloc ?_ _)); exact BK243.out⟩
       have n1_ : Aside0 (((((((((w32.setCell ⟨gb243, 0, none⟩ (.int .i64 t249)).setCell ⟨gb243, 1, none⟩ (.int .i64 t250)).setCell ⟨gb243, 2, none⟩ (.int .i64 t251)).setCell ⟨gb243, 3, none⟩ (.int .i64 t252)).setCell ⟨gb244, 0, none⟩ (.int .i64 t253)).setCell ⟨gb244, 1, none⟩ (.int .i64 t254)).setCell ⟨gb244, 2, none⟩ (.int .i64 t255)).setCell ⟨gb244, 3, none⟩ (.int .i64 t256)).heap[gb244]? = some (.cells #[.int .i64 t253, .int .i64 t254, .int .i64 t255, .int .i64 t256] 27 (0, 0))) := ⟨by (with_reducible repeat (first | refine blk_drewN ?_ _ | refine blk_drew ?_ | refine blk_alloc ?_ _)); refine blk_put (cs := #[.int .i64 t253, .int .i64 t254, .int .i64 t255, .int .i64 a1_3]) ?_ 3 _ rfl; (with_reducible repeat (first | refine blk_drewN ?_ _ | refine blk_drew ?_ | refine blk_alloc ?_ _)); refine blk_put (cs := #[.int .i64 t253, .int .i64 t254, .int .i64 a1_2, .int .i64 a1_3]) ?_ 2 _ rfl; (with_reducible repeat (first | refine blk_drewN ?_ _ | refine blk_drew ?_ | refine blk_alloc ?_ _)); refine blk_put (cs := #[.int .i64 t253, .int .i64 a1_1, .int .i64 a1_2, .int .i64 a1_3]) ?_ 1 _ rfl; (with_reducible repeat (first | refine blk_drewN ?_ _ | refine blk_drew ?_ | refine blk_alloc ?_ _)); refine blk_put (cs := #[.int .i64 a1_0, .int .i64 a1_1, .int .i64 a1_2, .int .i64 a1_3]) ?_ 0 _ rfl; (with_reducible repeat (first | refine blk_drewN ?_ _ | refine blk_drew ?_ | refine blk_alloc ?_ _)); refine blk_far ?_ NB244_243.out _; (with_reducible repeat (first | refine blk_drewN ?_ _ | refine blk_drew ?_ | refine blk_alloc ?_ _)); refine blk_far ?_ NB244_243.out _; (with_reducible repeat (first | refine blk_drewN ?_ _ | refine blk_drew ?_ | refine blk_alloc ?_ _)); refine blk_far ?_ NB244_243.out _; (with_reducible repeat (first | refine blk_drewN ?_ _ | refine blk_drew ?_ | refine blk_alloc ?_ _)); refine blk_far ?_ NB244_243.out _; (with_reducible repeat (first | refine blk_drewN ?_ _ | refine blk_drew ?_ | refine blk_alloc ?_ _)); exact BK244.out⟩
       have n2_ : Aside0 (Below w.heap.size w ((((((((w32.setCell ⟨gb243, 0, none⟩ (.int .i64 t249)).setCell ⟨gb243, 1, none⟩ (.int .i64 t250)).setCell ⟨gb243, 2, none⟩ (.int .i64 t251)).setCell ⟨gb243, 3, none⟩ (.int .i64 t252)).setCell ⟨gb244, 0, none⟩ (.int .i64 t253)).setCell ⟨gb244, 1, none⟩ (.int .i64 t254)).setCell ⟨gb244, 2, none⟩ (.int .i64 t255)).setCell ⟨gb244, 3, none⟩ (.int .i64 t256))) := ⟨eB2 HB GE243 GE244⟩
       (try clear BK243)
       (try clear BK244)
       (try clear HB)
       generalize ((((((((w32.setCell ⟨gb243, 0, none⟩ (.int .i64 t249)).setCell ⟨gb243, 1, none⟩ (.int .i64 t250)).setCell ⟨gb243, 2, none⟩ (.int .i64 t251)).setCell ⟨gb243, 3, none⟩ (.int .i64 t252)).setCell ⟨gb244, 0, none⟩ (.int .i64 t253)).setCell ⟨gb244, 1, none⟩ (.int .i64 t254)).setCell ⟨gb244, 2, none⟩ (.int .i64 t255)).setCell ⟨gb244, 3, none⟩ (.int .i64 t256)) = w41 at n0_ n1_ n2_ ⊢
       have BK243 := n0_
       have BK244 := n1_
       have HB := n2_
       clear n0_ n1_ n2_
       replace BK243 := Aside0.mk (blk_drew BK243.out)
       replace BK244 := Aside0.mk (blk_drew BK244.out)
       replace HB := Aside0.mk (below_drew1 HB.out)
       refine start_ (n := 8) (S := fun w' => w'.cell? ⟨gb243, 0, none⟩ = some (.int .i64 t249) ∧ w'.cell? ⟨gb243, 1, none⟩ = some (.int .i64 t250) ∧ w'.cell? ⟨gb243, 2, none⟩ = some (.int .i64 t251) ∧ w'.cell? ⟨gb243, 3, none⟩ = some (.int .i64 t252)) (ds := []) #[false, false, false, false, false, false, false, false] (by kernel_rfl) rfl rfl ⟨(blk_cell BK243.out 0).trans rfl, (blk_cell BK243.out 1).trans rfl, (blk_cell BK243.out 2).trans rfl, (blk_cell BK243.out 3).trans rfl⟩ (fun hHeld => ?_); refine with_tabW impl_HowMeet.tab6 impl_HowMeet.bits6 (fun HT_ HW_ => ?_)
       generalize w41.drew = w42 at BK243 BK244 HB hHeld ⊢
       refine pA HT_.out 0 41 ?_
       refine pA HT_.out 2 43 ?_
       refine tA4 HT_.out HW_.out 1 42 hHeld ?_
       refine tA4 HT_.out HW_.out 3 44 hHeld ?_
       refine join_ (σ := Nat × Nat) 2 #[true, true, true, true, true, true, false, false] (fun s_ => [(7, .pointer (some ⟨s_.1, 0, none⟩)), (8, .pointer (some ⟨s_.2, 0, none⟩))]) (fun s_ w' => (w'.cell? ⟨gb243, 0, none⟩ = some (.int .i64 t249) ∧ w'.cell? ⟨gb243, 1, none⟩ = some (.int .i64 t250) ∧ w'.cell? ⟨gb243, 2, none⟩ = some (.int .i64 t251) ∧ w'.cell? ⟨gb243, 3, none⟩ = some (.int .i64 t252)) ∧ (w'.heap[gb243]? = some (.cells #[.int .i64 t249, .int .i64 t250, .int .i64 t251, .int .i64 t252] 27 (0, 0))) ∧ (w'.heap[gb244]? = some (.cells #[.int .i64 t253, .int .i64 t254, .int .i64 t255, .int .i64 t256] 27 (0, 0))) ∧ (w'.heap[s_.1]? = some (.cells #[.int .i64 0, .int .i64 0] 25 (0, 0))) ∧ (w'.heap[s_.2]? = some (.cells #[.int .i64 0, .int .i64 0] 25 (0, 0))) ∧ (w.heap.size ≤ s_.1) ∧ (w.heap.size ≤ s_.1) ∧ (gb243 ≠ s_.1) ∧ (s_.1 ≠ gb243) ∧ (gb244 ≠ s_.1) ∧ (s_.1 ≠ gb244) ∧ (s_.2 ≠ s_.1) ∧ (s_.1 ≠ s_.2) ∧ (w.heap.size ≤ s_.2) ∧ (w.heap.size ≤ s_.2) ∧ (gb243 ≠ s_.2) ∧ (s_.2 ≠ gb243) ∧ (gb244 ≠ s_.2) ∧ (s_.2 ≠ gb244) ∧ (Below w.heap.size w w')) ?_ ?_
       rotate_left
       ·intro hCont
        refine two_ (i := 4) (j := 5) (Ni := some 7) (Nj := some 8) #[true, true, true, true, true, false, false, false] #[true, true, true, true, false, true, false, false] rfl rfl rfl rfl (two_of HT_.out (by kernel_rfl)) (by decide) (by decide) (fun K hK => ?_) (fun K hK => ?_)
        ·skip
         refine box_step ?hg (N := 7) ?hd (cs := #[.int .i64 0, .int .i64 0]) (t := 25) ?hr ?_; (case hd => rfl); (case hg => rfl); (case hr => first | (go_simp; done) | (go_simp; rfl))
         intro gb257 hg w43 hbox hb
         have BK257 := Aside0.mk (hbox)
         have GW257 := zB2 HB hg GE243 GE244
         have GE257 := zB2 HB hg GE243 GE244
         have NB243_257 := nL BK243 hg
         have NB257_243 := nG BK243 hg
         have NB244_257 := nL BK244 hg
         have NB257_244 := nG BK244 hg
         replace BK243 := mB BK243 hb
         replace BK244 := mB BK244 hb
         replace HB := sB2 HB hb GE243 GE244
         clear hb hbox hg
         refine hK.out _ _ ⟨(blk_cell BK243.out 0).trans rfl, (blk_cell BK243.out 1).trans rfl, (blk_cell BK243.out 2).trans rfl, (blk_cell BK243.out 3).trans rfl⟩ (fun hHeld => ?_)
         clear hK K
         refine norm_ (a' := ?_) ?_ ?_
         rotate_left
         ·show Act.put _ (some 7) _ = _
          simp only [Act.put, List.setIfInBounds_toArray, List.set_cons_zero, List.set_cons_succ, i64_w, i32_w]
          rfl
         refine one_ (i := 5) (N := some 8) #[true, true, true, true, true, true, false, false] rfl rfl (one_of HT_.out (by kernel_rfl)) (by decide) (fun K hK => ?_)
         refine box_step ?hg (N := 8) ?hd (cs := #[.int .i64 0, .int .i64 0]) (t := 25) ?hr ?_; (case hd => rfl); (case hg => rfl); (case hr => first | (go_simp; done) | (go_simp; rfl))
         intro gb258 hg w44 hbox hb
         have BK258 := Aside0.mk (hbox)
         have GW258 := zB3 HB hg GE243 GE244 GE257
         have GE258 := zB3 HB hg GE243 GE244 GE257
         have NB243_258 := nL BK243 hg
         have NB258_243 := nG BK243 hg
         have NB244_258 := nL BK244 hg
         have NB258_244 := nG BK244 hg
         have NB257_258 := nL BK257 hg
         have NB258_257 := nG BK257 hg
         replace BK243 := mB BK243 hb
         replace BK244 := mB BK244 hb
         replace BK257 := mB BK257 hb
         replace HB := sB3 HB hb GE243 GE244 GE257
         clear hb hbox hg
         refine hK.out _ _ ⟨(blk_cell BK243.out 0).trans rfl, (blk_cell BK243.out 1).trans rfl, (blk_cell BK243.out 2).trans rfl, (blk_cell BK243.out 3).trans rfl⟩ (fun hHeld => ?_)
         clear hK K
         refine norm_ (a' := ?_) ?_ ?_
         rotate_left
         ·show Act.put _ (some 8) _ = _
          simp only [Act.put, List.setIfInBounds_toArray, List.set_cons_zero, List.set_cons_succ, i64_w, i32_w]
          rfl
         exact norm_ (by simp only [putAll, Act.put, List.setIfInBounds_toArray, List.set_cons_zero, List.set_cons_succ]) (hCont (gb257, gb258) _ ⟨hHeld, (by (with_reducible repeat (first | refine blk_drewN ?_ _ | refine blk_drew ?_ | refine blk_alloc ?_ _)); exact BK243.out), (by (with_reducible repeat (first | refine blk_drewN ?_ _ | refine blk_drew ?_ | refine blk_alloc ?_ _)); exact BK244.out), (by (with_reducible repeat (first | refine blk_drewN ?_ _ | refine blk_drew ?_ | refine blk_alloc ?_ _)); exact BK257.out), (by (with_reducible repeat (first | refine blk_drewN ?_ _ | refine blk_drew ?_ | refine blk_alloc ?_ _)); exact BK258.out), GW257.out, GE257.out, NB243_257.out, NB257_243.out, NB244_257.out, NB257_244.out, NB258_257.out, NB257_258.out, GW258.out, GE258.out, NB243_258.out, NB258_243.out, NB244_258.out, NB258_244.out, (eB4 HB GE243 GE244 GE257 GE258)⟩)
        ·skip
         refine box_step ?hg (N := 8) ?hd (cs := #[.int .i64 0, .int .i64 0]) (t := 25) ?hr ?_; (case hd => rfl); (case hg => rfl); (case hr => first | (go_simp; done) | (go_simp; rfl))
         intro gb258 hg w43 hbox hb
         have BK258 := Aside0.mk (hbox)
         have GW258 := zB2 HB hg GE243 GE244
         have GE258 := zB2 HB hg GE243 GE244
         have NB243_258 := nL BK243 hg
         have NB258_243 := nG BK243 hg
         have NB244_258 := nL BK244 hg
         have NB258_244 := nG BK244 hg
         replace BK243 := mB BK243 hb
         replace BK244 := mB BK244 hb
         replace HB := sB2 HB hb GE243 GE244
         clear hb hbox hg
         refine hK.out _ _ ⟨(blk_cell BK243.out 0).trans rfl, (blk_cell BK243.out 1).trans rfl, (blk_cell BK243.out 2).trans rfl, (blk_cell BK243.out 3).trans rfl⟩ (fun hHeld => ?_)
         clear hK K
         refine norm_ (a' := ?_) ?_ ?_
         rotate_left
         ·show Act.put _ (some 8) _ = _
          simp only [Act.put, List.setIfInBounds_toArray, List.set_cons_zero, List.set_cons_succ, i64_w, i32_w]
          rfl
         refine one_ (i := 4) (N := some 7) #[true, true, true, true, true, true, false, false] rfl rfl (one_of HT_.out (by kernel_rfl)) (by decide) (fun K hK => ?_)
         refine box_step ?hg (N := 7) ?hd (cs := #[.int .i64 0, .int .i64 0]) (t := 25) ?hr ?_; (case hd => rfl); (case hg => rfl); (case hr => first | (go_simp; done) | (go_simp; rfl))
         intro gb257 hg w44 hbox hb
         have BK257 := Aside0.mk (hbox)
         have GW257 := zB3 HB hg GE243 GE244 GE258
         have GE257 := zB3 HB hg GE243 GE244 GE258
         have NB243_257 := nL BK243 hg
         have NB257_243 := nG BK243 hg
         have NB244_257 := nL BK244 hg
         have NB257_244 := nG BK244 hg
         have NB258_257 := nL BK258 hg
         have NB257_258 := nG BK258 hg
         replace BK243 := mB BK243 hb
         replace BK244 := mB BK244 hb
         replace BK258 := mB BK258 hb
         replace HB := sB3 HB hb GE243 GE244 GE258
         clear hb hbox hg
         refine hK.out _ _ ⟨(blk_cell BK243.out 0).trans rfl, (blk_cell BK243.out 1).trans rfl, (blk_cell BK243.out 2).trans rfl, (blk_cell BK243.out 3).trans rfl⟩ (fun hHeld => ?_)
         clear hK K
         refine norm_ (a' := ?_) ?_ ?_
         rotate_left
         ·show Act.put _ (some 7) _ = _
          simp only [Act.put, List.setIfInBounds_toArray, List.set_cons_zero, List.set_cons_succ, i64_w, i32_w]
          rfl
         exact norm_ (by simp only [putAll, Act.put, List.setIfInBounds_toArray, List.set_cons_zero, List.set_cons_succ]) (hCont (gb257, gb258) _ ⟨hHeld, (by (with_reducible repeat (first | refine blk_drewN ?_ _ | refine blk_drew ?_ | refine blk_alloc ?_ _)); exact BK243.out), (by (with_reducible repeat (first | refine blk_drewN ?_ _ | refine blk_drew ?_ | refine blk_alloc ?_ _)); exact BK244.out), (by (with_reducible repeat (first | refine blk_drewN ?_ _ | refine blk_drew ?_ | refine blk_alloc ?_ _)); exact BK257.out), (by (with_reducible repeat (first | refine blk_drewN ?_ _ | refine blk_drew ?_ | refine blk_alloc ?_ _)); exact BK258.out), GW257.out, GE257.out, NB243_257.out, NB257_243.out, NB244_257.out, NB257_244.out, NB258_257.out, NB257_258.out, GW258.out, GE258.out, NB243_258.out, NB258_243.out, NB244_258.out, NB258_244.out, (eB4 HB GE243 GE244 GE258 GE257)⟩)
       rintro ⟨gb257, gb258⟩ w45 ⟨hS_, h0_, h1_, h2_, h3_, h4_, h5_, h6_, h7_, h8_, h9_, h10_, h11_, h12_, h13_, h14_, h15_, h16_, h17_, h18_⟩
       have n0_ : Aside0 (w45.heap[gb243]? = some (.cells #[.int .i64 t249, .int .i64 t250, .int .i64 t251, .int .i64 t252] 27 (0, 0))) := ⟨h0_⟩
       have n1_ : Aside0 (w45.heap[gb244]? = some (.cells #[.int .i64 t253, .int .i64 t254, .int .i64 t255, .int .i64 t256] 27 (0, 0))) := ⟨h1_⟩
       have n2_ : Aside0 (w45.heap[gb257]? = some (.cells #[.int .i64 0, .int .i64 0] 25 (0, 0))) := ⟨h2_⟩
       have n3_ : Aside0 (w45.heap[gb258]? = some (.cells #[.int .i64 0, .int .i64 0] 25 (0, 0))) := ⟨h3_⟩
       have n4_ : Aside0 (w.heap.size ≤ gb257) := ⟨h4_⟩
       have n5_ : Aside0 (w.heap.size ≤ gb257) := ⟨h5_⟩
       have n6_ : Aside0 (gb243 ≠ gb257) := ⟨h6_⟩
       have n7_ : Aside0 (gb257 ≠ gb243) := ⟨h7_⟩
       have n8_ : Aside0 (gb244 ≠ gb257) := ⟨h8_⟩
       have n9_ : Aside0 (gb257 ≠ gb244) := ⟨h9_⟩
       have n10_ : Aside0 (gb258 ≠ gb257) := ⟨h10_⟩
       have n11_ : Aside0 (gb257 ≠ gb258) := ⟨h11_⟩
       have n12_ : Aside0 (w.heap.size ≤ gb258) := ⟨h12_⟩
       have n13_ : Aside0 (w.heap.size ≤ gb258) := ⟨h13_⟩
       have n14_ : Aside0 (gb243 ≠ gb258) := ⟨h14_⟩
       have n15_ : Aside0 (gb258 ≠ gb243) := ⟨h15_⟩
       have n16_ : Aside0 (gb244 ≠ gb258) := ⟨h16_⟩
       have n17_ : Aside0 (gb258 ≠ gb244) := ⟨h17_⟩
       have n18_ : Aside0 (Below w.heap.size w w45) := ⟨h18_⟩
       clear BK243
       clear BK244
       clear HB
       clear h0_ h1_ h2_ h3_ h4_ h5_ h6_ h7_ h8_ h9_ h10_ h11_ h12_ h13_ h14_ h15_ h16_ h17_ h18_
       have BK243 := n0_
       have BK244 := n1_
       have BK257 := n2_
       have BK258 := n3_
       have GW257 := n4_
       have GE257 := n5_
       have NB243_257 := n6_
       have NB257_243 := n7_
       have NB244_257 := n8_
       have NB257_244 := n9_
       have NB258_257 := n10_
       have NB257_258 := n11_
       have GW258 := n12_
       have GE258 := n13_
       have NB243_258 := n14_
       have NB258_243 := n15_
       have NB244_258 := n16_
       have NB258_244 := n17_
       have HB := n18_
       clear n0_ n1_ n2_ n3_ n4_ n5_ n6_ n7_ n8_ n9_ n10_ n11_ n12_ n13_ n14_ n15_ n16_ n17_ n18_
       have hHeld : w45.cell? ⟨gb243, 0, none⟩ = some (.int .i64 t249) ∧ w45.cell? ⟨gb243, 1, none⟩ = some (.int .i64 t250) ∧ w45.cell? ⟨gb243, 2, none⟩ = some (.int .i64 t251) ∧ w45.cell? ⟨gb243, 3, none⟩ = some (.int .i64 t252) := hS_
       refine norm_ (a' := ?_) ?_ ?_
       rotate_left
       ·simp only [putAll, Act.put, List.setIfInBounds_toArray, List.set_cons_zero, List.set_cons_succ]
        rfl
       refine one_ (i := 6) (N := none) #[true, true, true, true, true, true, true, false] rfl rfl (one_of HT_.out (by kernel_rfl)) (by decide) (fun K hK => ?_)
       have hs46 := bC BK257 0 (.int .i64 0)
       have hfs46 := blk_frozen BK257.out 0
       have hns46_0 := NB243_257.out
       have hns46_1 := NB244_257.out
       have hns46_3 := NB258_257.out
       have hms46_0 := NB257_243.out
       have hms46_1 := NB257_244.out
       have hms46_3 := NB257_258.out
       have hs47 := bC BK257 1 (.int .i64 0)
       have hfs47 := blk_frozen BK257.out 1
       have hns47_0 := NB243_257.out
       have hns47_1 := NB244_257.out
       have hns47_3 := NB258_257.out
       have hms47_0 := NB257_243.out
       have hms47_1 := NB257_244.out
       have hms47_3 := NB257_258.out
       refine skip_ (w1 := ?_) (by rfl) rfl ?_ ?_
       rotate_left
       ·go_simp
        rfl
       refine hK.out _ _ ⟨((cell_far (p := ⟨gb257, _, none⟩) NB243_257.out _).trans (((cell_far (p := ⟨gb257, _, none⟩) NB243_257.out _).trans (hHeld.1)))), ((cell_far (p := ⟨gb257, _, none⟩) NB243_257.out _).trans (((cell_far (p := ⟨gb257, _, none⟩) NB243_257.out _).trans (hHeld.2.1)))), ((cell_far (p := ⟨gb257, _, none⟩) NB243_257.out _).trans (((cell_far (p := ⟨gb257, _, none⟩) NB243_257.out _).trans (hHeld.2.2.1)))), ((cell_far (p := ⟨gb257, _, none⟩) NB243_257.out _).trans (((cell_far (p := ⟨gb257, _, none⟩) NB243_257.out _).trans (hHeld.2.2.2))))⟩ (fun hHeld => ?_)
       clear hK K
       refine one_ (i := 7) (N := none) #[true, true, true, true, true, true, true, true] rfl rfl (one_of HT_.out (by kernel_rfl)) (by decide) (fun K hK => ?_)
       have hs48 := bC BK258 0 (.int .i64 0)
       have hfs48 := blk_frozen BK258.out 0
       have hns48_0 := NB243_258.out
       have hns48_1 := NB244_258.out
       have hns48_2 := NB257_258.out
       have hms48_0 := NB258_243.out
       have hms48_1 := NB258_244.out
       have hms48_2 := NB258_257.out
       have hs49 := bC BK258 1 (.int .i64 0)
       have hfs49 := blk_frozen BK258.out 1
       have hns49_0 := NB243_258.out
       have hns49_1 := NB244_258.out
       have hns49_2 := NB257_258.out
       have hms49_0 := NB258_243.out
       have hms49_1 := NB258_244.out
       have hms49_2 := NB258_257.out
       refine skip_ (w1 := ?_) (by rfl) rfl ?_ ?_
       rotate_left
       ·go_simp
        rfl
       refine hK.out _ _ ⟨((cell_far (p := ⟨gb258, _, none⟩) NB243_258.out _).trans (((cell_far (p := ⟨gb258, _, none⟩) NB243_258.out _).trans (hHeld.1)))), ((cell_far (p := ⟨gb258, _, none⟩) NB243_258.out _).trans (((cell_far (p := ⟨gb258, _, none⟩) NB243_258.out _).trans (hHeld.2.1)))), ((cell_far (p := ⟨gb258, _, none⟩) NB243_258.out _).trans (((cell_far (p := ⟨gb258, _, none⟩) NB243_258.out _).trans (hHeld.2.2.1)))), ((cell_far (p := ⟨gb258, _, none⟩) NB243_258.out _).trans (((cell_far (p := ⟨gb258, _, none⟩) NB243_258.out _).trans (hHeld.2.2.2))))⟩ (fun hHeld => ?_)
       clear hK K
       refine done_ (done_of HT_.out (by kernel_rfl)) ?_
       have hnb50 := NB257_243.out
       have hnc50 := NB243_257.out
       have hnb51 := NB257_244.out
       have hnc51 := NB244_257.out
       have hnb52 := NB257_258.out
       have hnc52 := NB258_257.out
       have hcz53_0 := bC BK257 0 (.int .i64 0)
       have hcz53_1 := bC BK257 1 (.int .i64 0)
       have hfz53_0 := blk_frozen BK257.out 0
       have hfz53_1 := blk_frozen BK257.out 1
       have hnb54 := NB244_243.out
       have hnc54 := NB243_244.out
       have hnb55 := NB244_258.out
       have hnc55 := NB258_244.out
       have hcz56_0 := bC BK244 0 (.int .i64 t253)
       have hcz56_1 := bC BK244 1 (.int .i64 t254)
       have hcz56_2 := bC BK244 2 (.int .i64 t255)
       have hcz56_3 := bC BK244 3 (.int .i64 t256)
       have hfz56_0 := blk_frozen BK244.out 0
       have hfz56_1 := blk_frozen BK244.out 1
       have hfz56_2 := blk_frozen BK244.out 2
       have hfz56_3 := blk_frozen BK244.out 3
       go_upto_if 48 with (first | ((with_reducible refine gate_callee (f := 18) rfl ?_); refine gL (some 48) Try.func18 #[.agg #[.int .i64 t249, .int .i64 t250], .agg #[.int .i64 t253, .int .i64 t254]] ?_; (with_reducible refine (impl_BeforePoint.calls t249 t250 t253 t254 t259 _ A28.out).mono ?_); rintro e w57 ⟨rfl, hb⟩; refine ⟨_, rfl, ?_⟩; replace BK243 := Aside0.mk (blk_below (g := gb243) (o := .cells #[.int .i64 t249, .int .i64 t250, .int .i64 t251, .int .i64 t252] 27 (0, 0)) (by (with_reducible repeat (first | refine blk_drewN ?_ _ | refine blk_drew ?_ | refine blk_alloc ?_ _)); refine blk_far ?_ NB243_258.out _; (with_reducible repeat (first | refine blk_drewN ?_ _ | refine blk_drew ?_ | refine blk_alloc ?_ _)); refine blk_far ?_ NB243_258.out _; (with_reducible repeat (first | refine blk_drewN ?_ _ | refine blk_drew ?_ | refine blk_alloc ?_ _)); refine blk_far ?_ NB243_257.out _; (with_reducible repeat (first | refine blk_drewN ?_ _ | refine blk_drew ?_ | refine blk_alloc ?_ _)); refine blk_far ?_ NB243_257.out _; (with_reducible repeat (first | refine blk_drewN ?_ _ | refine blk_drew ?_ | refine blk_alloc ?_ _)); exact BK243.out) hb); replace BK244 := Aside0.mk (blk_below (g := gb244) (o := .cells #[.int .i64 t253, .int .i64 t254, .int .i64 t255, .int .i64 t256] 27 (0, 0)) (by (with_reducible repeat (first | refine blk_drewN ?_ _ | refine blk_drew ?_ | refine blk_alloc ?_ _)); refine blk_far ?_ NB244_258.out _; (with_reducible repeat (first | refine blk_drewN ?_ _ | refine blk_drew ?_ | refine blk_alloc ?_ _)); refine blk_far ?_ NB244_258.out _; (with_reducible repeat (first | refine blk_drewN ?_ _ | refine blk_drew ?_ | refine blk_alloc ?_ _)); refine blk_far ?_ NB244_257.out _; (with_reducible repeat (first | refine blk_drewN ?_ _ | refine blk_drew ?_ | refine blk_alloc ?_ _)); refine blk_far ?_ NB244_257.out _; (with_reducible repeat (first | refine blk_drewN ?_ _ | refine blk_drew ?_ | refine blk_alloc ?_ _)); exact BK244.out) hb); replace BK257 := Aside0.mk (blk_below (g := gb257) (o := .cells #[.int .i64 t249, .int .i64 t250] 25 (0, 0)) (by (with_reducible repeat (first | refine blk_drewN ?_ _ | refine blk_drew ?_ | refine blk_alloc ?_ _)); refine blk_far ?_ NB257_258.out _; (with_reducible repeat (first | refine blk_drewN ?_ _ | refine blk_drew ?_ | refine blk_alloc ?_ _)); refine blk_far ?_ NB257_258.out _; (with_reducible repeat (first | refine blk_drewN ?_ _ | refine blk_drew ?_ | refine blk_alloc ?_ _)); refine blk_put (cs := #[.int .i64 t249, .int .i64 0]) ?_ 1 _ rfl; (with_reducible repeat (first | refine blk_drewN ?_ _ | refine blk_drew ?_ | refine blk_alloc ?_ _)); refine blk_put (cs := #[.int .i64 0, .int .i64 0]) ?_ 0 _ rfl; (with_reducible repeat (first | refine blk_drewN ?_ _ | refine blk_drew ?_ | refine blk_alloc ?_ _)); exact BK257.out) hb); replace BK258 := Aside0.mk (blk_below (g := gb258) (o := .cells #[.int .i64 t251, .int .i64 t252] 25 (0, 0)) (by (with_reducible repeat (first | refine blk_drewN ?_ _ | refine blk_drew ?_ | refine blk_alloc ?_ _)); refine blk_put (cs := #[.int .i64 t251, .int .i64 0]) ?_ 1 _ rfl; (with_reducible repeat (first | refine blk_drewN ?_ _ | refine blk_drew ?_ | refine blk_alloc ?_ _)); refine blk_put (cs := #[.int .i64 0, .int .i64 0]) ?_ 0 _ rfl; (with_reducible repeat (first | refine blk_drewN ?_ _ | refine blk_drew ?_ | refine blk_alloc ?_ _)); refine blk_far ?_ NB258_257.out _; (with_reducible repeat (first | refine blk_drewN ?_ _ | refine blk_drew ?_ | refine blk_alloc ?_ _)); refine blk_far ?_ NB258_257.out _; (with_reducible repeat (first | refine blk_drewN ?_ _ | refine blk_drew ?_ | refine blk_alloc ?_ _)); exact BK258.out) hb); replace HB := sB4 HB hb GE243 GE244 GE257 GE258; (try clear hb)))
       (try simp only [Act.put, List.setIfInBounds_toArray, List.set_cons_zero, List.set_cons_succ])
       go_cut [] (fun wc => ∃ (kq : Nat) (x258000_28 : Int) (x258001_28 : Int), Aside0 (impl_HowMeet.j2 kq t253 t254 t255 t256 x258000_28 x258001_28 t251 t252 = some r) ∧ Aside0 (kq ≤ kj19) ∧ Aside0 (wc.heap[gb243]? = some (.cells #[.int .i64 t249, .int .i64 t250, .int .i64 t251, .int .i64 t252] 27 (0, 0))) ∧ Aside0 (wc.heap[gb244]? = some (.cells #[.int .i64 t253, .int .i64 t254, .int .i64 t255, .int .i64 t256] 27 (0, 0))) ∧ Aside0 (wc.heap[gb257]? = some (.cells #[.int .i64 x258000_28, .int .i64 x258001_28] 25 (0, 0))) ∧ Aside0 (wc.heap[gb258]? = some (.cells #[.int .i64 t251, .int .i64 t252] 25 (0, 0))) ∧ Aside0 (Below w.heap.size w wc))
       case first =>
        have H := HC29.out
        clear HC29
        by_cases c58 : t259 = true
        ·subst c58
         have H1 : (impl_HowMeet.j2 kj19 t253 t254 t255 t256 t253 t254 t251 t252) = some r := by rw [if_pos rfl] at H; exact H
         clear H
         have H := H1
         clear H1
         have H' := Aside0.mk H
         clear H
         have hnb59 := NB244_243.out
         have hnc59 := NB243_244.out
         have hnb60 := NB244_257.out
         have hnc60 := NB257_244.out
         have hnb61 := NB244_258.out
         have hnc61 := NB258_244.out
         have hcz62_0 := bC BK244 0 (.int .i64 t253)
         have hcz62_1 := bC BK244 1 (.int .i64 t254)
         have hcz62_2 := bC BK244 2 (.int .i64 t255)
         have hcz62_3 := bC BK244 3 (.int .i64 t256)
         have hfz62_0 := blk_frozen BK244.out 0
         have hfz62_1 := blk_frozen BK244.out 1
         have hfz62_2 := blk_frozen BK244.out 2
         have hfz62_3 := blk_frozen BK244.out 3
         have hnb63 := NB257_243.out
         have hnc63 := NB243_257.out
         have hnb64 := NB257_258.out
         have hnc64 := NB258_257.out
         have hcz65_0 := bC BK257 0 (.int .i64 t249)
         have hcz65_1 := bC BK257 1 (.int .i64 t250)
         have hfz65_0 := blk_frozen BK257.out 0
         have hfz65_1 := blk_frozen BK257.out 1
         go_wp2
         go_meet
         case rel => exact ⟨_, (t253), (t254), H', ⟨by have := HJ2.out; have := HJ19.out; first | omega | exact Nat.le_refl _⟩, ⟨by (with_reducible repeat (first | refine blk_drewN ?_ _ | refine blk_drew ?_ | refine blk_alloc ?_ _)); refine blk_far ?_ NB243_257.out _; (with_reducible repeat (first | refine blk_drewN ?_ _ | refine blk_drew ?_ | refine blk_alloc ?_ _)); refine blk_far ?_ NB243_257.out _; (with_reducible repeat (first | refine blk_drewN ?_ _ | refine blk_drew ?_ | refine blk_alloc ?_ _)); exact BK243.out⟩, ⟨by (with_reducible repeat (first | refine blk_drewN ?_ _ | refine blk_drew ?_ | refine blk_alloc ?_ _)); refine blk_far ?_ NB244_257.out _; (with_reducible repeat (first | refine blk_drewN ?_ _ | refine blk_drew ?_ | refine blk_alloc ?_ _)); refine blk_far ?_ NB244_257.out _; (with_reducible repeat (first | refine blk_drewN ?_ _ | refine blk_drew ?_ | refine blk_alloc ?_ _)); exact BK244.out⟩, ⟨by (with_reducible repeat (first | refine blk_drewN ?_ _ | refine blk_drew ?_ | refine blk_alloc ?_ _)); refine blk_put (cs := #[.int .i64 t253, .int .i64 t250]) ?_ 1 _ rfl; (with_reducible repeat (first | refine blk_drewN ?_ _ | refine blk_drew ?_ | refine blk_alloc ?_ _)); refine blk_put (cs := #[.int .i64 t249, .int .i64 t250]) ?_ 0 _ rfl; (with_reducible repeat (first | refine blk_drewN ?_ _ | refine blk_drew ?_ | refine blk_alloc ?_ _)); exact BK257.out⟩, ⟨by (with_reducible repeat (first | refine blk_drewN ?_ _ | refine blk_drew ?_ | refine blk_alloc ?_ _)); refine blk_far ?_ NB258_257.out _; (with_reducible repeat (first | refine blk_drewN ?_ _ | refine blk_drew ?_ | refine blk_alloc ?_ _)); refine blk_far ?_ NB258_257.out _; (with_reducible repeat (first | refine blk_drewN ?_ _ | refine blk_drew ?_ | refine blk_alloc ?_ _)); exact BK258.out⟩, ⟨eB4 HB GE243 GE244 GE257 GE258⟩⟩
        ·replace c58 := Bool.eq_false_iff.mpr c58
         subst c58
         have H1 : (impl_HowMeet.j2 kj19 t253 t254 t255 t256 t249 t250 t251 t252) = some r := by rw [if_neg (show ¬ (false = true) by decide)] at H; exact H
         clear H
         have H := H1
         clear H1
         have H' := Aside0.mk H
         clear H
         go_wp2
         go_meet
         case rel => exact ⟨_, (t249), (t250), H', ⟨by have := HJ2.out; have := HJ19.out; first | omega | exact Nat.le_refl _⟩, ⟨by (with_reducible repeat (first | refine blk_drewN ?_ _ | refine blk_drew ?_ | refine blk_alloc ?_ _)); exact BK243.out⟩, ⟨by (with_reducible repeat (first | refine blk_drewN ?_ _ | refine blk_drew ?_ | refine blk_alloc ?_ _)); exact BK244.out⟩, ⟨by (with_reducible repeat (first | refine blk_drewN ?_ _ | refine blk_drew ?_ | refine blk_alloc ?_ _)); exact BK257.out⟩, ⟨by (with_reducible repeat (first | refine blk_drewN ?_ _ | refine blk_drew ?_ | refine blk_alloc ?_ _)); exact BK258.out⟩, ⟨eB4 HB GE243 GE244 GE257 GE258⟩⟩
       case rest =>
        clear HC29
        try clear c1
        try clear c2
        try clear p2
        try clear c5
        try clear c6
        try clear c7
        try clear c9
        try clear c14
        try clear c16
        try clear c17
        try clear c18
        try clear c24
        try clear c24b0
        try clear c24b1
        try clear c25
        try clear c50
        try clear c51
        try clear c52
        try clear c54
        try clear c55
        try clear c58
        try clear c59
        try clear c60
        try clear c61
        try clear c63
        try clear c64
        try clear p2
        obtain ⟨kq, x258000_28, x258001_28, HA, HJ28, BK243, BK244, BK257, BK258, HB⟩ := hcut
        cases kq with
        | zero => exact absurd HA.out (by simp [impl_HowMeet.j2])
        | succ kj28 =>
         have H := HA.out
         clear HA
         simp only [impl_HowMeet.j2] at H
         replace H := Option.bind_eq_some_iff.mp H
         obtain ⟨t260, A660, H⟩ := H
         replace H : (if t260 = true then (impl_HowMeet.j3 kj28 x258000_28 x258001_28 t255 t256) else (impl_HowMeet.j3 kj28 x258000_28 x258001_28 t251 t252)) = some r := H
         have A66 := Aside0.mk A660
         clear A660
         have HC67 := Aside0.mk H
         clear H
         have hnb68 := NB244_243.out
         have hnc68 := NB243_244.out
         have hnb69 := NB244_257.out
         have hnc69 := NB257_244.out
         have hnb70 := NB244_258.out
         have hnc70 := NB258_244.out
         have hcz71_0 := bC BK244 0 (.int .i64 t253)
         have hcz71_1 := bC BK244 1 (.int .i64 t254)
         have hcz71_2 := bC BK244 2 (.int .i64 t255)
         have hcz71_3 := bC BK244 3 (.int .i64 t256)
         have hfz71_0 := blk_frozen BK244.out 0
         have hfz71_1 := blk_frozen BK244.out 1
         have hfz71_2 := blk_frozen BK244.out 2
         have hfz71_3 := blk_frozen BK244.out 3
         have hnb72 := NB258_243.out
         have hnc72 := NB243_258.out
         have hnb73 := NB258_257.out
         have hnc73 := NB257_258.out
         have hcz74_0 := bC BK258 0 (.int .i64 t251)
         have hcz74_1 := bC BK258 1 (.int .i64 t252)
         have hfz74_0 := blk_frozen BK258.out 0
         have hfz74_1 := blk_frozen BK258.out 1
         go_upto_if 54 with (first | ((with_reducible refine gate_callee (f := 18) rfl ?_); refine gL (some 54) Try.func18 #[.agg #[.int .i64 t255, .int .i64 t256], .agg #[.int .i64 t251, .int .i64 t252]] ?_; (with_reducible refine (impl_BeforePoint.calls t255 t256 t251 t252 t260 _ A66.out).mono ?_); rintro e w75 ⟨rfl, hb⟩; refine ⟨_, rfl, ?_⟩; replace BK243 := mB BK243 hb; replace BK244 := mB BK244 hb; replace BK257 := mB BK257 hb; replace BK258 := mB BK258 hb; replace HB := sB4 HB hb GE243 GE244 GE257 GE258; (try clear hb)))
         (try simp only [Act.put, List.setIfInBounds_toArray, List.set_cons_zero, List.set_cons_succ])
         go_cut [] (fun wc => ∃ (kq : Nat) (x259000_66 : Int) (x259001_66 : Int), Aside0 (impl_HowMeet.j3 kq x258000_28 x258001_28 x259000_66 x259001_66 = some r) ∧ Aside0 (kq ≤ kj28) ∧ Aside0 (wc.heap[gb243]? = some (.cells #[.int .i64 t249, .int .i64 t250, .int .i64 t251, .int .i64 t252] 27 (0, 0))) ∧ Aside0 (wc.heap[gb244]? = some (.cells #[.int .i64 t253, .int .i64 t254, .int .i64 t255, .int .i64 t256] 27 (0, 0))) ∧ Aside0 (wc.heap[gb257]? = some (.cells #[.int .i64 x258000_28, .int .i64 x258001_28] 25 (0, 0))) ∧ Aside0 (wc.heap[gb258]? = some (.cells #[.int .i64 x259000_66, .int .i64 x259001_66] 25 (0, 0))) ∧ Aside0 (Below w.heap.size w wc))
         case first =>
          have H := HC67.out
          clear HC67
          by_cases c76 : t260 = true
          ·subst c76
           have H1 : (impl_HowMeet.j3 kj28 x258000_28 x258001_28 t255 t256) = some r := by rw [if_pos rfl] at H; exact H
           clear H
           have H := H1
           clear H1
           have H' := Aside0.mk H
           clear H
           have hnb77 := NB244_243.out
           have hnc77 := NB243_244.out
           have hnb78 := NB244_257.out
           have hnc78 := NB257_244.out
           have hnb79 := NB244_258.out
           have hnc79 := NB258_244.out
           have hcz80_0 := bC BK244 0 (.int .i64 t253)
           have hcz80_1 := bC BK244 1 (.int .i64 t254)
           have hcz80_2 := bC BK244 2 (.int .i64 t255)
           have hcz80_3 := bC BK244 3 (.int .i64 t256)
           have hfz80_0 := blk_frozen BK244.out 0
           have hfz80_1 := blk_frozen BK244.out 1
           have hfz80_2 := blk_frozen BK244.out 2
           have hfz80_3 := blk_frozen BK244.out 3
           have hnb81 := NB258_243.out
           have hnc81 := NB243_258.out
           have hnb82 := NB258_257.out
           have hnc82 := NB257_258.out
           have hcz83_0 := bC BK258 0 (.int .i64 t251)
           have hcz83_1 := bC BK258 1 (.int .i64 t252)
           have hfz83_0 := blk_frozen BK258.out 0
           have hfz83_1 := blk_frozen BK258.out 1
           go_wp2
           go_meet
           case rel => exact ⟨_, (t255), (t256), H', ⟨by have := HJ2.out; have := HJ19.out; have := HJ28.out; first | omega | exact Nat.le_refl _⟩, ⟨by (with_reducible repeat (first | refine blk_drewN ?_ _ | refine blk_drew ?_ | refine blk_alloc ?_ _)); refine blk_far ?_ NB243_258.out _; (with_reducible repeat (first | refine blk_drewN ?_ _ | refine blk_drew ?_ | refine blk_alloc ?_ _)); refine blk_far ?_ NB243_258.out _; (with_reducible repeat (first | refine blk_drewN ?_ _ | refine blk_drew ?_ | refine blk_alloc ?_ _)); exact BK243.out⟩, ⟨by (with_reducible repeat (first | refine blk_drewN ?_ _ | refine blk_drew ?_ | refine blk_alloc ?_ _)); refine blk_far ?_ NB244_258.out _; (with_reducible repeat (first | refine blk_drewN ?_ _ | refine blk_drew ?_ | refine blk_alloc ?_ _)); refine blk_far ?_ NB244_258.out _; (with_reducible repeat (first | refine blk_drewN ?_ _ | refine blk_drew ?_ | refine blk_alloc ?_ _)); exact BK244.out⟩, ⟨by (with_reducible repeat (first | refine blk_drewN ?_ _ | refine blk_drew ?_ | refine blk_alloc ?_ _)); refine blk_far ?_ NB257_258.out _; (with_reducible repeat (first | refine blk_drewN ?_ _ | refine blk_drew ?_ | refine blk_alloc ?_ _)); refine blk_far ?_ NB257_258.out _; (with_reducible repeat (first | refine blk_drewN ?_ _ | refine blk_drew ?_ | refine blk_alloc ?_ _)); exact BK257.out⟩, ⟨by (with_reducible repeat (first | refine blk_drewN ?_ _ | refine blk_drew ?_ | refine blk_alloc ?_ _)); refine blk_put (cs := #[.int .i64 t255, .int .i64 t252]) ?_ 1 _ rfl; (with_reducible repeat (first | refine blk_drewN ?_ _ | refine blk_drew ?_ | refine blk_alloc ?_ _)); refine blk_put (cs := #[.int .i64 t251, .int .i64 t252]) ?_ 0 _ rfl; (with_reducible repeat (first | refine blk_drewN ?_ _ | refine blk_drew ?_ | refine blk_alloc ?_ _)); exact BK258.out⟩, ⟨eB4 HB GE243 GE244 GE257 GE258⟩⟩
          ·replace c76 := Bool.eq_false_iff.mpr c76
           subst c76
           have H1 : (impl_HowMeet.j3 kj28 x258000_28 x258001_28 t251 t252) = some r := by rw [if_neg (show ¬ (false = true) by decide)] at H; exact H
           clear H
           have H := H1
           clear H1
           have H' := Aside0.mk H
           clear H
           go_wp2
           go_meet
           case rel => exact ⟨_, (t251), (t252), H', ⟨by have := HJ2.out; have := HJ19.out; have := HJ28.out; first | omega | exact Nat.le_refl _⟩, ⟨by (with_reducible repeat (first | refine blk_drewN ?_ _ | refine blk_drew ?_ | refine blk_alloc ?_ _)); exact BK243.out⟩, ⟨by (with_reducible repeat (first | refine blk_drewN ?_ _ | refine blk_drew ?_ | refine blk_alloc ?_ _)); exact BK244.out⟩, ⟨by (with_reducible repeat (first | refine blk_drewN ?_ _ | refine blk_drew ?_ | refine blk_alloc ?_ _)); exact BK257.out⟩, ⟨by (with_reducible repeat (first | refine blk_drewN ?_ _ | refine blk_drew ?_ | refine blk_alloc ?_ _)); exact BK258.out⟩, ⟨eB4 HB GE243 GE244 GE257 GE258⟩⟩
         case rest =>
          clear HC67
          try clear c1
          try clear c2
          try clear p2
          try clear c5
          try clear c6
          try clear c7
          try clear c8
          try clear c9
          try clear c14
          try clear c16
          try clear c17
          try clear c18
          try clear c24
          try clear c24b0
          try clear c24b1
          try clear c25
          try clear c50
          try clear c51
          try clear c52
          try clear c54
          try clear c55
          try clear c58
          try clear c59
          try clear c60
          try clear c61
          try clear c63
          try clear c64
          try clear c68
          try clear c69
          try clear c70
          try clear c72
          try clear c73
          try clear c76
          try clear c77
          try clear c78
          try clear c79
          try clear c81
          try clear c82
          try clear p2
          obtain ⟨kq, x259000_66, x259001_66, HA, HJ66, BK243, BK244, BK257, BK258, HB⟩ := hcut
          cases kq with
          | zero => exact absurd HA.out (by simp [impl_HowMeet.j3])
          | succ kj66 =>
           have H := HA.out
           clear HA
           simp only [impl_HowMeet.j3] at H
           replace H := Option.bind_eq_some_iff.mp H
           obtain ⟨t261, A840, H⟩ := H
           replace H : (if t261 = true then (some 0) else (if (x258000_28 == x259000_66 && (x258001_28 == x259001_66)) = true then (some 1) else (some 3))) = some r := H
           have A84 := Aside0.mk A840
           clear A840
           by_cases c85 : t261 = true
           ·subst c85
            have H1 : (some 0) = some r := by rw [if_pos rfl] at H; exact H
            clear H
            have H := H1
            clear H1
            obtain rfl := Option.some.inj H
            have hnb86 := NB258_243.out
            have hnc86 := NB243_258.out
            have hnb87 := NB258_244.out
            have hnc87 := NB244_258.out
            have hnb88 := NB258_257.out
            have hnc88 := NB257_258.out
            have hcz89_0 := bC BK258 0 (.int .i64 x259000_66)
            have hcz89_1 := bC BK258 1 (.int .i64 x259001_66)
            have hfz89_0 := blk_frozen BK258.out 0
            have hfz89_1 := blk_frozen BK258.out 1
            have hnb90 := NB257_243.out
            have hnc90 := NB243_257.out
            have hnb91 := NB257_244.out
            have hnc91 := NB244_257.out
            have hcz92_0 := bC BK257 0 (.int .i64 x258000_28)
            have hcz92_1 := bC BK257 1 (.int .i64 x258001_28)
            have hfz92_0 := blk_frozen BK257.out 0
            have hfz92_1 := blk_frozen BK257.out 1
            go_wp2_with (first | ((with_reducible refine gate_callee (f := 18) rfl ?_); refine gL (some 60) Try.func18 #[.agg #[.int .i64 x259000_66, .int .i64 x259001_66], .agg #[.int .i64 x258000_28, .int .i64 x258001_28]] ?_; (with_reducible refine (impl_BeforePoint.calls x259000_66 x259001_66 x258000_28 x258001_28 true _ A84.out).mono ?_); rintro e w93 ⟨rfl, hb⟩; refine ⟨_, rfl, ?_⟩; replace BK243 := mB BK243 hb; replace BK244 := mB BK244 hb; replace BK257 := mB BK257 hb; replace BK258 := mB BK258 hb; replace HB := sB4 HB hb GE243 GE244 GE257 GE258; (try clear hb)))
            go_ret
            exact ⟨by first | rfl | (simp [errW_none, errW_some] <;> rfl) | (simp [*, errW_none, errW_some] <;> rfl), eB4 HB GE243 GE244 GE257 GE258⟩
           ·replace c85 := Bool.eq_false_iff.mpr c85
            subst c85
            have H1 : (if (x258000_28 == x259000_66 && (x258001_28 == x259001_66)) = true then (some 1) else (some 3)) = some r := by rw [if_neg (show ¬ (false = true) by decide)] at H; exact H
            clear H
            have H := H1
            clear H1
            by_cases c94 : (x258000_28 == x259000_66 && (x258001_28 == x259001_66)) = true
            ·rw [if_pos c94] at H
             have c94b0 : (x258000_28 == x259000_66 && (x258001_28 == x259001_66)) = true := c94
             (try (have c94b1 : decide (x258000_28 = x259000_66 && (x258001_28 == x259001_66)) = true := by simpa using c94))
             (try (have c94b2 : (x258000_28 == x259000_66 && (x258001_28 == x259001_66)) = true := by simpa using c94))
             clear c94
             obtain rfl := Option.some.inj H
             have hnb95 := NB258_243.out
             have hnc95 := NB243_258.out
             have hnb96 := NB258_244.out
             have hnc96 := NB244_258.out
             have hnb97 := NB258_257.out
             have hnc97 := NB257_258.out
             have hcz98_0 := bC BK258 0 (.int .i64 x259000_66)
             have hcz98_1 := bC BK258 1 (.int .i64 x259001_66)
             have hfz98_0 := blk_frozen BK258.out 0
             have hfz98_1 := blk_frozen BK258.out 1
             have hnb99 := NB257_243.out
             have hnc99 := NB243_257.out
             have hnb100 := NB257_244.out
             have hnc100 := NB244_257.out
             have hcz101_0 := bC BK257 0 (.int .i64 x258000_28)
             have hcz101_1 := bC BK257 1 (.int .i64 x258001_28)
             have hfz101_0 := blk_frozen BK257.out 0
             have hfz101_1 := blk_frozen BK257.out 1
             go_wp2_with (first | ((with_reducible refine gate_callee (f := 18) rfl ?_); refine gL (some 60) Try.func18 #[.agg #[.int .i64 x259000_66, .int .i64 x259001_66], .agg #[.int .i64 x258000_28, .int .i64 x258001_28]] ?_; (with_reducible refine (impl_BeforePoint.calls x259000_66 x259001_66 x258000_28 x258001_28 false _ A84.out).mono ?_); rintro e w102 ⟨rfl, hb⟩; refine ⟨_, rfl, ?_⟩; replace BK243 := mB BK243 hb; replace BK244 := mB BK244 hb; replace BK257 := mB BK257 hb; replace BK258 := mB BK258 hb; replace HB := sB4 HB hb GE243 GE244 GE257 GE258; (try clear hb); have hcz103_0 := bC BK257 0 (.int .i64 x258000_28); have hcz103_1 := bC BK257 1 (.int .i64 x258001_28); have hfz103_0 := blk_frozen BK257.out 0; have hfz103_1 := blk_frozen BK257.out 1; have hcz104_0 := bC BK258 0 (.int .i64 x259000_66); have hcz104_1 := bC BK258 1 (.int .i64 x259001_66); have hfz104_0 := blk_frozen BK258.out 0; have hfz104_1 := blk_frozen BK258.out 1))
             go_ret
             exact ⟨by first | rfl | (simp [errW_none, errW_some] <;> rfl) | (simp [*, errW_none, errW_some] <;> rfl), eB4 HB GE243 GE244 GE257 GE258⟩
            ·rw [if_neg c94] at H
             have c94b0 : (x258000_28 == x259000_66 && (x258001_28 == x259001_66)) = false := by simpa using c94
             (try (have c94b1 : decide (x258000_28 = x259000_66 && (x258001_28 == x259001_66)) = false := by simpa using c94))
             (try (have c94b2 : (x258000_28 == x259000_66 && (x258001_28 == x259001_66)) = false := by simpa using c94))
             (try (have c94b3 : ¬ (x258000_28 = x259000_66 && (x258001_28 == x259001_66)) := by simpa using c94))
             clear c94
             obtain rfl := Option.some.inj H
             have hnb105 := NB258_243.out
             have hnc105 := NB243_258.out
             have hnb106 := NB258_244.out
             have hnc106 := NB244_258.out
             have hnb107 := NB258_257.out
             have hnc107 := NB257_258.out
             have hcz108_0 := bC BK258 0 (.int .i64 x259000_66)
             have hcz108_1 := bC BK258 1 (.int .i64 x259001_66)
             have hfz108_0 := blk_frozen BK258.out 0
             have hfz108_1 := blk_frozen BK258.out 1
             have hnb109 := NB257_243.out
             have hnc109 := NB243_257.out
             have hnb110 := NB257_244.out
             have hnc110 := NB244_257.out
             have hcz111_0 := bC BK257 0 (.int .i64 x258000_28)
             have hcz111_1 := bC BK257 1 (.int .i64 x258001_28)
             have hfz111_0 := blk_frozen BK257.out 0
             have hfz111_1 := blk_frozen BK257.out 1
             go_wp2_with (first | ((with_reducible refine gate_callee (f := 18) rfl ?_); refine gL (some 60) Try.func18 #[.agg #[.int .i64 x259000_66, .int .i64 x259001_66], .agg #[.int .i64 x258000_28, .int .i64 x258001_28]] ?_; (with_reducible refine (impl_BeforePoint.calls x259000_66 x259001_66 x258000_28 x258001_28 false _ A84.out).mono ?_); rintro e w112 ⟨rfl, hb⟩; refine ⟨_, rfl, ?_⟩; replace BK243 := mB BK243 hb; replace BK244 := mB BK244 hb; replace BK257 := mB BK257 hb; replace BK258 := mB BK258 hb; replace HB := sB4 HB hb GE243 GE244 GE257 GE258; (try clear hb); have hcz113_0 := bC BK257 0 (.int .i64 x258000_28); have hcz113_1 := bC BK257 1 (.int .i64 x258001_28); have hfz113_0 := blk_frozen BK257.out 0; have hfz113_1 := blk_frozen BK257.out 1; have hcz114_0 := bC BK258 0 (.int .i64 x259000_66); have hcz114_1 := bC BK258 1 (.int .i64 x259001_66); have hfz114_0 := blk_frozen BK258.out 0; have hfz114_1 := blk_frozen BK258.out 1))
             go_ret
             exact ⟨by first | rfl | (simp [errW_none, errW_some] <;> rfl) | (simp [*, errW_none, errW_some] <;> rfl), eB4 HB GE243 GE244 GE257 GE258⟩
      ·replace c25 := Bool.eq_false_iff.mpr c25
       subst c25
       have H1 : (if (wrap64 (t247 * t248)) < 0 then ((impl_SideOf.f kj19 a1_0 a1_1 a1_2 a1_3 a0_0 a0_1).bind fun t262 => ((impl_SideOf.f kj19 a1_0 a1_1 a1_2 a1_3 a0_2 a0_3).bind fun t263 => (impl_HowMeet.j4 kj19 (decide ((wrap64 (t262 * t263)) < 0)) a0_0 a0_1 a0_2 a0_3 a1_0 a1_1 a1_2 a1_3))) else (impl_HowMeet.j4 kj19 false a0_0 a0_1 a0_2 a0_3 a1_0 a1_1 a1_2 a1_3)) = some r := by rw [if_neg (show ¬ (false = true) by decide)] at H; exact H
       clear H
       have H := H1
       clear H1
       have HC115 := Aside0.mk H
       clear H
       go_upto_region 16 with (fail)
       go_cut [86] (fun v86 wc => ∃ (kq : Nat) (x86_114 : Bool), v86 = .bool x86_114 ∧ Aside0 (impl_HowMeet.j4 kq x86_114 a0_0 a0_1 a0_2 a0_3 a1_0 a1_1 a1_2 a1_3 = some r) ∧ Aside0 (kq ≤ kj19) ∧ Aside0 (wc.heap[gb243]? = some (.cells #[.int .i64 a0_0, .int .i64 a0_1, .int .i64 a0_2, .int .i64 a0_3] 27 (0, 0))) ∧ Aside0 (wc.heap[gb244]? = some (.cells #[.int .i64 a1_0, .int .i64 a1_1, .int .i64 a1_2, .int .i64 a1_3] 27 (0, 0))) ∧ Aside0 (Below w.heap.size w wc))
       case first =>
        have H := HC115.out
        clear HC115
        by_cases c116 : (wrap64 (t247 * t248)) < 0
        ·rw [if_pos c116] at H
         have c116b0 : decide ((wrap64 (t247 * t248)) < 0) = true := decide_eq_true c116
         clear c116
         (first | rw [c116b0] | (simp only [i64_w, i32_w]; rw [c116b0]) | skip)
         replace H := Option.bind_eq_some_iff.mp H
         obtain ⟨t262, A1170, H⟩ := H
         replace H : ((impl_SideOf.f kj19 a1_0 a1_1 a1_2 a1_3 a0_2 a0_3).bind fun t263 => (impl_HowMeet.j4 kj19 (decide ((wrap64 (t262 * t263)) < 0)) a0_0 a0_1 a0_2 a0_3 a1_0 a1_1 a1_2 a1_3)) = some r := H
         have A117 := Aside0.mk A1170
         clear A1170
         replace H := Option.bind_eq_some_iff.mp H
         obtain ⟨t263, A1180, H⟩ := H
         replace H : (impl_HowMeet.j4 kj19 (decide ((wrap64 (t262 * t263)) < 0)) a0_0 a0_1 a0_2 a0_3 a1_0 a1_1 a1_2 a1_3) = some r := H
         have A118 := Aside0.mk A1180
         clear A1180
         have H' := Aside0.mk H
         clear H
         try go_wp2
         replace BK243 := Aside0.mk (blk_drew BK243.out)
         replace BK244 := Aside0.mk (blk_drew BK244.out)
         replace HB := Aside0.mk (below_drew1 HB.out)
         refine start_ (n := 22) (S := fun w' => w'.cell? ⟨gb244, 0, none⟩ = some (.int .i64 a1_0) ∧ w'.cell? ⟨gb244, 1, none⟩ = some (.int .i64 a1_1) ∧ w'.cell? ⟨gb244, 2, none⟩ = some (.int .i64 a1_2) ∧ w'.cell? ⟨gb244, 3, none⟩ = some (.int .i64 a1_3) ∧ w'.cell? ⟨gb243, 0, none⟩ = some (.int .i64 a0_0) ∧ w'.cell? ⟨gb243, 1, none⟩ = some (.int .i64 a0_1) ∧ w'.cell? ⟨gb243, 2, none⟩ = some (.int .i64 a0_2) ∧ w'.cell? ⟨gb243, 3, none⟩ = some (.int .i64 a0_3)) (ds := []) #[false, false, false, false, false, false, false, false, false, false, false, false, false, false, false, false, false, false, false, false, false, false] (by kernel_rfl) rfl rfl ⟨(blk_cell BK244.out 0).trans rfl, (blk_cell BK244.out 1).trans rfl, (blk_cell BK244.out 2).trans rfl, (blk_cell BK244.out 3).trans rfl, (blk_cell BK243.out 0).trans rfl, (blk_cell BK243.out 1).trans rfl, (blk_cell BK243.out 2).trans rfl, (blk_cell BK243.out 3).trans rfl⟩ (fun hHeld => ?_); refine with_tabW impl_HowMeet.tab16 impl_HowMeet.bits16 (fun HT_ HW_ => ?_)
         generalize wc.drew = w119 at BK243 BK244 HB hHeld ⊢
         refine pA HT_.out 0 65 ?_
         refine pA HT_.out 1 66 ?_
         refine pA HT_.out 2 67 ?_
         refine pA HT_.out 3 68 ?_
         refine pA HT_.out 4 69 ?_
         refine pA HT_.out 5 70 ?_
         refine pA HT_.out 7 72 ?_
         refine pA HT_.out 9 74 ?_
         refine pA HT_.out 12 77 ?_
         refine pA HT_.out 14 79 ?_
         refine pA HT_.out 16 81 ?_
         refine tA8 HT_.out HW_.out 6 71 hHeld ?_
         refine tA8 HT_.out HW_.out 8 73 hHeld ?_
         refine tA8 HT_.out HW_.out 10 75 hHeld ?_
         refine tA8 HT_.out HW_.out 13 78 hHeld ?_
         refine tA8 HT_.out HW_.out 15 80 hHeld ?_
         refine tA8 HT_.out HW_.out 17 82 hHeld ?_
         refine one_ (i := 11) (N := some 76) #[true, true, true, true, true, true, true, true, true, true, true, true, true, true, true, true, true, true, false, false, false, false] rfl rfl (one_of HT_.out (by kernel_rfl)) (by decide) (fun K hK => ?_)
         refine gS Try.func16 #[.agg #[.int .i64 a1_0, .int .i64 a1_1], .agg #[.int .i64 a1_2, .int .i64 a1_3], .agg #[.int .i64 a0_0, .int .i64 a0_1]] ?_
         with_reducible refine (impl_SideOf.calls kj19 a1_0 a1_1 a1_2 a1_3 a0_0 a0_1 t262 _ A117.out).mono ?_
         rintro e w120 ⟨rfl, hb⟩
         refine ⟨_, rfl, ?_⟩
         replace BK243 := mB BK243 hb
         replace BK244 := mB BK244 hb
         replace HB := sB2 HB hb GE243 GE244
         (try clear hb)
         (try clear hb2)
         (try clear hk)
         (try clear hi)
         refine hK.out _ _ ⟨(blk_cell BK244.out 0).trans rfl, (blk_cell BK244.out 1).trans rfl, (blk_cell BK244.out 2).trans rfl, (blk_cell BK244.out 3).trans rfl, (blk_cell BK243.out 0).trans rfl, (blk_cell BK243.out 1).trans rfl, (blk_cell BK243.out 2).trans rfl, (blk_cell BK243.out 3).trans rfl⟩ (fun hHeld => ?_)
         clear hK K
         refine norm_ (a' := ?_) ?_ ?_
         rotate_left
         ·show Act.put _ (some 76) _ = _
          simp only [Act.put, List.setIfInBounds_toArray, List.set_cons_zero, List.set_cons_succ, i64_w, i32_w]
          rfl
         refine one_ (i := 18) (N := some 83) #[true, true, true, true, true, true, true, true, true, true, true, true, true, true, true, true, true, true, true, false, false, false] rfl rfl (one_of HT_.out (by kernel_rfl)) (by decide) (fun K hK => ?_)
         refine gS Try.func16 #[.agg #[.int .i64 a1_0, .int .i64 a1_1], .agg #[.int .i64 a1_2, .int .i64 a1_3], .agg #[.int .i64 a0_2, .int .i64 a0_3]] ?_
         with_reducible refine (impl_SideOf.calls kj19 a1_0 a1_1 a1_2 a1_3 a0_2 a0_3 t263 _ A118.out).mono ?_
         rintro e w121 ⟨rfl, hb⟩
         refine ⟨_, rfl, ?_⟩
         replace BK243 := mB BK243 hb
         replace BK244 := mB BK244 hb
         replace HB := sB2 HB hb GE243 GE244
         (try clear hb)
         (try clear hb2)
         (try clear hk)
         (try clear hi)
         refine hK.out _ _ ⟨(blk_cell BK244.out 0).trans rfl, (blk_cell BK244.out 1).trans rfl, (blk_cell BK244.out 2).trans rfl, (blk_cell BK244.out 3).trans rfl, (blk_cell BK243.out 0).trans rfl, (blk_cell BK243.out 1).trans rfl, (blk_cell BK243.out 2).trans rfl, (blk_cell BK243.out 3).trans rfl⟩ (fun hHeld => ?_)
         clear hK K
         refine norm_ (a' := ?_) ?_ ?_
         rotate_left
         ·show Act.put _ (some 83) _ = _
          simp only [Act.put, List.setIfInBounds_toArray, List.set_cons_zero, List.set_cons_succ, i64_w, i32_w]
          rfl
         refine pA HT_.out 19 84 ?_
         refine pA HT_.out 20 85 ?_
         refine pA HT_.out 21 86 ?_
         refine done_ (done_of HT_.out (by kernel_rfl)) ?_
         try go_wp2
         go_meet
         case rel => exact ⟨_, (decide ((wrap64 (t262 * t263)) < 0)), (by first | rfl | (simp; done) | (simp [*]; done)), H', ⟨by have := HJ2.out; have := HJ19.out; first | omega | exact Nat.le_refl _⟩, ⟨by (with_reducible repeat (first | refine blk_drewN ?_ _ | refine blk_drew ?_ | refine blk_alloc ?_ _)); exact BK243.out⟩, ⟨by (with_reducible repeat (first | refine blk_drewN ?_ _ | refine blk_drew ?_ | refine blk_alloc ?_ _)); exact BK244.out⟩, ⟨eB2 HB GE243 GE244⟩⟩
        ·rw [if_neg c116] at H
         have c116b0 : decide ((wrap64 (t247 * t248)) < 0) = false := decide_eq_false c116
         clear c116
         (first | rw [c116b0] | (simp only [i64_w, i32_w]; rw [c116b0]) | skip)
         have H' := Aside0.mk H
         clear H
         try go_wp2
         replace BK243 := Aside0.mk (blk_drew BK243.out)
         replace BK244 := Aside0.mk (blk_drew BK244.out)
         replace HB := Aside0.mk (below_drew1 HB.out)
         refine start_ (n := 22) (S := fun w' => True) (ds := []) #[false, false, false, false, false, false, false, false, false, false, false, false, false, false, false, false, false, false, false, false, false, false] (by kernel_rfl) rfl rfl trivial (fun hHeld => ?_); refine with_tabW impl_HowMeet.tab16 impl_HowMeet.bits16 (fun HT_ HW_ => ?_)
         generalize wc.drew = w122 at BK243 BK244 HB hHeld ⊢
         refine pA HT_.out 0 65 ?_
         refine pA HT_.out 1 66 ?_
         refine pA HT_.out 2 67 ?_
         refine pA HT_.out 3 68 ?_
         refine pA HT_.out 4 69 ?_
         refine pU HT_.out 5 70 ?_
         refine pU HT_.out 6 71 ?_
         refine pU HT_.out 7 72 ?_
         refine pU HT_.out 8 73 ?_
         refine pU HT_.out 9 74 ?_
         refine pU HT_.out 10 75 ?_
         refine pU HT_.out 11 76 ?_
         refine pU HT_.out 12 77 ?_
         refine pU HT_.out 13 78 ?_
         refine pU HT_.out 14 79 ?_
         refine pU HT_.out 15 80 ?_
         refine pU HT_.out 16 81 ?_
         refine pU HT_.out 17 82 ?_
         refine pU HT_.out 18 83 ?_
         refine pU HT_.out 19 84 ?_
         refine pU HT_.out 20 85 ?_
         refine pA HT_.out 21 86 ?_
         refine done_ (done_of HT_.out (by kernel_rfl)) ?_
         try go_wp2
         go_meet
         case rel => exact ⟨_, (false), (by first | rfl | (simp; done) | (simp [*]; done)), H', ⟨by have := HJ2.out; have := HJ19.out; first | omega | exact Nat.le_refl _⟩, ⟨by (with_reducible repeat (first | refine blk_drewN ?_ _ | refine blk_drew ?_ | refine blk_alloc ?_ _)); exact BK243.out⟩, ⟨by (with_reducible repeat (first | refine blk_drewN ?_ _ | refine blk_drew ?_ | refine blk_alloc ?_ _)); exact BK244.out⟩, ⟨eB2 HB GE243 GE244⟩⟩
       case rest =>
        clear HC115
        try clear c1
        try clear c2
        try clear p2
        try clear c5
        try clear c6
        try clear p6
        try clear c7
        try clear c8
        try clear c9
        try clear c10
        try clear c11
        try clear c16
        try clear c17
        try clear c18
        try clear c24
        try clear c24b0
        try clear c24b1
        try clear c25
        try clear c50
        try clear c51
        try clear c52
        try clear c54
        try clear c55
        try clear c58
        try clear c59
        try clear c60
        try clear c61
        try clear c63
        try clear c64
        try clear p64
        try clear c68
        try clear c69
        try clear c70
        try clear c72
        try clear c73
        try clear c76
        try clear c77
        try clear c78
        try clear c79
        try clear c81
        try clear c82
        try clear c85
        try clear c86
        try clear c87
        try clear c88
        try clear c90
        try clear c91
        try clear c94
        try clear c94b0
        try clear c94b1
        try clear c94b2
        try clear c95
        try clear c96
        try clear c97
        try clear c99
        try clear c100
        try clear c105
        try clear c106
        try clear c107
        try clear c109
        try clear c110
        try clear c116
        try clear c116b0
        try clear p2
        obtain ⟨kq, x86_114, rfl, HA, HJ114, BK243, BK244, HB⟩ := hcut
        cases kq with
        | zero => exact absurd HA.out (by simp [impl_HowMeet.j4])
        | succ kj114 =>
         have H := HA.out
         clear HA
         simp only [impl_HowMeet.j4] at H
         by_cases c123 : x86_114 = true
         ·subst c123
          have H1 : (some 2) = some r := by rw [if_pos rfl] at H; exact H
          clear H
          have H := H1
          clear H1
          obtain rfl := Option.some.inj H
          go_wp2
          go_ret
          exact ⟨by first | rfl | (simp [errW_none, errW_some] <;> rfl) | (simp [*, errW_none, errW_some] <;> rfl), eB2 HB GE243 GE244⟩
         ·replace c123 := Bool.eq_false_iff.mpr c123
          subst c123
          have H1 : ((impl_IsOn.f kj114 a0_0 a0_1 a0_2 a0_3 a1_0 a1_1).bind fun t264 => (if t264 = true then (some 1) else ((impl_IsOn.f kj114 a0_0 a0_1 a0_2 a0_3 a1_2 a1_3).bind fun t265 => (if t265 = true then (some 1) else ((impl_IsOn.f kj114 a1_0 a1_1 a1_2 a1_3 a0_0 a0_1).bind fun t266 => (if t266 = true then (some 1) else ((impl_IsOn.f kj114 a1_0 a1_1 a1_2 a1_3 a0_2 a0_3).bind fun t267 => (if t267 = true then (some 1) else (some 0))))))))) = some r := by rw [if_neg (show ¬ (false = true) by decide)] at H; exact H
          clear H
          have H := H1
          clear H1
          replace H := Option.bind_eq_some_iff.mp H
          obtain ⟨t264, A1240, H⟩ := H
          replace H : (if t264 = true then (some 1) else ((impl_IsOn.f kj114 a0_0 a0_1 a0_2 a0_3 a1_2 a1_3).bind fun t265 => (if t265 = true then (some 1) else ((impl_IsOn.f kj114 a1_0 a1_1 a1_2 a1_3 a0_0 a0_1).bind fun t266 => (if t266 = true then (some 1) else ((impl_IsOn.f kj114 a1_0 a1_1 a1_2 a1_3 a0_2 a0_3).bind fun t267 => (if t267 = true then (some 1) else (some 0)))))))) = some r := H
          have A124 := Aside0.mk A1240
          clear A1240
          by_cases c125 : t264 = true
          ·subst c125
           have H1 : (some 1) = some r := by rw [if_pos rfl] at H; exact H
           clear H
           have H := H1
           clear H1
           obtain rfl := Option.some.inj H
           have hnb126 := NB243_244.out
           have hnc126 := NB244_243.out
           have hcz127_0 := bC BK243 0 (.int .i64 a0_0)
           have hcz127_1 := bC BK243 1 (.int .i64 a0_1)
           have hcz127_2 := bC BK243 2 (.int .i64 a0_2)
           have hcz127_3 := bC BK243 3 (.int .i64 a0_3)
           have hfz127_0 := blk_frozen BK243.out 0
           have hfz127_1 := blk_frozen BK243.out 1
           have hfz127_2 := blk_frozen BK243.out 2
           have hfz127_3 := blk_frozen BK243.out 3
           have hcz128_0 := bC BK244 0 (.int .i64 a1_0)
           have hcz128_1 := bC BK244 1 (.int .i64 a1_1)
           have hcz128_2 := bC BK244 2 (.int .i64 a1_2)
           have hcz128_3 := bC BK244 3 (.int .i64 a1_3)
           have hfz128_0 := blk_frozen BK244.out 0
           have hfz128_1 := blk_frozen BK244.out 1
           have hfz128_2 := blk_frozen BK244.out 2
           have hfz128_3 := blk_frozen BK244.out 3
           go_wp2_with (first | ((with_reducible refine gate_callee (f := 10) rfl ?_); refine gL (some 90) Try.func10 #[.agg #[.int .i64 a0_0, .int .i64 a0_1, .int .i64 a0_2, .int .i64 a0_3], .agg #[.int .i64 a1_0, .int .i64 a1_1]] ?_; (with_reducible refine (impl_IsOn.calls kj114 a0_0 a0_1 a0_2 a0_3 a1_0 a1_1 true _ A124.out).mono ?_); rintro e w129 ⟨rfl, hb⟩; refine ⟨_, rfl, ?_⟩; replace BK243 := mB BK243 hb; replace BK244 := mB BK244 hb; replace HB := sB2 HB hb GE243 GE244; (try clear hb)))
           go_ret
           exact ⟨by first | rfl | (simp [errW_none, errW_some] <;> rfl) | (simp [*, errW_none, errW_some] <;> rfl), eB2 HB GE243 GE244⟩
          ·replace c125 := Bool.eq_false_iff.mpr c125
           subst c125
           have H1 : ((impl_IsOn.f kj114 a0_0 a0_1 a0_2 a0_3 a1_2 a1_3).bind fun t265 => (if t265 = true then (some 1) else ((impl_IsOn.f kj114 a1_0 a1_1 a1_2 a1_3 a0_0 a0_1).bind fun t266 => (if t266 = true then (some 1) else ((impl_IsOn.f kj114 a1_0 a1_1 a1_2 a1_3 a0_2 a0_3).bind fun t267 => (if t267 = true then (some 1) else (some 0))))))) = some r := by rw [if_neg (show ¬ (false = true) by decide)] at H; exact H
           clear H
           have H := H1
           clear H1
           replace H := Option.bind_eq_some_iff.mp H
           obtain ⟨t265, A1300, H⟩ := H
           replace H : (if t265 = true then (some 1) else ((impl_IsOn.f kj114 a1_0 a1_1 a1_2 a1_3 a0_0 a0_1).bind fun t266 => (if t266 = true then (some 1) else ((impl_IsOn.f kj114 a1_0 a1_1 a1_2 a1_3 a0_2 a0_3).bind fun t267 => (if t267 = true then (some 1) else (some 0)))))) = some r := H
           have A130 := Aside0.mk A1300
           clear A1300
           by_cases c131 : t265 = true
           ·subst c131
            have H1 : (some 1) = some r := by rw [if_pos rfl] at H; exact H
            clear H
            have H := H1
            clear H1
            obtain rfl := Option.some.inj H
            have hnb132 := NB243_244.out
            have hnc132 := NB244_243.out
            have hcz133_0 := bC BK243 0 (.int .i64 a0_0)
            have hcz133_1 := bC BK243 1 (.int .i64 a0_1)
            have hcz133_2 := bC BK243 2 (.int .i64 a0_2)
            have hcz133_3 := bC BK243 3 (.int .i64 a0_3)
            have hfz133_0 := blk_frozen BK243.out 0
            have hfz133_1 := blk_frozen BK243.out 1
            have hfz133_2 := blk_frozen BK243.out 2
            have hfz133_3 := blk_frozen BK243.out 3
            have hcz134_0 := bC BK244 0 (.int .i64 a1_0)
            have hcz134_1 := bC BK244 1 (.int .i64 a1_1)
            have hcz134_2 := bC BK244 2 (.int .i64 a1_2)
            have hcz134_3 := bC BK244 3 (.int .i64 a1_3)
            have hfz134_0 := blk_frozen BK244.out 0
            have hfz134_1 := blk_frozen BK244.out 1
            have hfz134_2 := blk_frozen BK244.out 2
            have hfz134_3 := blk_frozen BK244.out 3
            go_wp2_with (first | ((with_reducible refine gate_callee (f := 10) rfl ?_); refine gL (some 90) Try.func10 #[.agg #[.int .i64 a0_0, .int .i64 a0_1, .int .i64 a0_2, .int .i64 a0_3], .agg #[.int .i64 a1_0, .int .i64 a1_1]] ?_; (with_reducible refine (impl_IsOn.calls kj114 a0_0 a0_1 a0_2 a0_3 a1_0 a1_1 false _ A124.out).mono ?_); rintro e w135 ⟨rfl, hb⟩; refine ⟨_, rfl, ?_⟩; replace BK243 := mB BK243 hb; replace BK244 := mB BK244 hb; replace HB := sB2 HB hb GE243 GE244; (try clear hb); have hcz136_0 := bC BK243 0 (.int .i64 a0_0); have hcz136_1 := bC BK243 1 (.int .i64 a0_1); have hcz136_2 := bC BK243 2 (.int .i64 a0_2); have hcz136_3 := bC BK243 3 (.int .i64 a0_3); have hfz136_0 := blk_frozen BK243.out 0; have hfz136_1 := blk_frozen BK243.out 1; have hfz136_2 := blk_frozen BK243.out 2; have hfz136_3 := blk_frozen BK243.out 3; have hcz137_0 := bC BK244 0 (.int .i64 a1_0); have hcz137_1 := bC BK244 1 (.int .i64 a1_1); have hcz137_2 := bC BK244 2 (.int .i64 a1_2); have hcz137_3 := bC BK244 3 (.int .i64 a1_3); have hfz137_0 := blk_frozen BK244.out 0; have hfz137_1 := blk_frozen BK244.out 1; have hfz137_2 := blk_frozen BK244.out 2; have hfz137_3 := blk_frozen BK244.out 3) | (go_at_call 10; (with_reducible refine (impl_IsOn.calls kj114 a0_0 a0_1 a0_2 a0_3 a1_2 a1_3 true _ A130.out).mono ?_); rintro e w138 ⟨rfl, hb⟩; replace BK243 := mB BK243 hb; replace BK244 := mB BK244 hb; replace HB := sB2 HB hb GE243 GE244; (try clear hb)))
            go_ret
            exact ⟨by first | rfl | (simp [errW_none, errW_some] <;> rfl) | (simp [*, errW_none, errW_some] <;> rfl), eB2 HB GE243 GE244⟩
           ·replace c131 := Bool.eq_false_iff.mpr c131
            subst c131
            have H1 : ((impl_IsOn.f kj114 a1_0 a1_1 a1_2 a1_3 a0_0 a0_1).bind fun t266 => (if t266 = true then (some 1) else ((impl_IsOn.f kj114 a1_0 a1_1 a1_2 a1_3 a0_2 a0_3).bind fun t267 => (if t267 = true then (some 1) else (some 0))))) = some r := by rw [if_neg (show ¬ (false = true) by decide)] at H; exact H
            clear H
            have H := H1
            clear H1
            replace H := Option.bind_eq_some_iff.mp H
            obtain ⟨t266, A1390, H⟩ := H
            replace H : (if t266 = true then (some 1) else ((impl_IsOn.f kj114 a1_0 a1_1 a1_2 a1_3 a0_2 a0_3).bind fun t267 => (if t267 = true then (some 1) else (some 0)))) = some r := H
            have A139 := Aside0.mk A1390
            clear A1390
            by_cases c140 : t266 = true
            ·subst c140
             have H1 : (some 1) = some r := by rw [if_pos rfl] at H; exact H
             clear H
             have H := H1
             clear H1
             obtain rfl := Option.some.inj H
             have hnb141 := NB243_244.out
             have hnc141 := NB244_243.out
             have hcz142_0 := bC BK243 0 (.int .i64 a0_0)
             have hcz142_1 := bC BK243 1 (.int .i64 a0_1)
             have hcz142_2 := bC BK243 2 (.int .i64 a0_2)
             have hcz142_3 := bC BK243 3 (.int .i64 a0_3)
             have hfz142_0 := blk_frozen BK243.out 0
             have hfz142_1 := blk_frozen BK243.out 1
             have hfz142_2 := blk_frozen BK243.out 2
             have hfz142_3 := blk_frozen BK243.out 3
             have hcz143_0 := bC BK244 0 (.int .i64 a1_0)
             have hcz143_1 := bC BK244 1 (.int .i64 a1_1)
             have hcz143_2 := bC BK244 2 (.int .i64 a1_2)
             have hcz143_3 := bC BK244 3 (.int .i64 a1_3)
             have hfz143_0 := blk_frozen BK244.out 0
             have hfz143_1 := blk_frozen BK244.out 1
             have hfz143_2 := blk_frozen BK244.out 2
             have hfz143_3 := blk_frozen BK244.out 3
             go_wp2_with (first | ((with_reducible refine gate_callee (f := 10) rfl ?_); refine gL (some 90) Try.func10 #[.agg #[.int .i64 a0_0, .int .i64 a0_1, .int .i64 a0_2, .int .i64 a0_3], .agg #[.int .i64 a1_0, .int .i64 a1_1]] ?_; (with_reducible refine (impl_IsOn.calls kj114 a0_0 a0_1 a0_2 a0_3 a1_0 a1_1 false _ A124.out).mono ?_); rintro e w144 ⟨rfl, hb⟩; refine ⟨_, rfl, ?_⟩; replace BK243 := mB BK243 hb; replace BK244 := mB BK244 hb; replace HB := sB2 HB hb GE243 GE244; (try clear hb); have hcz145_0 := bC BK243 0 (.int .i64 a0_0); have hcz145_1 := bC BK243 1 (.int .i64 a0_1); have hcz145_2 := bC BK243 2 (.int .i64 a0_2); have hcz145_3 := bC BK243 3 (.int .i64 a0_3); have hfz145_0 := blk_frozen BK243.out 0; have hfz145_1 := blk_frozen BK243.out 1; have hfz145_2 := blk_frozen BK243.out 2; have hfz145_3 := blk_frozen BK243.out 3; have hcz146_0 := bC BK244 0 (.int .i64 a1_0); have hcz146_1 := bC BK244 1 (.int .i64 a1_1); have hcz146_2 := bC BK244 2 (.int .i64 a1_2); have hcz146_3 := bC BK244 3 (.int .i64 a1_3); have hfz146_0 := blk_frozen BK244.out 0; have hfz146_1 := blk_frozen BK244.out 1; have hfz146_2 := blk_frozen BK244.out 2; have hfz146_3 := blk_frozen BK244.out 3) | (go_at_call 10; (with_reducible refine (impl_IsOn.calls kj114 a0_0 a0_1 a0_2 a0_3 a1_2 a1_3 false _ A130.out).mono ?_); rintro e w147 ⟨rfl, hb⟩; replace BK243 := mB BK243 hb; replace BK244 := mB BK244 hb; replace HB := sB2 HB hb GE243 GE244; (try clear hb); have hcz148_0 := bC BK244 0 (.int .i64 a1_0); have hcz148_1 := bC BK244 1 (.int .i64 a1_1); have hcz148_2 := bC BK244 2 (.int .i64 a1_2); have hcz148_3 := bC BK244 3 (.int .i64 a1_3); have hfz148_0 := blk_frozen BK244.out 0; have hfz148_1 := blk_frozen BK244.out 1; have hfz148_2 := blk_frozen BK244.out 2; have hfz148_3 := blk_frozen BK244.out 3; have hcz149_0 := bC BK243 0 (.int .i64 a0_0); have hcz149_1 := bC BK243 1 (.int .i64 a0_1); have hcz149_2 := bC BK243 2 (.int .i64 a0_2); have hcz149_3 := bC BK243 3 (.int .i64 a0_3); have hfz149_0 := blk_frozen BK243.out 0; have hfz149_1 := blk_frozen BK243.out 1; have hfz149_2 := blk_frozen BK243.out 2; have hfz149_3 := blk_frozen BK243.out 3) | (go_at_call 10; (with_reducible refine (impl_IsOn.calls kj114 a1_0 a1_1 a1_2 a1_3 a0_0 a0_1 true _ A139.out).mono ?_); rintro e w150 ⟨rfl, hb⟩; replace BK243 := mB BK243 hb; replace BK244 := mB BK244 hb; replace HB := sB2 HB hb GE243 GE244; (try clear hb)))
             go_ret
             exact ⟨by first | rfl | (simp [errW_none, errW_some] <;> rfl) | (simp [*, errW_none, errW_some] <;> rfl), eB2 HB GE243 GE244⟩
            ·replace c140 := Bool.eq_false_iff.mpr c140
             subst c140
             have H1 : ((impl_IsOn.f kj114 a1_0 a1_1 a1_2 a1_3 a0_2 a0_3).bind fun t267 => (if t267 = true then (some 1) else (some 0))) = some r := by rw [if_neg (show ¬ (false = true) by decide)] at H; exact H
             clear H
             have H := H1
             clear H1
             replace H := Option.bind_eq_some_iff.mp H
             obtain ⟨t267, A1510, H⟩ := H
             replace H : (if t267 = true then (some 1) else (some 0)) = some r := H
             have A151 := Aside0.mk A1510
             clear A1510
             by_cases c152 : t267 = true
             ·subst c152
              have H1 : (some 1) = some r := by rw [if_pos rfl] at H; exact H
              clear H
              have H := H1
              clear H1
              obtain rfl := Option.some.inj H
              have hnb153 := NB243_244.out
              have hnc153 := NB244_243.out
              have hcz154_0 := bC BK243 0 (.int .i64 a0_0)
              have hcz154_1 := bC BK243 1 (.int .i64 a0_1)
              have hcz154_2 := bC BK243 2 (.int .i64 a0_2)
              have hcz154_3 := bC BK243 3 (.int .i64 a0_3)
              have hfz154_0 := blk_frozen BK243.out 0
              have hfz154_1 := blk_frozen BK243.out 1
              have hfz154_2 := blk_frozen BK243.out 2
              have hfz154_3 := blk_frozen BK243.out 3
              have hcz155_0 := bC BK244 0 (.int .i64 a1_0)
              have hcz155_1 := bC BK244 1 (.int .i64 a1_1)
              have hcz155_2 := bC BK244 2 (.int .i64 a1_2)
              have hcz155_3 := bC BK244 3 (.int .i64 a1_3)
              have hfz155_0 := blk_frozen BK244.out 0
              have hfz155_1 := blk_frozen BK244.out 1
              have hfz155_2 := blk_frozen BK244.out 2
              have hfz155_3 := blk_frozen BK244.out 3
              go_wp2_with (first | ((with_reducible refine gate_callee (f := 10) rfl ?_); refine gL (some 90) Try.func10 #[.agg #[.int .i64 a0_0, .int .i64 a0_1, .int .i64 a0_2, .int .i64 a0_3], .agg #[.int .i64 a1_0, .int .i64 a1_1]] ?_; (with_reducible refine (impl_IsOn.calls kj114 a0_0 a0_1 a0_2 a0_3 a1_0 a1_1 false _ A124.out).mono ?_); rintro e w156 ⟨rfl, hb⟩; refine ⟨_, rfl, ?_⟩; replace BK243 := mB BK243 hb; replace BK244 := mB BK244 hb; replace HB := sB2 HB hb GE243 GE244; (try clear hb); have hcz157_0 := bC BK243 0 (.int .i64 a0_0); have hcz157_1 := bC BK243 1 (.int .i64 a0_1); have hcz157_2 := bC BK243 2 (.int .i64 a0_2); have hcz157_3 := bC BK243 3 (.int .i64 a0_3); have hfz157_0 := blk_frozen BK243.out 0; have hfz157_1 := blk_frozen BK243.out 1; have hfz157_2 := blk_frozen BK243.out 2; have hfz157_3 := blk_frozen BK243.out 3; have hcz158_0 := bC BK244 0 (.int .i64 a1_0); have hcz158_1 := bC BK244 1 (.int .i64 a1_1); have hcz158_2 := bC BK244 2 (.int .i64 a1_2); have hcz158_3 := bC BK244 3 (.int .i64 a1_3); have hfz158_0 := blk_frozen BK244.out 0; have hfz158_1 := blk_frozen BK244.out 1; have hfz158_2 := blk_frozen BK244.out 2; have hfz158_3 := blk_frozen BK244.out 3) | (go_at_call 10; (with_reducible refine (impl_IsOn.calls kj114 a0_0 a0_1 a0_2 a0_3 a1_2 a1_3 false _ A130.out).mono ?_); rintro e w159 ⟨rfl, hb⟩; replace BK243 := mB BK243 hb; replace BK244 := mB BK244 hb; replace HB := sB2 HB hb GE243 GE244; (try clear hb); have hcz160_0 := bC BK244 0 (.int .i64 a1_0); have hcz160_1 := bC BK244 1 (.int .i64 a1_1); have hcz160_2 := bC BK244 2 (.int .i64 a1_2); have hcz160_3 := bC BK244 3 (.int .i64 a1_3); have hfz160_0 := blk_frozen BK244.out 0; have hfz160_1 := blk_frozen BK244.out 1; have hfz160_2 := blk_frozen BK244.out 2; have hfz160_3 := blk_frozen BK244.out 3; have hcz161_0 := bC BK243 0 (.int .i64 a0_0); have hcz161_1 := bC BK243 1 (.int .i64 a0_1); have hcz161_2 := bC BK243 2 (.int .i64 a0_2); have hcz161_3 := bC BK243 3 (.int .i64 a0_3); have hfz161_0 := blk_frozen BK243.out 0; have hfz161_1 := blk_frozen BK243.out 1; have hfz161_2 := blk_frozen BK243.out 2; have hfz161_3 := blk_frozen BK243.out 3) | (go_at_call 10; (with_reducible refine (impl_IsOn.calls kj114 a1_0 a1_1 a1_2 a1_3 a0_0 a0_1 false _ A139.out).mono ?_); rintro e w162 ⟨rfl, hb⟩; replace BK243 := mB BK243 hb; replace BK244 := mB BK244 hb; replace HB := sB2 HB hb GE243 GE244; (try clear hb); have hcz163_0 := bC BK244 0 (.int .i64 a1_0); have hcz163_1 := bC BK244 1 (.int .i64 a1_1); have hcz163_2 := bC BK244 2 (.int .i64 a1_2); have hcz163_3 := bC BK244 3 (.int .i64 a1_3); have hfz163_0 := blk_frozen BK244.out 0; have hfz163_1 := blk_frozen BK244.out 1; have hfz163_2 := blk_frozen BK244.out 2; have hfz163_3 := blk_frozen BK244.out 3; have hcz164_0 := bC BK243 0 (.int .i64 a0_0); have hcz164_1 := bC BK243 1 (.int .i64 a0_1); have hcz164_2 := bC BK243 2 (.int .i64 a0_2); have hcz164_3 := bC BK243 3 (.int .i64 a0_3); have hfz164_0 := blk_frozen BK243.out 0; have hfz164_1 := blk_frozen BK243.out 1; have hfz164_2 := blk_frozen BK243.out 2; have hfz164_3 := blk_frozen BK243.out 3) | (go_at_call 10; (with_reducible refine (impl_IsOn.calls kj114 a1_0 a1_1 a1_2 a1_3 a0_2 a0_3 true _ A151.out).mono ?_); rintro e w165 ⟨rfl, hb⟩; replace BK243 := mB BK243 hb; replace BK244 := mB BK244 hb; replace HB := sB2 HB hb GE243 GE244; (try clear hb)))
              go_ret
              exact ⟨by first | rfl | (simp [errW_none, errW_some] <;> rfl) | (simp [*, errW_none, errW_some] <;> rfl), eB2 HB GE243 GE244⟩
             ·replace c152 := Bool.eq_false_iff.mpr c152
              subst c152
              have H1 : (some 0) = some r := by rw [if_neg (show ¬ (false = true) by decide)] at H; exact H
              clear H
              have H := H1
              clear H1
              obtain rfl := Option.some.inj H
              have hnb166 := NB243_244.out
              have hnc166 := NB244_243.out
              have hcz167_0 := bC BK243 0 (.int .i64 a0_0)
              have hcz167_1 := bC BK243 1 (.int .i64 a0_1)
              have hcz167_2 := bC BK243 2 (.int .i64 a0_2)
              have hcz167_3 := bC BK243 3 (.int .i64 a0_3)
              have hfz167_0 := blk_frozen BK243.out 0
              have hfz167_1 := blk_frozen BK243.out 1
              have hfz167_2 := blk_frozen BK243.out 2
              have hfz167_3 := blk_frozen BK243.out 3
              have hcz168_0 := bC BK244 0 (.int .i64 a1_0)
              have hcz168_1 := bC BK244 1 (.int .i64 a1_1)
              have hcz168_2 := bC BK244 2 (.int .i64 a1_2)
              have hcz168_3 := bC BK244 3 (.int .i64 a1_3)
              have hfz168_0 := blk_frozen BK244.out 0
              have hfz168_1 := blk_frozen BK244.out 1
              have hfz168_2 := blk_frozen BK244.out 2
              have hfz168_3 := blk_frozen BK244.out 3
              go_wp2_with (first | ((with_reducible refine gate_callee (f := 10) rfl ?_); refine gL (some 90) Try.func10 #[.agg #[.int .i64 a0_0, .int .i64 a0_1, .int .i64 a0_2, .int .i64 a0_3], .agg #[.int .i64 a1_0, .int .i64 a1_1]] ?_; (with_reducible refine (impl_IsOn.calls kj114 a0_0 a0_1 a0_2 a0_3 a1_0 a1_1 false _ A124.out).mono ?_); rintro e w169 ⟨rfl, hb⟩; refine ⟨_, rfl, ?_⟩; replace BK243 := mB BK243 hb; replace BK244 := mB BK244 hb; replace HB := sB2 HB hb GE243 GE244; (try clear hb); have hcz170_0 := bC BK243 0 (.int .i64 a0_0); have hcz170_1 := bC BK243 1 (.int .i64 a0_1); have hcz170_2 := bC BK243 2 (.int .i64 a0_2); have hcz170_3 := bC BK243 3 (.int .i64 a0_3); have hfz170_0 := blk_frozen BK243.out 0; have hfz170_1 := blk_frozen BK243.out 1; have hfz170_2 := blk_frozen BK243.out 2; have hfz170_3 := blk_frozen BK243.out 3; have hcz171_0 := bC BK244 0 (.int .i64 a1_0); have hcz171_1 := bC BK244 1 (.int .i64 a1_1); have hcz171_2 := bC BK244 2 (.int .i64 a1_2); have hcz171_3 := bC BK244 3 (.int .i64 a1_3); have hfz171_0 := blk_frozen BK244.out 0; have hfz171_1 := blk_frozen BK244.out 1; have hfz171_2 := blk_frozen BK244.out 2; have hfz171_3 := blk_frozen BK244.out 3) | (go_at_call 10; (with_reducible refine (impl_IsOn.calls kj114 a0_0 a0_1 a0_2 a0_3 a1_2 a1_3 false _ A130.out).mono ?_); rintro e w172 ⟨rfl, hb⟩; replace BK243 := mB BK243 hb; replace BK244 := mB BK244 hb; replace HB := sB2 HB hb GE243 GE244; (try clear hb); have hcz173_0 := bC BK244 0 (.int .i64 a1_0); have hcz173_1 := bC BK244 1 (.int .i64 a1_1); have hcz173_2 := bC BK244 2 (.int .i64 a1_2); have hcz173_3 := bC BK244 3 (.int .i64 a1_3); have hfz173_0 := blk_frozen BK244.out 0; have hfz173_1 := blk_frozen BK244.out 1; have hfz173_2 := blk_frozen BK244.out 2; have hfz173_3 := blk_frozen BK244.out 3; have hcz174_0 := bC BK243 0 (.int .i64 a0_0); have hcz174_1 := bC BK243 1 (.int .i64 a0_1); have hcz174_2 := bC BK243 2 (.int .i64 a0_2); have hcz174_3 := bC BK243 3 (.int .i64 a0_3); have hfz174_0 := blk_frozen BK243.out 0; have hfz174_1 := blk_frozen BK243.out 1; have hfz174_2 := blk_frozen BK243.out 2; have hfz174_3 := blk_frozen BK243.out 3) | (go_at_call 10; (with_reducible refine (impl_IsOn.calls kj114 a1_0 a1_1 a1_2 a1_3 a0_0 a0_1 false _ A139.out).mono ?_); rintro e w175 ⟨rfl, hb⟩; replace BK243 := mB BK243 hb; replace BK244 := mB BK244 hb; replace HB := sB2 HB hb GE243 GE244; (try clear hb); have hcz176_0 := bC BK244 0 (.int .i64 a1_0); have hcz176_1 := bC BK244 1 (.int .i64 a1_1); have hcz176_2 := bC BK244 2 (.int .i64 a1_2); have hcz176_3 := bC BK244 3 (.int .i64 a1_3); have hfz176_0 := blk_frozen BK244.out 0; have hfz176_1 := blk_frozen BK244.out 1; have hfz176_2 := blk_frozen BK244.out 2; have hfz176_3 := blk_frozen BK244.out 3; have hcz177_0 := bC BK243 0 (.int .i64 a0_0); have hcz177_1 := bC BK243 1 (.int .i64 a0_1); have hcz177_2 := bC BK243 2 (.int .i64 a0_2); have hcz177_3 := bC BK243 3 (.int .i64 a0_3); have hfz177_0 := blk_frozen BK243.out 0; have hfz177_1 := blk_frozen BK243.out 1; have hfz177_2 := blk_frozen BK243.out 2; have hfz177_3 := blk_frozen BK243.out 3) | (go_at_call 10; (with_reducible refine (impl_IsOn.calls kj114 a1_0 a1_1 a1_2 a1_3 a0_2 a0_3 false _ A151.out).mono ?_); rintro e w178 ⟨rfl, hb⟩; replace BK243 := mB BK243 hb; replace BK244 := mB BK244 hb; replace HB := sB2 HB hb GE243 GE244; (try clear hb)))
              go_ret
              exact ⟨by first | rfl | (simp [errW_none, errW_some] <;> rfl) | (simp [*, errW_none, errW_some] <;> rfl), eB2 HB GE243 GE244⟩

end Go.Proofs.Ytokhmgfjgpcmdaa.PFnSegments
