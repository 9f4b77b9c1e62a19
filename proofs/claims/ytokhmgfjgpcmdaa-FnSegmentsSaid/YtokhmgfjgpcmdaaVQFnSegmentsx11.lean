/- What the functions of FnSegments compute, each with its proof: this session's own text. -/
import Derived.Test.YtokhmgfjgpcmdaaVQFnSegmentsx0
import Derived.Test.YtokhmgfjgpcmdaaVQFnSegmentsx7
import Derived.Test.YtokhmgfjgpcmdaaVQFnSegmentsx9
import Derived.Test.YtokhmgfjgpcmdaaVQFnSegmentsx10
namespace Go.Proofs.Ytokhmgfjgpcmdaa.PFnSegments
open Go.RowKit Go.Proofs.YtokhmgfjgpcmdaaW.PrintWords Go.Proofs.YtokhmgfjgpcmdaaW.PrintLast Go.Proofs.YtokhmgfjgpcmdaaW.PrintMore Go.Proofs.Ytokhmgfjgpcmdaa.Sh
attribute [local go_sem] max2_int min2_int max_two min_two max_three min_three max_four min_four   -- for this text's walks alone
set_option linter.unusedVariables false
set_option linter.unusedSimpArgs false

/-! ### spec_HowMeet: function 7 -/
mutual
def spec_HowMeet.j0 : Nat → Bool → Int → Int → Int → Int → Int → Int → Int → Int → Option (Int)
 | 0, _, _, _, _, _, _, _, _, _ => none
 | k + 1, x12, x316000, x316001, x316002, x316003, x317000, x317001, x317002, x317003 => if x12 = true then (some 0) else ((spec_Max.f x316000 x316002).bind fun t319 => ((spec_Min.f x317000 x317002).bind fun t320 => (if t319 < t320 then (spec_HowMeet.j1 k true x316000 x316001 x316002 x316003 x317000 x317001 x317002 x317003) else ((spec_Max.f x317000 x317002).bind fun t321 => ((spec_Min.f x316000 x316002).bind fun t322 => (if t321 < t322 then (spec_HowMeet.j1 k true x316000 x316001 x316002 x316003 x317000 x317001 x317002 x317003) else ((spec_Max.f x316001 x316003).bind fun t323 => ((spec_Min.f x317001 x317003).bind fun t324 => (if t323 < t324 then (spec_HowMeet.j1 k true x316000 x316001 x316002 x316003 x317000 x317001 x317002 x317003) else ((spec_Max.f x317001 x317003).bind fun t325 => ((spec_Min.f x316001 x316003).bind fun t326 => (spec_HowMeet.j1 k (decide (t325 < t326)) x316000 x316001 x316002 x316003 x317000 x317001 x317002 x317003))))))))))))
def spec_HowMeet.j1 : Nat → Bool → Int → Int → Int → Int → Int → Int → Int → Int → Option (Int)
 | 0, _, _, _, _, _, _, _, _, _ => none
 | k + 1, x78, x316000, x316001, x316002, x316003, x317000, x317001, x317002, x317003 => if x78 = true then (some 0) else ((spec_l5Shared.f k x316000 x316001 x316002 x316003 x317000 x317001 x317002 x317003).bind fun t327 => (if t327 = 0 then ((spec_SideOf.f k x316000 x316001 x316002 x316003 x317000 x317001).bind fun t328 => ((spec_SideOf.f k x316000 x316001 x316002 x316003 x317002 x317003).bind fun t329 => (if (wrap64 (t328 * t329)) < 0 then ((spec_SideOf.f k x317000 x317001 x317002 x317003 x316000 x316001).bind fun t330 => ((spec_SideOf.f k x317000 x317001 x317002 x317003 x316002 x316003).bind fun t331 => (if (wrap64 (t330 * t331)) < 0 then (some 2) else (some 0)))) else (some 0)))) else (if t327 = 1 then (some 1) else (some 3))))
end
def spec_HowMeet.f (k : Nat) (a0_0 : Int) (a0_1 : Int) (a0_2 : Int) (a0_3 : Int) (a1_0 : Int) (a1_1 : Int) (a1_2 : Int) (a1_3 : Int) : Option (Int) := (spec_IsSegment.f a0_0 a0_1 a0_2 a0_3).bind fun t317 => (if t317 = true then ((spec_IsSegment.f a1_0 a1_1 a1_2 a1_3).bind fun t318 => (spec_HowMeet.j0 k (!t318) a0_0 a0_1 a0_2 a0_3 a1_0 a1_1 a1_2 a1_3)) else (spec_HowMeet.j0 k true a0_0 a0_1 a0_2 a0_3 a1_0 a1_1 a1_2 a1_3))
theorem spec_HowMeet.mono_l : ∀ k, (∀ y0 y1 y2 y3 y4 y5 y6 y7 y8, LeO (spec_HowMeet.j0 k y0 y1 y2 y3 y4 y5 y6 y7 y8) (spec_HowMeet.j0 (k + 1) y0 y1 y2 y3 y4 y5 y6 y7 y8)) ∧ (∀ y0 y1 y2 y3 y4 y5 y6 y7 y8, LeO (spec_HowMeet.j1 k y0 y1 y2 y3 y4 y5 y6 y7 y8) (spec_HowMeet.j1 (k + 1) y0 y1 y2 y3 y4 y5 y6 y7 y8))
 | 0 => ⟨fun _ _ _ _ _ _ _ _ _ r h => by simp [spec_HowMeet.j0] at h, fun _ _ _ _ _ _ _ _ _ r h => by simp [spec_HowMeet.j1] at h⟩
 | k + 1 => by
  obtain ⟨ih0, ih1⟩ := spec_HowMeet.mono_l k
  refine ⟨?_, ?_⟩
  ·intro y0 y1 y2 y3 y4 y5 y6 y7 y8
   unfold spec_HowMeet.j0
   repeat' first
   | (with_reducible exact ih0 _ _ _ _ _ _ _ _ _)
   | (with_reducible exact ih1 _ _ _ _ _ _ _ _ _)
   | (with_reducible exact spec_SideOf.mono _ _ _ _ _ _ _)
   | (with_reducible exact spec_l5Shared.mono _ _ _ _ _ _ _ _ _)
   | (with_reducible exact LeO.refl _)
   | (with_reducible exact LeO.none _)
   | (with_reducible refine LeO.ite ?_ ?_)
   | (with_reducible refine LeO.bind ?_ (fun _ => ?_))
   | exact ih0 _ _ _ _ _ _ _ _ _
   | exact ih1 _ _ _ _ _ _ _ _ _
   | exact spec_SideOf.mono _ _ _ _ _ _ _
   | exact spec_l5Shared.mono _ _ _ _ _ _ _ _ _
   | exact LeO.none _
   | refine LeO.ite ?_ ?_
   | refine LeO.bind ?_ (fun _ => ?_)
  ·intro y0 y1 y2 y3 y4 y5 y6 y7 y8
   unfold spec_HowMeet.j1
   repeat' first
   | (with_reducible exact ih0 _ _ _ _ _ _ _ _ _)
   | (with_reducible exact ih1 _ _ _ _ _ _ _ _ _)
   | (with_reducible exact spec_SideOf.mono _ _ _ _ _ _ _)
   | (with_reducible exact spec_l5Shared.mono _ _ _ _ _ _ _ _ _)
   | (with_reducible exact LeO.refl _)
   | (with_reducible exact LeO.none _)
   | (with_reducible refine LeO.ite ?_ ?_)
   | (with_reducible refine LeO.bind ?_ (fun _ => ?_))
   | exact ih0 _ _ _ _ _ _ _ _ _
   | exact ih1 _ _ _ _ _ _ _ _ _
   | exact spec_SideOf.mono _ _ _ _ _ _ _
   | exact spec_l5Shared.mono _ _ _ _ _ _ _ _ _
   | exact LeO.none _
   | refine LeO.ite ?_ ?_
   | refine LeO.bind ?_ (fun _ => ?_)
theorem spec_HowMeet.mono : ∀ a0 a1 a2 a3 a4 a5 a6 a7 k, LeO (spec_HowMeet.f k a0 a1 a2 a3 a4 a5 a6 a7) (spec_HowMeet.f (k + 1) a0 a1 a2 a3 a4 a5 a6 a7) := by
 intro a0 a1 a2 a3 a4 a5 a6 a7 k
 obtain ⟨ih0, ih1⟩ := spec_HowMeet.mono_l k
 unfold spec_HowMeet.f
 repeat' first
   | (with_reducible exact ih0 _ _ _ _ _ _ _ _ _)
   | (with_reducible exact ih1 _ _ _ _ _ _ _ _ _)
   | (with_reducible exact spec_SideOf.mono _ _ _ _ _ _ _)
   | (with_reducible exact spec_l5Shared.mono _ _ _ _ _ _ _ _ _)
   | (with_reducible exact LeO.refl _)
   | (with_reducible exact LeO.none _)
   | (with_reducible refine LeO.ite ?_ ?_)
   | (with_reducible refine LeO.bind ?_ (fun _ => ?_))
   | exact ih0 _ _ _ _ _ _ _ _ _
   | exact ih1 _ _ _ _ _ _ _ _ _
   | exact spec_SideOf.mono _ _ _ _ _ _ _
   | exact spec_l5Shared.mono _ _ _ _ _ _ _ _ _
   | exact LeO.none _
   | refine LeO.ite ?_ ?_
   | refine LeO.bind ?_ (fun _ => ?_)
def spec_HowMeet.T3 : Bool × List (List Nat × List Nat) := (true, [([], []), ([0], [0]), ([1], [1]), ([], []), ([3], [3]), ([4], [4]), ([2, 5], [2, 5]), ([], []), ([7], [7]), ([8], [8]), ([], []), ([10], [10]), ([11], [11]), ([9, 12, 6], [9, 12]), ([6, 13], [6, 13]), ([14, 13], [14]), ([15], [15]), ([16, 15], [15, 16]), ([17, 15], [15, 17]), ([15], [15]), ([19, 15], [15, 19]), ([20, 15], [15, 20]), ([18, 21, 15, 15], [15, 18, 21]), ([15], [15]), ([23, 15], [15, 23]), ([24, 15], [15, 24]), ([15], [15]), ([26, 15], [15, 26]), ([27, 15], [15, 27]), ([25, 28, 22, 15], [15, 25, 28]), ([22, 29, 15], [15, 22, 29]), ([15, 30], [15, 30]), ([31, 29], [31]), ([32], [32]), ([33, 32], [32, 33]), ([34, 32], [32, 34]), ([32], [32]), ([36, 32], [32, 36]), ([37, 32], [32, 37]), ([35, 38, 32, 32], [32, 35, 38]), ([32], [32]), ([40, 32], [32, 40]), ([41, 32], [32, 41]), ([32], [32]), ([43, 32], [32, 43]), ([44, 32], [32, 44]), ([42, 45, 39, 32], [32, 42, 45]), ([39, 46, 32], [32, 39, 46]), ([32, 47], [32, 47]), ([48, 46], [48]), ([49], [49]), ([50, 49], [49, 50]), ([51, 49], [49, 51]), ([49], [49]), ([53, 49], [49, 53]), ([54, 49], [49, 54]), ([52, 55, 49, 49], [49, 52, 55]), ([49], [49]), ([57, 49], [49, 57]), ([58, 49], [49, 58]), ([49], [49]), ([60, 49], [49, 60]), ([61, 49], [49, 61]), ([59, 62, 56, 49], [49, 59, 62]), ([56, 63, 49], [49, 56, 63]), ([49, 64], [49, 64])])
def spec_HowMeet.B3 : List Nat := [0, 1, 3, 0, 8, 24, 63, 0, 128, 384, 0, 1024, 3072, 8191, 16383, 32767, 65535, 131071, 262143, 65535, 589823, 1638399, 4194303, 65535, 8454143, 25231359, 65535, 67174399, 201392127, 536870911, 1073741823, 2147483647, 4294967295, 8589934591, 17179869183, 34359738367, 8589934591, 77309411327, 214748364799, 549755813887, 8589934591, 1108101562367, 3307124817919, 8589934591, 8804682956799, 26396869001215, 70368744177663, 140737488355327, 281474976710655, 562949953421311, 1125899906842623, 2251799813685247, 4503599627370495, 1125899906842623, 10133099161583615, 28147497671065599, 72057594037927935, 1125899906842623, 145241087982698495, 433471464134410239, 1125899906842623, 1154047404513689599, 3459890413727383551, 9223372036854775807, 18446744073709551615, 36893488147419103231]
theorem spec_HowMeet.tab3 : rtab .any (opsOf Try.f7 3) = spec_HowMeet.T3 := by kernel_rfl
theorem spec_HowMeet.bits3 : waitsOk spec_HowMeet.T3.2 spec_HowMeet.B3 = true := by kernel_rfl
def spec_HowMeet.T7 : Bool × List (List Nat × List Nat) := (true, [([], []), ([0], [0]), ([], []), ([2], [2]), ([], []), ([4], [4]), ([1, 3, 5], [1, 3, 5]), ([], []), ([7], [7]), ([], []), ([9], [9]), ([], []), ([11], [11]), ([8, 10, 12, 6], [8, 10, 12]), ([6, 13], [6, 13]), ([14], [14]), ([15, 13], [15]), ([16], [16]), ([17, 16], [16, 17]), ([16], [16]), ([19, 16], [16, 19]), ([16], [16]), ([21, 16], [16, 21]), ([18, 20, 22, 16, 16], [16, 18, 20, 22]), ([16], [16]), ([24, 16], [16, 24]), ([16], [16]), ([26, 16], [16, 26]), ([16], [16]), ([28, 16], [16, 28]), ([25, 27, 29, 23, 16], [16, 25, 27, 29]), ([23, 30, 16], [16, 23, 30]), ([31, 16], [16, 31]), ([16, 32], [16, 32])])
def spec_HowMeet.B7 : List Nat := [0, 1, 0, 4, 0, 16, 63, 0, 128, 0, 512, 0, 2048, 8191, 16383, 32767, 65535, 131071, 262143, 131071, 655359, 131071, 2228223, 8388607, 131071, 16908287, 131071, 67239935, 131071, 268566527, 1073741823, 2147483647, 4294967295, 8589934591]
theorem spec_HowMeet.tab7 : rtab .any (opsOf Try.f7 7) = spec_HowMeet.T7 := by kernel_rfl
theorem spec_HowMeet.bits7 : waitsOk spec_HowMeet.T7.2 spec_HowMeet.B7 = true := by kernel_rfl
set_option maxHeartbeats 8000000 in
set_option maxRecDepth 100000 in
theorem spec_HowMeet.calls (k : Nat) (a0_0 : Int) (a0_1 : Int) (a0_2 : Int) (a0_3 : Int) (a1_0 : Int) (a1_1 : Int) (a1_2 : Int) (a1_3 : Int) (r : Int) (w : World) (h : spec_HowMeet.f k a0_0 a0_1 a0_2 a0_3 a1_0 a1_1 a1_2 a1_3 = some r) :
  Calls Try.prog 7 #[.agg #[.int .i64 a0_0, .int .i64 a0_1, .int .i64 a0_2, .int .i64 a0_3], .agg #[.int .i64 a1_0, .int .i64 a1_1, .int .i64 a1_2, .int .i64 a1_3]] w fun e w' => e = .returned (.int .i64 r) ∧ Below w.heap.size w w' := by
 have hu27 := Try.underlying27
 have hu25 := Try.underlying25
 have HB := Aside0.mk (Below.refl w.heap.size w)
 have H : ((spec_IsSegment.f a0_0 a0_1 a0_2 a0_3).bind fun t317 => (if t317 = true then ((spec_IsSegment.f a1_0 a1_1 a1_2 a1_3).bind fun t318 => (spec_HowMeet.j0 k (!t318) a0_0 a0_1 a0_2 a0_3 a1_0 a1_1 a1_2 a1_3)) else (spec_HowMeet.j0 k true a0_0 a0_1 a0_2 a0_3 a1_0 a1_1 a1_2 a1_3))) = some r := h
 clear h
 have HC3 := Aside0.mk H
 clear H
 go_enter Try.func7, Try.ntmps7
 go_upto_region 1 with (first | ((with_reducible refine gate_dst (N := 2) rfl ?_); refine box_event ?hg (N := 2) ?hd (cs := #[.int .i64 a0_0, .int .i64 a0_1, .int .i64 a0_2, .int .i64 a0_3]) (t := 27) ?hr ?_; (case hd => rfl); (case hg => rfl); (case hr => first | (go_simp; done) | (go_simp; rfl)); intro gb315 hg w4 hbox hb; have BK315 := Aside0.mk (hbox); have GW315 := zB0 HB hg; have GE315 := zB0 HB hg; replace HB := sB0 HB hb; clear hb hbox hg) | ((with_reducible refine gate_dst (N := 3) rfl ?_); refine box_event ?hg (N := 3) ?hd (cs := #[.int .i64 a1_0, .int .i64 a1_1, .int .i64 a1_2, .int .i64 a1_3]) (t := 27) ?hr ?_; (case hd => rfl); (case hg => rfl); (case hr => first | (go_simp; done) | (go_simp; rfl)); intro gb316 hg w5 hbox hb; have BK316 := Aside0.mk (hbox); have GW316 := zB1 HB hg GE315; have GE316 := zB1 HB hg GE315; have NB315_316 := nL BK315 hg; have NB316_315 := nG BK315 hg; replace BK315 := mB BK315 hb; replace HB := sB1 HB hb GE315; clear hb hbox hg))
 (try simp only [Act.put, List.setIfInBounds_toArray, List.set_cons_zero, List.set_cons_succ])
 go_cut [12] (fun v12 wc => ∃ (kq : Nat) (x12_2 : Bool), v12 = .bool x12_2 ∧ Aside0 (spec_HowMeet.j0 kq x12_2 a0_0 a0_1 a0_2 a0_3 a1_0 a1_1 a1_2 a1_3 = some r) ∧ Aside0 (kq ≤ k) ∧ Aside0 (wc.heap[gb315]? = some (.cells #[.int .i64 a0_0, .int .i64 a0_1, .int .i64 a0_2, .int .i64 a0_3] 27 (0, 0))) ∧ Aside0 (wc.heap[gb316]? = some (.cells #[.int .i64 a1_0, .int .i64 a1_1, .int .i64 a1_2, .int .i64 a1_3] 27 (0, 0))) ∧ Aside0 (Below w.heap.size w wc))
 case first =>
  have H := HC3.out
  clear HC3
  replace H := Option.bind_eq_some_iff.mp H
  obtain ⟨t317, A60, H⟩ := H
  replace H : (if t317 = true then ((spec_IsSegment.f a1_0 a1_1 a1_2 a1_3).bind fun t318 => (spec_HowMeet.j0 k (!t318) a0_0 a0_1 a0_2 a0_3 a1_0 a1_1 a1_2 a1_3)) else (spec_HowMeet.j0 k true a0_0 a0_1 a0_2 a0_3 a1_0 a1_1 a1_2 a1_3)) = some r := H
  have A6 := Aside0.mk A60
  clear A60
  by_cases c7 : t317 = true
  ·subst c7
   have H1 : ((spec_IsSegment.f a1_0 a1_1 a1_2 a1_3).bind fun t318 => (spec_HowMeet.j0 k (!t318) a0_0 a0_1 a0_2 a0_3 a1_0 a1_1 a1_2 a1_3)) = some r := by rw [if_pos rfl] at H; exact H
   clear H
   have H := H1
   clear H1
   replace H := Option.bind_eq_some_iff.mp H
   obtain ⟨t318, A80, H⟩ := H
   replace H : (spec_HowMeet.j0 k (!t318) a0_0 a0_1 a0_2 a0_3 a1_0 a1_1 a1_2 a1_3) = some r := H
   have A8 := Aside0.mk A80
   clear A80
   have H' := Aside0.mk H
   clear H
   have hnb9 := NB315_316.out
   have hnc9 := NB316_315.out
   have hcz10_0 := bC BK315 0 (.int .i64 a0_0)
   have hcz10_1 := bC BK315 1 (.int .i64 a0_1)
   have hcz10_2 := bC BK315 2 (.int .i64 a0_2)
   have hcz10_3 := bC BK315 3 (.int .i64 a0_3)
   have hfz10_0 := blk_frozen BK315.out 0
   have hfz10_1 := blk_frozen BK315.out 1
   have hfz10_2 := blk_frozen BK315.out 2
   have hfz10_3 := blk_frozen BK315.out 3
   go_wp2_with (first | ((with_reducible refine gate_callee (f := 19) rfl ?_); refine gL (some 6) Try.func19 #[.agg #[.int .i64 a0_0, .int .i64 a0_1, .int .i64 a0_2, .int .i64 a0_3]] ?_; (with_reducible refine (spec_IsSegment.calls a0_0 a0_1 a0_2 a0_3 true _ A6.out).mono ?_); rintro e w11 ⟨rfl, hb⟩; refine ⟨_, rfl, ?_⟩; replace BK315 := mB BK315 hb; replace BK316 := mB BK316 hb; replace HB := sB2 HB hb GE315 GE316; (try clear hb); have hcz12_0 := bC BK316 0 (.int .i64 a1_0); have hcz12_1 := bC BK316 1 (.int .i64 a1_1); have hcz12_2 := bC BK316 2 (.int .i64 a1_2); have hcz12_3 := bC BK316 3 (.int .i64 a1_3); have hfz12_0 := blk_frozen BK316.out 0; have hfz12_1 := blk_frozen BK316.out 1; have hfz12_2 := blk_frozen BK316.out 2; have hfz12_3 := blk_frozen BK316.out 3) | (go_at_call 19; (with_reducible refine (spec_IsSegment.calls a1_0 a1_1 a1_2 a1_3 t318 _ A8.out).mono ?_); rintro e w13 ⟨rfl, hb⟩; replace BK315 := mB BK315 hb; replace BK316 := mB BK316 hb; replace HB := sB2 HB hb GE315 GE316; (try clear hb)))
   go_meet
   case rel => exact ⟨_, (!t318), (by first | rfl | (simp; done) | (simp [*]; done)), H', ⟨by first | omega | exact Nat.le_refl _⟩, ⟨by (with_reducible repeat (first | refine blk_drewN ?_ _ | refine blk_drew ?_ | refine blk_alloc ?_ _)); exact BK315.out⟩, ⟨by (with_reducible repeat (first | refine blk_drewN ?_ _ | refine blk_drew ?_ | refine blk_alloc ?_ _)); exact BK316.out⟩, ⟨eB2 HB GE315 GE316⟩⟩
  ·replace c7 := Bool.eq_false_iff.mpr c7
   subst c7
   have H1 : (spec_HowMeet.j0 k true a0_0 a0_1 a0_2 a0_3 a1_0 a1_1 a1_2 a1_3) = some r := by rw [if_neg (show ¬ (false = true) by decide)] at H; exact H
   clear H
   have H := H1
   clear H1
   have H' := Aside0.mk H
   clear H
   have hnb14 := NB315_316.out
   have hnc14 := NB316_315.out
   have hcz15_0 := bC BK315 0 (.int .i64 a0_0)
   have hcz15_1 := bC BK315 1 (.int .i64 a0_1)
   have hcz15_2 := bC BK315 2 (.int .i64 a0_2)
   have hcz15_3 := bC BK315 3 (.int .i64 a0_3)
   have hfz15_0 := blk_frozen BK315.out 0
   have hfz15_1 := blk_frozen BK315.out 1
   have hfz15_2 := blk_frozen BK315.out 2
   have hfz15_3 := blk_frozen BK315.out 3
   go_wp2_with (first | ((with_reducible refine gate_callee (f := 19) rfl ?_); refine gL (some 6) Try.func19 #[.agg #[.int .i64 a0_0, .int .i64 a0_1, .int .i64 a0_2, .int .i64 a0_3]] ?_; (with_reducible refine (spec_IsSegment.calls a0_0 a0_1 a0_2 a0_3 false _ A6.out).mono ?_); rintro e w16 ⟨rfl, hb⟩; refine ⟨_, rfl, ?_⟩; replace BK315 := mB BK315 hb; replace BK316 := mB BK316 hb; replace HB := sB2 HB hb GE315 GE316; (try clear hb)))
   go_meet
   case rel => exact ⟨_, (true), (by first | rfl | (simp; done) | (simp [*]; done)), H', ⟨by first | omega | exact Nat.le_refl _⟩, ⟨by (with_reducible repeat (first | refine blk_drewN ?_ _ | refine blk_drew ?_ | refine blk_alloc ?_ _)); exact BK315.out⟩, ⟨by (with_reducible repeat (first | refine blk_drewN ?_ _ | refine blk_drew ?_ | refine blk_alloc ?_ _)); exact BK316.out⟩, ⟨eB2 HB GE315 GE316⟩⟩
 case rest =>
  clear HC3
  try clear c1
  try clear p2
  try clear c7
  try clear c9
  try clear c14
  obtain ⟨kq, x12_2, rfl, HA, HJ2, BK315, BK316, HB⟩ := hcut
  cases kq with
  | zero => exact absurd HA.out (by simp [spec_HowMeet.j0])
  | succ kj2 =>
   have H := HA.out
   clear HA
   simp only [spec_HowMeet.j0] at H
   by_cases c17 : x12_2 = true
   ·subst c17
    have H1 : (some 0) = some r := by rw [if_pos rfl] at H; exact H
    clear H
    have H := H1
    clear H1
    obtain rfl := Option.some.inj H
    go_wp2
    go_ret
    exact ⟨by first | rfl | (simp [errW_none, errW_some] <;> rfl) | (simp [*, errW_none, errW_some] <;> rfl), eB2 HB GE315 GE316⟩
   ·replace c17 := Bool.eq_false_iff.mpr c17
    subst c17
    have H1 : ((spec_Max.f a0_0 a0_2).bind fun t319 => ((spec_Min.f a1_0 a1_2).bind fun t320 => (if t319 < t320 then (spec_HowMeet.j1 kj2 true a0_0 a0_1 a0_2 a0_3 a1_0 a1_1 a1_2 a1_3) else ((spec_Max.f a1_0 a1_2).bind fun t321 => ((spec_Min.f a0_0 a0_2).bind fun t322 => (if t321 < t322 then (spec_HowMeet.j1 kj2 true a0_0 a0_1 a0_2 a0_3 a1_0 a1_1 a1_2 a1_3) else ((spec_Max.f a0_1 a0_3).bind fun t323 => ((spec_Min.f a1_1 a1_3).bind fun t324 => (if t323 < t324 then (spec_HowMeet.j1 kj2 true a0_0 a0_1 a0_2 a0_3 a1_0 a1_1 a1_2 a1_3) else ((spec_Max.f a1_1 a1_3).bind fun t325 => ((spec_Min.f a0_1 a0_3).bind fun t326 => (spec_HowMeet.j1 kj2 (decide (t325 < t326)) a0_0 a0_1 a0_2 a0_3 a1_0 a1_1 a1_2 a1_3)))))))))))) = some r := by rw [if_neg (show ¬ (false = true) by decide)] at H; exact H
    clear H
    have H := H1
    clear H1
    have HC18 := Aside0.mk H
    clear H
    go_upto_region 3 with (fail)
    go_cut [78] (fun v78 wc => ∃ (kq : Nat) (x78_17 : Bool), v78 = .bool x78_17 ∧ Aside0 (spec_HowMeet.j1 kq x78_17 a0_0 a0_1 a0_2 a0_3 a1_0 a1_1 a1_2 a1_3 = some r) ∧ Aside0 (kq ≤ kj2) ∧ Aside0 (wc.heap[gb315]? = some (.cells #[.int .i64 a0_0, .int .i64 a0_1, .int .i64 a0_2, .int .i64 a0_3] 27 (0, 0))) ∧ Aside0 (wc.heap[gb316]? = some (.cells #[.int .i64 a1_0, .int .i64 a1_1, .int .i64 a1_2, .int .i64 a1_3] 27 (0, 0))) ∧ Aside0 (Below w.heap.size w wc))
    case first =>
     have H := HC18.out
     clear HC18
     replace H := Option.bind_eq_some_iff.mp H
     obtain ⟨t319, A190, H⟩ := H
     replace H : ((spec_Min.f a1_0 a1_2).bind fun t320 => (if t319 < t320 then (spec_HowMeet.j1 kj2 true a0_0 a0_1 a0_2 a0_3 a1_0 a1_1 a1_2 a1_3) else ((spec_Max.f a1_0 a1_2).bind fun t321 => ((spec_Min.f a0_0 a0_2).bind fun t322 => (if t321 < t322 then (spec_HowMeet.j1 kj2 true a0_0 a0_1 a0_2 a0_3 a1_0 a1_1 a1_2 a1_3) else ((spec_Max.f a0_1 a0_3).bind fun t323 => ((spec_Min.f a1_1 a1_3).bind fun t324 => (if t323 < t324 then (spec_HowMeet.j1 kj2 true a0_0 a0_1 a0_2 a0_3 a1_0 a1_1 a1_2 a1_3) else ((spec_Max.f a1_1 a1_3).bind fun t325 => ((spec_Min.f a0_1 a0_3).bind fun t326 => (spec_HowMeet.j1 kj2 (decide (t325 < t326)) a0_0 a0_1 a0_2 a0_3 a1_0 a1_1 a1_2 a1_3))))))))))) = some r := H
     have A19 := Aside0.mk A190
     clear A190
     replace H := Option.bind_eq_some_iff.mp H
     obtain ⟨t320, A200, H⟩ := H
     replace H : (if t319 < t320 then (spec_HowMeet.j1 kj2 true a0_0 a0_1 a0_2 a0_3 a1_0 a1_1 a1_2 a1_3) else ((spec_Max.f a1_0 a1_2).bind fun t321 => ((spec_Min.f a0_0 a0_2).bind fun t322 => (if t321 < t322 then (spec_HowMeet.j1 kj2 true a0_0 a0_1 a0_2 a0_3 a1_0 a1_1 a1_2 a1_3) else ((spec_Max.f a0_1 a0_3).bind fun t323 => ((spec_Min.f a1_1 a1_3).bind fun t324 => (if t323 < t324 then (spec_HowMeet.j1 kj2 true a0_0 a0_1 a0_2 a0_3 a1_0 a1_1 a1_2 a1_3) else ((spec_Max.f a1_1 a1_3).bind fun t325 => ((spec_Min.f a0_1 a0_3).bind fun t326 => (spec_HowMeet.j1 kj2 (decide (t325 < t326)) a0_0 a0_1 a0_2 a0_3 a1_0 a1_1 a1_2 a1_3)))))))))) = some r := H
     have A20 := Aside0.mk A200
     clear A200
     by_cases c21 : t319 < t320
     ·rw [if_pos c21] at H
      have c21b0 : decide (t319 < t320) = true := decide_eq_true c21
      clear c21
      (first | rw [c21b0] | (simp only [i64_w, i32_w]; rw [c21b0]) | skip)
      have H' := Aside0.mk H
      clear H
      try go_wp2
      replace BK315 := Aside0.mk (blk_drew BK315.out)
      replace BK316 := Aside0.mk (blk_drew BK316.out)
      replace HB := Aside0.mk (below_drew1 HB.out)
      refine start_ (n := 66) (S := fun w' => w'.cell? ⟨gb315, 0, none⟩ = some (.int .i64 a0_0) ∧ w'.cell? ⟨gb315, 1, none⟩ = some (.int .i64 a0_1) ∧ w'.cell? ⟨gb315, 2, none⟩ = some (.int .i64 a0_2) ∧ w'.cell? ⟨gb315, 3, none⟩ = some (.int .i64 a0_3) ∧ w'.cell? ⟨gb316, 0, none⟩ = some (.int .i64 a1_0) ∧ w'.cell? ⟨gb316, 1, none⟩ = some (.int .i64 a1_1) ∧ w'.cell? ⟨gb316, 2, none⟩ = some (.int .i64 a1_2) ∧ w'.cell? ⟨gb316, 3, none⟩ = some (.int .i64 a1_3)) (ds := []) #[false, false, false, false, false, false, false, false, false, false, false, false, false, false, false, false, false, false, false, false, false, false, false, false, false, false, false, false, false, false, false, false, false, false, false, false, false, false, false, false, false, false, false, false, false, false, false, false, false, false, false, false, false, false, false, false, false, false, false, false, false, false, false, false, false, false] (by kernel_rfl) rfl rfl ⟨(blk_cell BK315.out 0).trans rfl, (blk_cell BK315.out 1).trans rfl, (blk_cell BK315.out 2).trans rfl, (blk_cell BK315.out 3).trans rfl, (blk_cell BK316.out 0).trans rfl, (blk_cell BK316.out 1).trans rfl, (blk_cell BK316.out 2).trans rfl, (blk_cell BK316.out 3).trans rfl⟩ (fun hHeld => ?_); refine with_tabW spec_HowMeet.tab3 spec_HowMeet.bits3 (fun HT_ HW_ => ?_)
      generalize wc.drew = w22 at BK315 BK316 HB hHeld ⊢
      refine pA HT_.out 0 13 ?_
      refine pA HT_.out 1 14 ?_
      refine pA HT_.out 3 16 ?_
      refine pA HT_.out 4 17 ?_
      refine pA HT_.out 7 20 ?_
      refine pA HT_.out 8 21 ?_
      refine pA HT_.out 10 23 ?_
      refine pA HT_.out 11 24 ?_
      refine tA8 HT_.out HW_.out 2 15 hHeld ?_
      refine tA8 HT_.out HW_.out 5 18 hHeld ?_
      refine tA8 HT_.out HW_.out 9 22 hHeld ?_
      refine tA8 HT_.out HW_.out 12 25 hHeld ?_
      refine one_ (i := 6) (N := some 19) #[true, true, true, true, true, true, true, true, true, true, true, true, true, false, false, false, false, false, false, false, false, false, false, false, false, false, false, false, false, false, false, false, false, false, false, false, false, false, false, false, false, false, false, false, false, false, false, false, false, false, false, false, false, false, false, false, false, false, false, false, false, false, false, false, false, false] rfl rfl (one_of HT_.out (by kernel_rfl)) (by decide) (fun K hK => ?_)
      refine gS Try.func20 #[.int .i64 a0_0, .int .i64 a0_2] ?_
      with_reducible refine (spec_Max.calls a0_0 a0_2 t319 _ A19.out).mono ?_
      rintro e w' ⟨rfl, ⟨nd, rfl⟩⟩
      refine ⟨_, rfl, ?_⟩
      refine hK.out _ _ ⟨(blk_cell BK315.out 0).trans rfl, (blk_cell BK315.out 1).trans rfl, (blk_cell BK315.out 2).trans rfl, (blk_cell BK315.out 3).trans rfl, (blk_cell BK316.out 0).trans rfl, (blk_cell BK316.out 1).trans rfl, (blk_cell BK316.out 2).trans rfl, (blk_cell BK316.out 3).trans rfl⟩ (fun hHeld => ?_)
      clear hK K
      refine norm_ (a' := ?_) ?_ ?_
      rotate_left
      ·show Act.put _ (some 19) _ = _
       simp only [Act.put, List.setIfInBounds_toArray, List.set_cons_zero, List.set_cons_succ, i64_w, i32_w]
       rfl
      refine one_ (i := 13) (N := some 26) #[true, true, true, true, true, true, true, true, true, true, true, true, true, true, false, false, false, false, false, false, false, false, false, false, false, false, false, false, false, false, false, false, false, false, false, false, false, false, false, false, false, false, false, false, false, false, false, false, false, false, false, false, false, false, false, false, false, false, false, false, false, false, false, false, false, false] rfl rfl (one_of HT_.out (by kernel_rfl)) (by decide) (fun K hK => ?_)
      refine gS Try.func21 #[.int .i64 a1_0, .int .i64 a1_2] ?_
      with_reducible refine (spec_Min.calls a1_0 a1_2 t320 _ A20.out).mono ?_
      rintro e w' ⟨rfl, ⟨nd, rfl⟩⟩
      refine ⟨_, rfl, ?_⟩
      refine hK.out _ _ ⟨(blk_cell BK315.out 0).trans rfl, (blk_cell BK315.out 1).trans rfl, (blk_cell BK315.out 2).trans rfl, (blk_cell BK315.out 3).trans rfl, (blk_cell BK316.out 0).trans rfl, (blk_cell BK316.out 1).trans rfl, (blk_cell BK316.out 2).trans rfl, (blk_cell BK316.out 3).trans rfl⟩ (fun hHeld => ?_)
      clear hK K
      refine norm_ (a' := ?_) ?_ ?_
      rotate_left
      ·show Act.put _ (some 26) _ = _
       simp only [Act.put, List.setIfInBounds_toArray, List.set_cons_zero, List.set_cons_succ, i64_w, i32_w]
       rfl
      refine pA HT_.out 14 27 ?_
      refine pA HT_.out 15 28 ?_
      refine pU HT_.out 16 29 ?_
      refine pU HT_.out 17 30 ?_
      refine pU HT_.out 18 31 ?_
      refine pU HT_.out 19 32 ?_
      refine pU HT_.out 20 33 ?_
      refine pU HT_.out 21 34 ?_
      refine pU HT_.out 22 35 ?_
      refine pU HT_.out 23 36 ?_
      refine pU HT_.out 24 37 ?_
      refine pU HT_.out 25 38 ?_
      refine pU HT_.out 26 39 ?_
      refine pU HT_.out 27 40 ?_
      refine pU HT_.out 28 41 ?_
      refine pU HT_.out 29 42 ?_
      refine pU HT_.out 30 43 ?_
      refine pA HT_.out 31 44 ?_
      refine pA HT_.out 32 45 ?_
      refine pU HT_.out 33 46 ?_
      refine pU HT_.out 34 47 ?_
      refine pU HT_.out 35 48 ?_
      refine pU HT_.out 36 49 ?_
      refine pU HT_.out 37 50 ?_
      refine pU HT_.out 38 51 ?_
      refine pU HT_.out 39 52 ?_
      refine pU HT_.out 40 53 ?_
      refine pU HT_.out 41 54 ?_
      refine pU HT_.out 42 55 ?_
      refine pU HT_.out 43 56 ?_
      refine pU HT_.out 44 57 ?_
      refine pU HT_.out 45 58 ?_
      refine pU HT_.out 46 59 ?_
      refine pU HT_.out 47 60 ?_
      refine pA HT_.out 48 61 ?_
      refine pA HT_.out 49 62 ?_
      refine pU HT_.out 50 63 ?_
      refine pU HT_.out 51 64 ?_
      refine pU HT_.out 52 65 ?_
      refine pU HT_.out 53 66 ?_
      refine pU HT_.out 54 67 ?_
      refine pU HT_.out 55 68 ?_
      refine pU HT_.out 56 69 ?_
      refine pU HT_.out 57 70 ?_
      refine pU HT_.out 58 71 ?_
      refine pU HT_.out 59 72 ?_
      refine pU HT_.out 60 73 ?_
      refine pU HT_.out 61 74 ?_
      refine pU HT_.out 62 75 ?_
      refine pU HT_.out 63 76 ?_
      refine pU HT_.out 64 77 ?_
      refine pA HT_.out 65 78 ?_
      refine done_ (done_of HT_.out (by kernel_rfl)) ?_
      try go_wp2
      go_meet
      case rel => exact ⟨_, (true), (by first | rfl | (simp; done) | (simp [*]; done)), H', ⟨by have := HJ2.out; first | omega | exact Nat.le_refl _⟩, ⟨by (with_reducible repeat (first | refine blk_drewN ?_ _ | refine blk_drew ?_ | refine blk_alloc ?_ _)); exact BK315.out⟩, ⟨by (with_reducible repeat (first | refine blk_drewN ?_ _ | refine blk_drew ?_ | refine blk_alloc ?_ _)); exact BK316.out⟩, ⟨eB2 HB GE315 GE316⟩⟩
     ·rw [if_neg c21] at H
      have c21b0 : decide (t319 < t320) = false := decide_eq_false c21
      clear c21
      (first | rw [c21b0] | (simp only [i64_w, i32_w]; rw [c21b0]) | skip)
      replace H := Option.bind_eq_some_iff.mp H
      obtain ⟨t321, A230, H⟩ := H
      replace H : ((spec_Min.f a0_0 a0_2).bind fun t322 => (if t321 < t322 then (spec_HowMeet.j1 kj2 true a0_0 a0_1 a0_2 a0_3 a1_0 a1_1 a1_2 a1_3) else ((spec_Max.f a0_1 a0_3).bind fun t323 => ((spec_Min.f a1_1 a1_3).bind fun t324 => (if t323 < t324 then (spec_HowMeet.j1 kj2 true a0_0 a0_1 a0_2 a0_3 a1_0 a1_1 a1_2 a1_3) else ((spec_Max.f a1_1 a1_3).bind fun t325 => ((spec_Min.f a0_1 a0_3).bind fun t326 => (spec_HowMeet.j1 kj2 (decide (t325 < t326)) a0_0 a0_1 a0_2 a0_3 a1_0 a1_1 a1_2 a1_3)))))))) = some r := H
      have A23 := Aside0.mk A230
      clear A230
      replace H := Option.bind_eq_some_iff.mp H
      obtain ⟨t322, A240, H⟩ := H
      replace H : (if t321 < t322 then (spec_HowMeet.j1 kj2 true a0_0 a0_1 a0_2 a0_3 a1_0 a1_1 a1_2 a1_3) else ((spec_Max.f a0_1 a0_3).bind fun t323 => ((spec_Min.f a1_1 a1_3).bind fun t324 => (if t323 < t324 then (spec_HowMeet.j1 kj2 true a0_0 a0_1 a0_2 a0_3 a1_0 a1_1 a1_2 a1_3) else ((spec_Max.f a1_1 a1_3).bind fun t325 => ((spec_Min.f a0_1 a0_3).bind fun t326 => (spec_HowMeet.j1 kj2 (decide (t325 < t326)) a0_0 a0_1 a0_2 a0_3 a1_0 a1_1 a1_2 a1_3))))))) = some r := H
      have A24 := Aside0.mk A240
      clear A240
      by_cases c25 : t321 < t322
      ·rw [if_pos c25] at H
       have c25b0 : decide (t321 < t322) = true := decide_eq_true c25
       clear c25
       have H' := Aside0.mk H
       clear H
       try go_wp2
       replace BK315 := Aside0.mk (blk_drew BK315.out)
       replace BK316 := Aside0.mk (blk_drew BK316.out)
       replace HB := Aside0.mk (below_drew1 HB.out)
       refine start_ (n := 66) (S := fun w' => w'.cell? ⟨gb315, 0, none⟩ = some (.int .i64 a0_0) ∧ w'.cell? ⟨gb315, 1, none⟩ = some (.int .i64 a0_1) ∧ w'.cell? ⟨gb315, 2, none⟩ = some (.int .i64 a0_2) ∧ w'.cell? ⟨gb315, 3, none⟩ = some (.int .i64 a0_3) ∧ w'.cell? ⟨gb316, 0, none⟩ = some (.int .i64 a1_0) ∧ w'.cell? ⟨gb316, 1, none⟩ = some (.int .i64 a1_1) ∧ w'.cell? ⟨gb316, 2, none⟩ = some (.int .i64 a1_2) ∧ w'.cell? ⟨gb316, 3, none⟩ = some (.int .i64 a1_3)) (ds := []) #[false, false, false, false, false, false, false, false, false, false, false, false, false, false, false, false, false, false, false, false, false, false, false, false, false, false, false, false, false, false, false, false, false, false, false, false, false, false, false, false, false, false, false, false, false, false, false, false, false, false, false, false, false, false, false, false, false, false, false, false, false, false, false, false, false, false] (by kernel_rfl) rfl rfl ⟨(blk_cell BK315.out 0).trans rfl, (blk_cell BK315.out 1).trans rfl, (blk_cell BK315.out 2).trans rfl, (blk_cell BK315.out 3).trans rfl, (blk_cell BK316.out 0).trans rfl, (blk_cell BK316.out 1).trans rfl, (blk_cell BK316.out 2).trans rfl, (blk_cell BK316.out 3).trans rfl⟩ (fun hHeld => ?_); refine with_tabW spec_HowMeet.tab3 spec_HowMeet.bits3 (fun HT_ HW_ => ?_)
       generalize wc.drew = w26 at BK315 BK316 HB hHeld ⊢
       refine pA HT_.out 0 13 ?_
       refine pA HT_.out 1 14 ?_
       refine pA HT_.out 3 16 ?_
       refine pA HT_.out 4 17 ?_
       refine pA HT_.out 7 20 ?_
       refine pA HT_.out 8 21 ?_
       refine pA HT_.out 10 23 ?_
       refine pA HT_.out 11 24 ?_
       refine tA8 HT_.out HW_.out 2 15 hHeld ?_
       refine tA8 HT_.out HW_.out 5 18 hHeld ?_
       refine tA8 HT_.out HW_.out 9 22 hHeld ?_
       refine tA8 HT_.out HW_.out 12 25 hHeld ?_
       refine one_ (i := 6) (N := some 19) #[true, true, true, true, true, true, true, true, true, true, true, true, true, false, false, false, false, false, false, false, false, false, false, false, false, false, false, false, false, false, false, false, false, false, false, false, false, false, false, false, false, false, false, false, false, false, false, false, false, false, false, false, false, false, false, false, false, false, false, false, false, false, false, false, false, false] rfl rfl (one_of HT_.out (by kernel_rfl)) (by decide) (fun K hK => ?_)
       refine gS Try.func20 #[.int .i64 a0_0, .int .i64 a0_2] ?_
       with_reducible refine (spec_Max.calls a0_0 a0_2 t319 _ A19.out).mono ?_
       rintro e w' ⟨rfl, ⟨nd, rfl⟩⟩
       refine ⟨_, rfl, ?_⟩
       refine hK.out _ _ ⟨(blk_cell BK315.out 0).trans rfl, (blk_cell BK315.out 1).trans rfl, (blk_cell BK315.out 2).trans rfl, (blk_cell BK315.out 3).trans rfl, (blk_cell BK316.out 0).trans rfl, (blk_cell BK316.out 1).trans rfl, (blk_cell BK316.out 2).trans rfl, (blk_cell BK316.out 3).trans rfl⟩ (fun hHeld => ?_)
       clear hK K
       refine norm_ (a' := ?_) ?_ ?_
       rotate_left
       ·show Act.put _ (some 19) _ = _
        simp only [Act.put, List.setIfInBounds_toArray, List.set_cons_zero, List.set_cons_succ, i64_w, i32_w]
        rfl
       refine one_ (i := 13) (N := some 26) #[true, true, true, true, true, true, true, true, true, true, true, true, true, true, false, false, false, false, false, false, false, false, false, false, false, false, false, false, false, false, false, false, false, false, false, false, false, false, false, false, false, false, false, false, false, false, false, false, false, false, false, false, false, false, false, false, false, false, false, false, false, false, false, false, false, false] rfl rfl (one_of HT_.out (by kernel_rfl)) (by decide) (fun K hK => ?_)
       refine gS Try.func21 #[.int .i64 a1_0, .int .i64 a1_2] ?_
       with_reducible refine (spec_Min.calls a1_0 a1_2 t320 _ A20.out).mono ?_
       rintro e w' ⟨rfl, ⟨nd, rfl⟩⟩
       refine ⟨_, rfl, ?_⟩
       refine hK.out _ _ ⟨(blk_cell BK315.out 0).trans rfl, (blk_cell BK315.out 1).trans rfl, (blk_cell BK315.out 2).trans rfl, (blk_cell BK315.out 3).trans rfl, (blk_cell BK316.out 0).trans rfl, (blk_cell BK316.out 1).trans rfl, (blk_cell BK316.out 2).trans rfl, (blk_cell BK316.out 3).trans rfl⟩ (fun hHeld => ?_)
       clear hK K
       refine norm_ (a' := ?_) ?_ ?_
       rotate_left
       ·show Act.put _ (some 26) _ = _
        simp only [Act.put, List.setIfInBounds_toArray, List.set_cons_zero, List.set_cons_succ, i64_w, i32_w]
        rfl
       refine pA HT_.out 14 27 ?_
       refine pA HT_.out 15 28 ?_
       refine pA HT_.out 16 29 ?_
       refine pA HT_.out 17 30 ?_
       refine pA HT_.out 19 32 ?_
       refine pA HT_.out 20 33 ?_
       refine pA HT_.out 23 36 ?_
       refine pA HT_.out 24 37 ?_
       refine pA HT_.out 26 39 ?_
       refine pA HT_.out 27 40 ?_
       refine tA8 HT_.out HW_.out 18 31 hHeld ?_
       refine tA8 HT_.out HW_.out 21 34 hHeld ?_
       refine tA8 HT_.out HW_.out 25 38 hHeld ?_
       refine tA8 HT_.out HW_.out 28 41 hHeld ?_
       refine one_ (i := 22) (N := some 35) #[true, true, true, true, true, true, true, true, true, true, true, true, true, true, true, true, true, true, true, true, true, true, true, true, true, true, true, true, true, false, false, false, false, false, false, false, false, false, false, false, false, false, false, false, false, false, false, false, false, false, false, false, false, false, false, false, false, false, false, false, false, false, false, false, false, false] rfl rfl (one_of HT_.out (by kernel_rfl)) (by decide) (fun K hK => ?_)
       refine gS Try.func20 #[.int .i64 a1_0, .int .i64 a1_2] ?_
       with_reducible refine (spec_Max.calls a1_0 a1_2 t321 _ A23.out).mono ?_
       rintro e w' ⟨rfl, ⟨nd, rfl⟩⟩
       refine ⟨_, rfl, ?_⟩
       refine hK.out _ _ ⟨(blk_cell BK315.out 0).trans rfl, (blk_cell BK315.out 1).trans rfl, (blk_cell BK315.out 2).trans rfl, (blk_cell BK315.out 3).trans rfl, (blk_cell BK316.out 0).trans rfl, (blk_cell BK316.out 1).trans rfl, (blk_cell BK316.out 2).trans rfl, (blk_cell BK316.out 3).trans rfl⟩ (fun hHeld => ?_)
       clear hK K
       refine norm_ (a' := ?_) ?_ ?_
       rotate_left
       ·show Act.put _ (some 35) _ = _
        simp only [Act.put, List.setIfInBounds_toArray, List.set_cons_zero, List.set_cons_succ, i64_w, i32_w]
        rfl
       refine one_ (i := 29) (N := some 42) #[true, true, true, true, true, true, true, true, true, true, true, true, true, true, true, true, true, true, true, true, true, true, true, true, true, true, true, true, true, true, false, false, false, false, false, false, false, false, false, false, false, false, false, false, false, false, false, false, false, false, false, false, false, false, false, false, false, false, false, false, false, false, false, false, false, false] rfl rfl (one_of HT_.out (by kernel_rfl)) (by decide) (fun K hK => ?_)
       refine gS Try.func21 #[.int .i64 a0_0, .int .i64 a0_2] ?_
       with_reducible refine (spec_Min.calls a0_0 a0_2 t322 _ A24.out).mono ?_
       rintro e w' ⟨rfl, ⟨nd, rfl⟩⟩
       refine ⟨_, rfl, ?_⟩
       refine hK.out _ _ ⟨(blk_cell BK315.out 0).trans rfl, (blk_cell BK315.out 1).trans rfl, (blk_cell BK315.out 2).trans rfl, (blk_cell BK315.out 3).trans rfl, (blk_cell BK316.out 0).trans rfl, (blk_cell BK316.out 1).trans rfl, (blk_cell BK316.out 2).trans rfl, (blk_cell BK316.out 3).trans rfl⟩ (fun hHeld => ?_)
       clear hK K
       refine norm_ (a' := ?_) ?_ ?_
       rotate_left
       ·show Act.put _ (some 42) _ = _
        simp only [Act.put, List.setIfInBounds_toArray, List.set_cons_zero, List.set_cons_succ, i64_w, i32_w]
        rfl
       refine pA HT_.out 30 43 ?_
       refine pA HT_.out 31 44 ?_
       refine pA HT_.out 32 45 ?_
       refine pU HT_.out 33 46 ?_
       refine pU HT_.out 34 47 ?_
       refine pU HT_.out 35 48 ?_
       refine pU HT_.out 36 49 ?_
       refine pU HT_.out 37 50 ?_
       refine pU HT_.out 38 51 ?_
       refine pU HT_.out 39 52 ?_
       refine pU HT_.out 40 53 ?_
       refine pU HT_.out 41 54 ?_
       refine pU HT_.out 42 55 ?_
       refine pU HT_.out 43 56 ?_
       refine pU HT_.out 44 57 ?_
       refine pU HT_.out 45 58 ?_
       refine pU HT_.out 46 59 ?_
       refine pU HT_.out 47 60 ?_
       refine pA HT_.out 48 61 ?_
       refine pA HT_.out 49 62 ?_
       refine pU HT_.out 50 63 ?_
       refine pU HT_.out 51 64 ?_
       refine pU HT_.out 52 65 ?_
       refine pU HT_.out 53 66 ?_
       refine pU HT_.out 54 67 ?_
       refine pU HT_.out 55 68 ?_
       refine pU HT_.out 56 69 ?_
       refine pU HT_.out 57 70 ?_
       refine pU HT_.out 58 71 ?_
       refine pU HT_.out 59 72 ?_
       refine pU HT_.out 60 73 ?_
       refine pU HT_.out 61 74 ?_
       refine pU HT_.out 62 75 ?_
       refine pU HT_.out 63 76 ?_
       refine pU HT_.out 64 77 ?_
       refine pA HT_.out 65 78 ?_
       refine done_ (done_of HT_.out (by kernel_rfl)) ?_
       try go_wp2
       go_meet
       case rel => exact ⟨_, (true), (by first | rfl | (simp; done) | (simp [*]; done)), H', ⟨by have := HJ2.out; first | omega | exact Nat.le_refl _⟩, ⟨by (with_reducible repeat (first | refine blk_drewN ?_ _ | refine blk_drew ?_ | refine blk_alloc ?_ _)); exact BK315.out⟩, ⟨by (with_reducible repeat (first | refine blk_drewN ?_ _ | refine blk_drew ?_ | refine blk_alloc ?_ _)); exact BK316.out⟩, ⟨eB2 HB GE315 GE316⟩⟩
      ·rw [if_neg c25] at H
       have c25b0 : decide (t321 < t322) = false := decide_eq_false c25
       clear c25
       replace H := Option.bind_eq_some_iff.mp H
       obtain ⟨t323, A270, H⟩ := H
       replace H : ((spec_Min.f a1_1 a1_3).bind fun t324 => (if t323 < t324 then (spec_HowMeet.j1 kj2 true a0_0 a0_1 a0_2 a0_3 a1_0 a1_1 a1_2 a1_3) else ((spec_Max.f a1_1 a1_3).bind fun t325 => ((spec_Min.f a0_1 a0_3).bind fun t326 => (spec_HowMeet.j1 kj2 (decide (t325 < t326)) a0_0 a0_1 a0_2 a0_3 a1_0 a1_1 a1_2 a1_3))))) = some r := H
       have A27 := Aside0.mk A270
       clear A270
       replace H := Option.bind_eq_some_iff.mp H
       obtain ⟨t324, A280, H⟩ := H
       replace H : (if t323 < t324 then (spec_HowMeet.j1 kj2 true a0_0 a0_1 a0_2 a0_3 a1_0 a1_1 a1_2 a1_3) else ((spec_Max.f a1_1 a1_3).bind fun t325 => ((spec_Min.f a0_1 a0_3).bind fun t326 => (spec_HowMeet.j1 kj2 (decide (t325 < t326)) a0_0 a0_1 a0_2 a0_3 a1_0 a1_1 a1_2 a1_3)))) = some r := H
       have A28 := Aside0.mk A280
       clear A280
       by_cases c29 : t323 < t324
       ·rw [if_pos c29] at H
        have c29b0 : decide (t323 < t324) = true := decide_eq_true c29
        clear c29
        have H' := Aside0.mk H
        clear H
        try go_wp2
        replace BK315 := Aside0.mk (blk_drew BK315.out)
        replace BK316 := Aside0.mk (blk_drew BK316.out)
        replace HB := Aside0.mk (below_drew1 HB.out)
        refine start_ (n := 66) (S := fun w' => w'.cell? ⟨gb315, 0, none⟩ = some (.int .i64 a0_0) ∧ w'.cell? ⟨gb315, 1, none⟩ = some (.int .i64 a0_1) ∧ w'.cell? ⟨gb315, 2, none⟩ = some (.int .i64 a0_2) ∧ w'.cell? ⟨gb315, 3, none⟩ = some (.int .i64 a0_3) ∧ w'.cell? ⟨gb316, 0, none⟩ = some (.int .i64 a1_0) ∧ w'.cell? ⟨gb316, 1, none⟩ = some (.int .i64 a1_1) ∧ w'.cell? ⟨gb316, 2, none⟩ = some (.int .i64 a1_2) ∧ w'.cell? ⟨gb316, 3, none⟩ = some (.int .i64 a1_3)) (ds := []) #[false, false, false, false, false, false, false, false, false, false, false, false, false, false, false, false, false, false, false, false, false, false, false, false, false, false, false, false, false, false, false, false, false, false, false, false, false, false, false, false, false, false, false, false, false, false, false, false, false, false, false, false, false, false, false, false, false, false, false, false, false, false, false, false, false, false] (by kernel_rfl) rfl rfl ⟨(blk_cell BK315.out 0).trans rfl, (blk_cell BK315.out 1).trans rfl, (blk_cell BK315.out 2).trans rfl, (blk_cell BK315.out 3).trans rfl, (blk_cell BK316.out 0).trans rfl, (blk_cell BK316.out 1).trans rfl, (blk_cell BK316.out 2).trans rfl, (blk_cell BK316.out 3).trans rfl⟩ (fun hHeld => ?_); refine with_tabW spec_HowMeet.tab3 spec_HowMeet.bits3 (fun HT_ HW_ => ?_)
        generalize wc.drew = w30 at BK315 BK316 HB hHeld ⊢
        refine pA HT_.out 0 13 ?_
        refine pA HT_.out 1 14 ?_
        refine pA HT_.out 3 16 ?_
        refine pA HT_.out 4 17 ?_
        refine pA HT_.out 7 20 ?_
        refine pA HT_.out 8 21 ?_
        refine pA HT_.out 10 23 ?_
        refine pA HT_.out 11 24 ?_
        refine tA8 HT_.out HW_.out 2 15 hHeld ?_
        refine tA8 HT_.out HW_.out 5 18 hHeld ?_
        refine tA8 HT_.out HW_.out 9 22 hHeld ?_
        refine tA8 HT_.out HW_.out 12 25 hHeld ?_
        refine one_ (i := 6) (N := some 19) #[true, true, true, true, true, true, true, true, true, true, true, true, true, false, false, false, false, false, false, false, false, false, false, false, false, false, false, false, false, false, false, false, false, false, false, false, false, false, false, false, false, false, false, false, false, false, false, false, false, false, false, false, false, false, false, false, false, false, false, false, false, false, false, false, false, false] rfl rfl (one_of HT_.out (by kernel_rfl)) (by decide) (fun K hK => ?_)
        refine gS Try.func20 #[.int .i64 a0_0, .int .i64 a0_2] ?_
        with_reducible refine (spec_Max.calls a0_0 a0_2 t319 _ A19.out).mono ?_
        rintro e w' ⟨rfl, ⟨nd, rfl⟩⟩
        refine ⟨_, rfl, ?_⟩
        refine hK.out _ _ ⟨(blk_cell BK315.out 0).trans rfl, (blk_cell BK315.out 1).trans rfl, (blk_cell BK315.out 2).trans rfl, (blk_cell BK315.out 3).trans rfl, (blk_cell BK316.out 0).trans rfl, (blk_cell BK316.out 1).trans rfl, (blk_cell BK316.out 2).trans rfl, (blk_cell BK316.out 3).trans rfl⟩ (fun hHeld => ?_)
        clear hK K
        refine norm_ (a' := ?_) ?_ ?_
        rotate_left
        ·show Act.put _ (some 19) _ = _
         simp only [Act.put, List.setIfInBounds_toArray, List.set_cons_zero, List.set_cons_succ, i64_w, i32_w]
         rfl
        refine one_ (i := 13) (N := some 26) #[true, true, true, true, true, true, true, true, true, true, true, true, true, true, false, false, false, false, false, false, false, false, false, false, false, false, false, false, false, false, false, false, false, false, false, false, false, false, false, false, false, false, false, false, false, false, false, false, false, false, false, false, false, false, false, false, false, false, false, false, false, false, false, false, false, false] rfl rfl (one_of HT_.out (by kernel_rfl)) (by decide) (fun K hK => ?_)
        refine gS Try.func21 #[.int .i64 a1_0, .int .i64 a1_2] ?_
        with_reducible refine (spec_Min.calls a1_0 a1_2 t320 _ A20.out).mono ?_
        rintro e w' ⟨rfl, ⟨nd, rfl⟩⟩
        refine ⟨_, rfl, ?_⟩
        refine hK.out _ _ ⟨(blk_cell BK315.out 0).trans rfl, (blk_cell BK315.out 1).trans rfl, (blk_cell BK315.out 2).trans rfl, (blk_cell BK315.out 3).trans rfl, (blk_cell BK316.out 0).trans rfl, (blk_cell BK316.out 1).trans rfl, (blk_cell BK316.out 2).trans rfl, (blk_cell BK316.out 3).trans rfl⟩ (fun hHeld => ?_)
        clear hK K
        refine norm_ (a' := ?_) ?_ ?_
        rotate_left
        ·show Act.put _ (some 26) _ = _
         simp only [Act.put, List.setIfInBounds_toArray, List.set_cons_zero, List.set_cons_succ, i64_w, i32_w]
         rfl
        refine pA HT_.out 14 27 ?_
        refine pA HT_.out 15 28 ?_
        refine pA HT_.out 16 29 ?_
        refine pA HT_.out 17 30 ?_
        refine pA HT_.out 19 32 ?_
        refine pA HT_.out 20 33 ?_
        refine pA HT_.out 23 36 ?_
        refine pA HT_.out 24 37 ?_
        refine pA HT_.out 26 39 ?_
        refine pA HT_.out 27 40 ?_
        refine tA8 HT_.out HW_.out 18 31 hHeld ?_
        refine tA8 HT_.out HW_.out 21 34 hHeld ?_
        refine tA8 HT_.out HW_.out 25 38 hHeld ?_
        refine tA8 HT_.out HW_.out 28 41 hHeld ?_
        refine one_ (i := 22) (N := some 35) #[true, true, true, true, true, true, true, true, true, true, true, true, true, true, true, true, true, true, true, true, true, true, true, true, true, true, true, true, true, false, false, false, false, false, false, false, false, false, false, false, false, false, false, false, false, false, false, false, false, false, false, false, false, false, false, false, false, false, false, false, false, false, false, false, false, false] rfl rfl (one_of HT_.out (by kernel_rfl)) (by decide) (fun K hK => ?_)
        refine gS Try.func20 #[.int .i64 a1_0, .int .i64 a1_2] ?_
        with_reducible refine (spec_Max.calls a1_0 a1_2 t321 _ A23.out).mono ?_
        rintro e w' ⟨rfl, ⟨nd, rfl⟩⟩
        refine ⟨_, rfl, ?_⟩
        refine hK.out _ _ ⟨(blk_cell BK315.out 0).trans rfl, (blk_cell BK315.out 1).trans rfl, (blk_cell BK315.out 2).trans rfl, (blk_cell BK315.out 3).trans rfl, (blk_cell BK316.out 0).trans rfl, (blk_cell BK316.out 1).trans rfl, (blk_cell BK316.out 2).trans rfl, (blk_cell BK316.out 3).trans rfl⟩ (fun hHeld => ?_)
        clear hK K
        refine norm_ (a' := ?_) ?_ ?_
        rotate_left
        ·show Act.put _ (some 35) _ = _
         simp only [Act.put, List.setIfInBounds_toArray, List.set_cons_zero, List.set_cons_succ, i64_w, i32_w]
         rfl
        refine one_ (i := 29) (N := some 42) #[true, true, true, true, true, true, true, true, true, true, true, true, true, true, true, true, true, true, true, true, true, true, true, true, true, true, true, true, true, true, false, false, false, false, false, false, false, false, false, false, false, false, false, false, false, false, false, false, false, false, false, false, false, false, false, false, false, false, false, false, false, false, false, false, false, false] rfl rfl (one_of HT_.out (by kernel_rfl)) (by decide) (fun K hK => ?_)
        refine gS Try.func21 #[.int .i64 a0_0, .int .i64 a0_2] ?_
        with_reducible refine (spec_Min.calls a0_0 a0_2 t322 _ A24.out).mono ?_
        rintro e w' ⟨rfl, ⟨nd, rfl⟩⟩
        refine ⟨_, rfl, ?_⟩
        refine hK.out _ _ ⟨(blk_cell BK315.out 0).trans rfl, (blk_cell BK315.out 1).trans rfl, (blk_cell BK315.out 2).trans rfl, (blk_cell BK315.out 3).trans rfl, (blk_cell BK316.out 0).trans rfl, (blk_cell BK316.out 1).trans rfl, (blk_cell BK316.out 2).trans rfl, (blk_cell BK316.out 3).trans rfl⟩ (fun hHeld => ?_)
        clear hK K
        refine norm_ (a' := ?_) ?_ ?_
        rotate_left
        ·show Act.put _ (some 42) _ = _
         simp only [Act.put, List.setIfInBounds_toArray, List.set_cons_zero, List.set_cons_succ, i64_w, i32_w]
         rfl
        refine pA HT_.out 30 43 ?_
        refine pA HT_.out 31 44 ?_
        refine pA HT_.out 32 45 ?_
        refine pA HT_.out 33 46 ?_
        refine pA HT_.out 34 47 ?_
        refine pA HT_.out 36 49 ?_
        refine pA HT_.out 37 50 ?_
        refine pA HT_.out 40 53 ?_
        refine pA HT_.out 41 54 ?_
        refine pA HT_.out 43 56 ?_
        refine pA HT_.out 44 57 ?_
        refine tA8 HT_.out HW_.out 35 48 hHeld ?_
        refine tA8 HT_.out HW_.out 38 51 hHeld ?_
        refine tA8 HT_.out HW_.out 42 55 hHeld ?_
        refine tA8 HT_.out HW_.out 45 58 hHeld ?_
        refine one_ (i := 39) (N := some 52) #[true, true, true, true, true, true, true, true, true, true, true, true, true, true, true, true, true, true, true, true, true, true, true, true, true, true, true, true, true, true, true, true, true, true, true, true, true, true, true, true, true, true, true, true, true, true, false, false, false, false, false, false, false, false, false, false, false, false, false, false, false, false, false, false, false, false] rfl rfl (one_of HT_.out (by kernel_rfl)) (by decide) (fun K hK => ?_)
        refine gS Try.func20 #[.int .i64 a0_1, .int .i64 a0_3] ?_
        with_reducible refine (spec_Max.calls a0_1 a0_3 t323 _ A27.out).mono ?_
        rintro e w' ⟨rfl, ⟨nd, rfl⟩⟩
        refine ⟨_, rfl, ?_⟩
        refine hK.out _ _ ⟨(blk_cell BK315.out 0).trans rfl, (blk_cell BK315.out 1).trans rfl, (blk_cell BK315.out 2).trans rfl, (blk_cell BK315.out 3).trans rfl, (blk_cell BK316.out 0).trans rfl, (blk_cell BK316.out 1).trans rfl, (blk_cell BK316.out 2).trans rfl, (blk_cell BK316.out 3).trans rfl⟩ (fun hHeld => ?_)
        clear hK K
        refine norm_ (a' := ?_) ?_ ?_
        rotate_left
        ·show Act.put _ (some 52) _ = _
         simp only [Act.put, List.setIfInBounds_toArray, List.set_cons_zero, List.set_cons_succ, i64_w, i32_w]
         rfl
        refine one_ (i := 46) (N := some 59) #[true, true, true, true, true, true, true, true, true, true, true, true, true, true, true, true, true, true, true, true, true, true, true, true, true, true, true, true, true, true, true, true, true, true, true, true, true, true, true, true, true, true, true, true, true, true, true, false, false, false, false, false, false, false, false, false, false, false, false, false, false, false, false, false, false, false] rfl rfl (one_of HT_.out (by kernel_rfl)) (by decide) (fun K hK => ?_)
        refine gS Try.func21 #[.int .i64 a1_1, .int .i64 a1_3] ?_
        with_reducible refine (spec_Min.calls a1_1 a1_3 t324 _ A28.out).mono ?_
        rintro e w' ⟨rfl, ⟨nd, rfl⟩⟩
        refine ⟨_, rfl, ?_⟩
        refine hK.out _ _ ⟨(blk_cell BK315.out 0).trans rfl, (blk_cell BK315.out 1).trans rfl, (blk_cell BK315.out 2).trans rfl, (blk_cell BK315.out 3).trans rfl, (blk_cell BK316.out 0).trans rfl, (blk_cell BK316.out 1).trans rfl, (blk_cell BK316.out 2).trans rfl, (blk_cell BK316.out 3).trans rfl⟩ (fun hHeld => ?_)
        clear hK K
        refine norm_ (a' := ?_) ?_ ?_
        rotate_left
        ·show Act.put _ (some 59) _ = _
         simp only [Act.put, List.setIfInBounds_toArray, List.set_cons_zero, List.set_cons_succ, i64_w, i32_w]
         rfl
        refine pA HT_.out 47 60 ?_
        refine pA HT_.out 48 61 ?_
        refine pA HT_.out 49 62 ?_
        refine pU HT_.out 50 63 ?_
        refine pU HT_.out 51 64 ?_
        refine pU HT_.out 52 65 ?_
        refine pU HT_.out 53 66 ?_
        refine pU HT_.out 54 67 ?_
        refine pU HT_.out 55 68 ?_
        refine pU HT_.out 56 69 ?_
        refine pU HT_.out 57 70 ?_
        refine pU HT_.out 58 71 ?_
        refine pU HT_.out 59 72 ?_
        refine pU HT_.out 60 73 ?_
        refine pU HT_.out 61 74 ?_
        refine pU HT_.out 62 75 ?_
        refine pU HT_.out 63 76 ?_
        refine pU HT_.out 64 77 ?_
        refine pA HT_.out 65 78 ?_
        refine done_ (done_of HT_.out (by kernel_rfl)) ?_
        try go_wp2
        go_meet
        case rel => exact ⟨_, (true), (by first | rfl | (simp; done) | (simp [*]; done)), H', ⟨by have := HJ2.out; first | omega | exact Nat.le_refl _⟩, ⟨by (with_reducible repeat (first | refine blk_drewN ?_ _ | refine blk_drew ?_ | refine blk_alloc ?_ _)); exact BK315.out⟩, ⟨by (with_reducible repeat (first | refine blk_drewN ?_ _ | refine blk_drew ?_ | refine blk_alloc ?_ _)); exact BK316.out⟩, ⟨eB2 HB GE315 GE316⟩⟩
       ·rw [if_neg c29] at H
        have c29b0 : decide (t323 < t324) = false := decide_eq_false c29
        clear c29
        replace H := Option.bind_eq_some_iff.mp H
        obtain ⟨t325, A310, H⟩ := H
        replace H : ((spec_Min.f a0_1 a0_3).bind fun t326 => (spec_HowMeet.j1 kj2 (decide (t325 < t326)) a0_0 a0_1 a0_2 a0_3 a1_0 a1_1 a1_2 a1_3)) = some r := H
        have A31 := Aside0.mk A310
        clear A310
        replace H := Option.bind_eq_some_iff.mp H
        obtain ⟨t326, A320, H⟩ := H
        replace H : (spec_HowMeet.j1 kj2 (decide (t325 < t326)) a0_0 a0_1 a0_2 a0_3 a1_0 a1_1 a1_2 a1_3) = some r := H
        have A32 := Aside0.mk A320
        clear A320
        have H' := Aside0.mk H
        clear H
        try go_wp2
        replace BK315 := Aside0.mk (blk_drew BK315.out)
        replace BK316 := Aside0.mk (blk_drew BK316.out)
        replace HB := Aside0.mk (below_drew1 HB.out)
        refine start_ (n := 66) (S := fun w' => w'.cell? ⟨gb315, 0, none⟩ = some (.int .i64 a0_0) ∧ w'.cell? ⟨gb315, 1, none⟩ = some (.int .i64 a0_1) ∧ w'.cell? ⟨gb315, 2, none⟩ = some (.int .i64 a0_2) ∧ w'.cell? ⟨gb315, 3, none⟩ = some (.int .i64 a0_3) ∧ w'.cell? ⟨gb316, 0, none⟩ = some (.int .i64 a1_0) ∧ w'.cell? ⟨gb316, 1, none⟩ = some (.int .i64 a1_1) ∧ w'.cell? ⟨gb316, 2, none⟩ = some (.int .i64 a1_2) ∧ w'.cell? ⟨gb316, 3, none⟩ = some (.int .i64 a1_3)) (ds := []) #[false, false, false, false, false, false, false, false, false, false, false, false, false, false, false, false, false, false, false, false, false, false, false, false, false, false, false, false, false, false, false, false, false, false, false, false, false, false, false, false, false, false, false, false, false, false, false, false, false, false, false, false, false, false, false, false, false, false, false, false, false, false, false, false, false, false] (by kernel_rfl) rfl rfl ⟨(blk_cell BK315.out 0).trans rfl, (blk_cell BK315.out 1).trans rfl, (blk_cell BK315.out 2).trans rfl, (blk_cell BK315.out 3).trans rfl, (blk_cell BK316.out 0).trans rfl, (blk_cell BK316.out 1).trans rfl, (blk_cell BK316.out 2).trans rfl, (blk_cell BK316.out 3).trans rfl⟩ (fun hHeld => ?_); refine with_tabW spec_HowMeet.tab3 spec_HowMeet.bits3 (fun HT_ HW_ => ?_)
        generalize wc.drew = w33 at BK315 BK316 HB hHeld ⊢
        refine pA HT_.out 0 13 ?_
        refine pA HT_.out 1 14 ?_
        refine pA HT_.out 3 16 ?_
        refine pA HT_.out 4 17 ?_
        refine pA HT_.out 7 20 ?_
        refine pA HT_.out 8 21 ?_
        refine pA HT_.out 10 23 ?_
        refine pA HT_.out 11 24 ?_
        refine tA8 HT_.out HW_.out 2 15 hHeld ?_
        refine tA8 HT_.out HW_.out 5 18 hHeld ?_
        refine tA8 HT_.out HW_.out 9 22 hHeld ?_
        refine tA8 HT_.out HW_.out 12 25 hHeld ?_
        refine one_ (i := 6) (N := some 19) #[true, true, true, true, true, true, true, true, true, true, true, true, true, false, false, false, false, false, false, false, false, false, false, false, false, false, false, false, false, false, false, false, false, false, false, false, false, false, false, false, false, false, false, false, false, false, false, false, false, false, false, false, false, false, false, false, false, false, false, false, false, false, false, false, false, false] rfl rfl (one_of HT_.out (by kernel_rfl)) (by decide) (fun K hK => ?_)
        refine gS Try.func20 #[.int .i64 a0_0, .int .i64 a0_2] ?_
        with_reducible refine (spec_Max.calls a0_0 a0_2 t319 _ A19.out).mono ?_
        rintro e w' ⟨rfl, ⟨nd, rfl⟩⟩
        refine ⟨_, rfl, ?_⟩
        refine hK.out _ _ ⟨(blk_cell BK315.out 0).trans rfl, (blk_cell BK315.out 1).trans rfl, (blk_cell BK315.out 2).trans rfl, (blk_cell BK315.out 3).trans rfl, (blk_cell BK316.out 0).trans rfl, (blk_cell BK316.out 1).trans rfl, (blk_cell BK316.out 2).trans rfl, (blk_cell BK316.out 3).trans rfl⟩ (fun hHeld => ?_)
        clear hK K
        refine norm_ (a' := ?_) ?_ ?_
        rotate_left
        ·show Act.put _ (some 19) _ = _
         simp only [Act.put, List.setIfInBounds_toArray, List.set_cons_zero, List.set_cons_succ, i64_w, i32_w]
         rfl
        refine one_ (i := 13) (N := some 26) #[true, true, true, true, true, true, true, true, true, true, true, true, true, true, false, false, false, false, false, false, false, false, false, false, false, false, false, false, false, false, false, false, false, false, false, false, false, false, false, false, false, false, false, false, false, false, false, false, false, false, false, false, false, false, false, false, false, false, false, false, false, false, false, false, false, false] rfl rfl (one_of HT_.out (by kernel_rfl)) (by decide) (fun K hK => ?_)
        refine gS Try.func21 #[.int .i64 a1_0, .int .i64 a1_2] ?_
        with_reducible refine (spec_Min.calls a1_0 a1_2 t320 _ A20.out).mono ?_
        rintro e w' ⟨rfl, ⟨nd, rfl⟩⟩
        refine ⟨_, rfl, ?_⟩
        refine hK.out _ _ ⟨(blk_cell BK315.out 0).trans rfl, (blk_cell BK315.out 1).trans rfl, (blk_cell BK315.out 2).trans rfl, (blk_cell BK315.out 3).trans rfl, (blk_cell BK316.out 0).trans rfl, (blk_cell BK316.out 1).trans rfl, (blk_cell BK316.out 2).trans rfl, (blk_cell BK316.out 3).trans rfl⟩ (fun hHeld => ?_)
        clear hK K
        refine norm_ (a' := ?_) ?_ ?_
        rotate_left
        ·show Act.put _ (some 26) _ = _
         simp only [Act.put, List.setIfInBounds_toArray, List.set_cons_zero, List.set_cons_succ, i64_w, i32_w]
         rfl
        refine pA HT_.out 14 27 ?_
        refine pA HT_.out 15 28 ?_
        refine pA HT_.out 16 29 ?_
        refine pA HT_.out 17 30 ?_
        refine pA HT_.out 19 32 ?_
        refine pA HT_.out 20 33 ?_
        refine pA HT_.out 23 36 ?_
        refine pA HT_.out 24 37 ?_
        refine pA HT_.out 26 39 ?_
        refine pA HT_.out 27 40 ?_
        refine tA8 HT_.out HW_.out 18 31 hHeld ?_
        refine tA8 HT_.out HW_.out 21 34 hHeld ?_
        refine tA8 HT_.out HW_.out 25 38 hHeld ?_
        refine tA8 HT_.out HW_.out 28 41 hHeld ?_
        refine one_ (i := 22) (N := some 35) #[true, true, true, true, true, true, true, true, true, true, true, true, true, true, true, true, true, true, true, true, true, true, true, true, true, true, true, true, true, false, false, false, false, false, false, false, false, false, false, false, false, false, false, false, false, false, false, false, false, false, false, false, false, false, false, false, false, false, false, false, false, false, false, false, false, false] rfl rfl (one_of HT_.out (by kernel_rfl)) (by decide) (fun K hK => ?_)
        refine gS Try.func20 #[.int .i64 a1_0, .int .i64 a1_2] ?_
        with_reducible refine (spec_Max.calls a1_0 a1_2 t321 _ A23.out).mono ?_
        rintro e w' ⟨rfl, ⟨nd, rfl⟩⟩
        refine ⟨_, rfl, ?_⟩
        refine hK.out _ _ ⟨(blk_cell BK315.out 0).trans rfl, (blk_cell BK315.out 1).trans rfl, (blk_cell BK315.out 2).trans rfl, (blk_cell BK315.out 3).trans rfl, (blk_cell BK316.out 0).trans rfl, (blk_cell BK316.out 1).trans rfl, (blk_cell BK316.out 2).trans rfl, (blk_cell BK316.out 3).trans rfl⟩ (fun hHeld => ?_)
        clear hK K
        refine norm_ (a' := ?_) ?_ ?_
        rotate_left
        ·show Act.put _ (some 35) _ = _
         simp only [Act.put, List.setIfInBounds_toArray, List.set_cons_zero, List.set_cons_succ, i64_w, i32_w]
         rfl
        refine one_ (i := 29) (N := some 42) #[true, true, true, true, true, true, true, true, true, true, true, true, true, true, true, true, true, true, true, true, true, true, true, true, true, true, true, true, true, true, false, false, false, false, false, false, false, false, false, false, false, false, false, false, false, false, false, false, false, false, false, false, false, false, false, false, false, false, false, false, false, false, false, false, false, false] rfl rfl (one_of HT_.out (by kernel_rfl)) (by decide) (fun K hK => ?_)
        refine gS Try.func21 #[.int .i64 a0_0, .int .i64 a0_2] ?_
        with_reducible refine (spec_Min.calls a0_0 a0_2 t322 _ A24.out).mono ?_
        rintro e w' ⟨rfl, ⟨nd, rfl⟩⟩
        refine ⟨_, rfl, ?_⟩
        refine hK.out _ _ ⟨(blk_cell BK315.out 0).trans rfl, (blk_cell BK315.out 1).trans rfl, (blk_cell BK315.out 2).trans rfl, (blk_cell BK315.out 3).trans rfl, (blk_cell BK316.out 0).trans rfl, (blk_cell BK316.out 1).trans rfl, (blk_cell BK316.out 2).trans rfl, (blk_cell BK316.out 3).trans rfl⟩ (fun hHeld => ?_)
        clear hK K
        refine norm_ (a' := ?_) ?_ ?_
        rotate_left
        ·show Act.put _ (some 42) _ = _
         simp only [Act.put, List.setIfInBounds_toArray, List.set_cons_zero, List.set_cons_succ, i64_w, i32_w]
         rfl
        refine pA HT_.out 30 43 ?_
        refine pA HT_.out 31 44 ?_
        refine pA HT_.out 32 45 ?_
        refine pA HT_.out 33 46 ?_
        refine pA HT_.out 34 47 ?_
        refine pA HT_.out 36 49 ?_
        refine pA HT_.out 37 50 ?_
        refine pA HT_.out 40 53 ?_
        refine pA HT_.out 41 54 ?_
        refine pA HT_.out 43 56 ?_
        refine pA HT_.out 44 57 ?_
        refine tA8 HT_.out HW_.out 35 48 hHeld ?_
        refine tA8 HT_.out HW_.out 38 51 hHeld ?_
        refine tA8 HT_.out HW_.out 42 55 hHeld ?_
        refine tA8 HT_.out HW_.out 45 58 hHeld ?_
        refine one_ (i := 39) (N := some 52) #[true, true, true, true, true, true, true, true, true, true, true, true, true, true, true, true, true, true, true, true, true, true, true, true, true, true, true, true, true, true, true, true, true, true, true, true, true, true, true, true, true, true, true, true, true, true, false, false, false, false, false, false, false, false, false, false, false, false, false, false, false, false, false, false, false, false] rfl rfl (one_of HT_.out (by kernel_rfl)) (by decide) (fun K hK => ?_)
        refine gS Try.func20 #[.int .i64 a0_1, .int .i64 a0_3] ?_
        with_reducible refine (spec_Max.calls a0_1 a0_3 t323 _ A27.out).mono ?_
        rintro e w' ⟨rfl, ⟨nd, rfl⟩⟩
        refine ⟨_, rfl, ?_⟩
        refine hK.out _ _ ⟨(blk_cell BK315.out 0).trans rfl, (blk_cell BK315.out 1).trans rfl, (blk_cell BK315.out 2).trans rfl, (blk_cell BK315.out 3).trans rfl, (blk_cell BK316.out 0).trans rfl, (blk_cell BK316.out 1).trans rfl, (blk_cell BK316.out 2).trans rfl, (blk_cell BK316.out 3).trans rfl⟩ (fun hHeld => ?_)
        clear hK K
        refine norm_ (a' := ?_) ?_ ?_
        rotate_left
        ·show Act.put _ (some 52) _ = _
         simp only [Act.put, List.setIfInBounds_toArray, List.set_cons_zero, List.set_cons_succ, i64_w, i32_w]
         rfl
        refine one_ (i := 46) (N := some 59) #[true, true, true, true, true, true, true, true, true, true, true, true, true, true, true, true, true, true, true, true, true, true, true, true, true, true, true, true, true, true, true, true, true, true, true, true, true, true, true, true, true, true, true, true, true, true, true, false, false, false, false, false, false, false, false, false, false, false, false, false, false, false, false, false, false, false] rfl rfl (one_of HT_.out (by kernel_rfl)) (by decide) (fun K hK => ?_)
        refine gS Try.func21 #[.int .i64 a1_1, .int .i64 a1_3] ?_
        with_reducible refine (spec_Min.calls a1_1 a1_3 t324 _ A28.out).mono ?_
        rintro e w' ⟨rfl, ⟨nd, rfl⟩⟩
        refine ⟨_, rfl, ?_⟩
        refine hK.out _ _ ⟨(blk_cell BK315.out 0).trans rfl, (blk_cell BK315.out 1).trans rfl, (blk_cell BK315.out 2).trans rfl, (blk_cell BK315.out 3).trans rfl, (blk_cell BK316.out 0).trans rfl, (blk_cell BK316.out 1).trans rfl, (blk_cell BK316.out 2).trans rfl, (blk_cell BK316.out 3).trans rfl⟩ (fun hHeld => ?_)
        clear hK K
        refine norm_ (a' := ?_) ?_ ?_
        rotate_left
        ·show Act.put _ (some 59) _ = _
         simp only [Act.put, List.setIfInBounds_toArray, List.set_cons_zero, List.set_cons_succ, i64_w, i32_w]
         rfl
        refine pA HT_.out 47 60 ?_
        refine pA HT_.out 48 61 ?_
        refine pA HT_.out 49 62 ?_
        refine pA HT_.out 50 63 ?_
        refine pA HT_.out 51 64 ?_
        refine pA HT_.out 53 66 ?_
        refine pA HT_.out 54 67 ?_
        refine pA HT_.out 57 70 ?_
        refine pA HT_.out 58 71 ?_
        refine pA HT_.out 60 73 ?_
        refine pA HT_.out 61 74 ?_
        refine tA8 HT_.out HW_.out 52 65 hHeld ?_
        refine tA8 HT_.out HW_.out 55 68 hHeld ?_
        refine tA8 HT_.out HW_.out 59 72 hHeld ?_
        refine tA8 HT_.out HW_.out 62 75 hHeld ?_
        refine one_ (i := 56) (N := some 69) #[true, true, true, true, true, true, true, true, true, true, true, true, true, true, true, true, true, true, true, true, true, true, true, true, true, true, true, true, true, true, true, true, true, true, true, true, true, true, true, true, true, true, true, true, true, true, true, true, true, true, true, true, true, true, true, true, true, true, true, true, true, true, true, false, false, false] rfl rfl (one_of HT_.out (by kernel_rfl)) (by decide) (fun K hK => ?_)
        refine gS Try.func20 #[.int .i64 a1_1, .int .i64 a1_3] ?_
        with_reducible refine (spec_Max.calls a1_1 a1_3 t325 _ A31.out).mono ?_
        rintro e w' ⟨rfl, ⟨nd, rfl⟩⟩
        refine ⟨_, rfl, ?_⟩
        refine hK.out _ _ ⟨(blk_cell BK315.out 0).trans rfl, (blk_cell BK315.out 1).trans rfl, (blk_cell BK315.out 2).trans rfl, (blk_cell BK315.out 3).trans rfl, (blk_cell BK316.out 0).trans rfl, (blk_cell BK316.out 1).trans rfl, (blk_cell BK316.out 2).trans rfl, (blk_cell BK316.out 3).trans rfl⟩ (fun hHeld => ?_)
        clear hK K
        refine norm_ (a' := ?_) ?_ ?_
        rotate_left
        ·show Act.put _ (some 69) _ = _
         simp only [Act.put, List.setIfInBounds_toArray, List.set_cons_zero, List.set_cons_succ, i64_w, i32_w]
         rfl
        refine one_ (i := 63) (N := some 76) #[true, true, true, true, true, true, true, true, true, true, true, true, true, true, true, true, true, true, true, true, true, true, true, true, true, true, true, true, true, true, true, true, true, true, true, true, true, true, true, true, true, true, true, true, true, true, true, true, true, true, true, true, true, true, true, true, true, true, true, true, true, true, true, true, false, false] rfl rfl (one_of HT_.out (by kernel_rfl)) (by decide) (fun K hK => ?_)
        refine gS Try.func21 #[.int .i64 a0_1, .int .i64 a0_3] ?_
        with_reducible refine (spec_Min.calls a0_1 a0_3 t326 _ A32.out).mono ?_
        rintro e w' ⟨rfl, ⟨nd, rfl⟩⟩
        refine ⟨_, rfl, ?_⟩
        refine hK.out _ _ ⟨(blk_cell BK315.out 0).trans rfl, (blk_cell BK315.out 1).trans rfl, (blk_cell BK315.out 2).trans rfl, (blk_cell BK315.out 3).trans rfl, (blk_cell BK316.out 0).trans rfl, (blk_cell BK316.out 1).trans rfl, (blk_cell BK316.out 2).trans rfl, (blk_cell BK316.out 3).trans rfl⟩ (fun hHeld => ?_)
        clear hK K
        refine norm_ (a' := ?_) ?_ ?_
        rotate_left
        ·show Act.put _ (some 76) _ = _
         simp only [Act.put, List.setIfInBounds_toArray, List.set_cons_zero, List.set_cons_succ, i64_w, i32_w]
         rfl
        refine pA HT_.out 64 77 ?_
        refine pA HT_.out 65 78 ?_
        refine done_ (done_of HT_.out (by kernel_rfl)) ?_
        try go_wp2
        go_meet
        case rel => exact ⟨_, (decide (t325 < t326)), (by first | rfl | (simp; done) | (simp [*]; done)), H', ⟨by have := HJ2.out; first | omega | exact Nat.le_refl _⟩, ⟨by (with_reducible repeat (first | refine blk_drewN ?_ _ | refine blk_drew ?_ | refine blk_alloc ?_ _)); exact BK315.out⟩, ⟨by (with_reducible repeat (first | refine blk_drewN ?_ _ | refine blk_drew ?_ | refine blk_alloc ?_ _)); exact BK316.out⟩, ⟨eB2 HB GE315 GE316⟩⟩
    case rest =>
     clear HC18
     try clear c2
     try clear p2
     try clear c20
     try clear c21
     try clear c29
     try clear c29b0
     obtain ⟨kq, x78_17, rfl, HA, HJ17, BK315, BK316, HB⟩ := hcut
     cases kq with
     | zero => exact absurd HA.out (by simp [spec_HowMeet.j1])
     | succ kj17 =>
      have H := HA.out
      clear HA
      simp only [spec_HowMeet.j1] at H
      by_cases c34 : x78_17 = true
      ·subst c34
       have H1 : (some 0) = some r := by rw [if_pos rfl] at H; exact H
       clear H
       have H := H1
       clear H1
       obtain rfl := Option.some.inj H
       go_wp2
       go_ret
       exact ⟨by first | rfl | (simp [errW_none, errW_some] <;> rfl) | (simp [*, errW_none, errW_some] <;> rfl), eB2 HB GE315 GE316⟩
      ·replace c34 := Bool.eq_false_iff.mpr c34
       subst c34
       have H1 : ((spec_l5Shared.f kj17 a0_0 a0_1 a0_2 a0_3 a1_0 a1_1 a1_2 a1_3).bind fun t327 => (if t327 = 0 then ((spec_SideOf.f kj17 a0_0 a0_1 a0_2 a0_3 a1_0 a1_1).bind fun t328 => ((spec_SideOf.f kj17 a0_0 a0_1 a0_2 a0_3 a1_2 a1_3).bind fun t329 => (if (wrap64 (t328 * t329)) < 0 then ((spec_SideOf.f kj17 a1_0 a1_1 a1_2 a1_3 a0_0 a0_1).bind fun t330 => ((spec_SideOf.f kj17 a1_0 a1_1 a1_2 a1_3 a0_2 a0_3).bind fun t331 => (if (wrap64 (t330 * t331)) < 0 then (some 2) else (some 0)))) else (some 0)))) else (if t327 = 1 then (some 1) else (some 3)))) = some r := by rw [if_neg (show ¬ (false = true) by decide)] at H; exact H
       clear H
       have H := H1
       clear H1
       replace H := Option.bind_eq_some_iff.mp H
       obtain ⟨t327, A350, H⟩ := H
       replace H : (if t327 = 0 then ((spec_SideOf.f kj17 a0_0 a0_1 a0_2 a0_3 a1_0 a1_1).bind fun t328 => ((spec_SideOf.f kj17 a0_0 a0_1 a0_2 a0_3 a1_2 a1_3).bind fun t329 => (if (wrap64 (t328 * t329)) < 0 then ((spec_SideOf.f kj17 a1_0 a1_1 a1_2 a1_3 a0_0 a0_1).bind fun t330 => ((spec_SideOf.f kj17 a1_0 a1_1 a1_2 a1_3 a0_2 a0_3).bind fun t331 => (if (wrap64 (t330 * t331)) < 0 then (some 2) else (some 0)))) else (some 0)))) else (if t327 = 1 then (some 1) else (some 3))) = some r := H
       have A35 := Aside0.mk A350
       clear A350
       by_cases c36 : t327 = 0
       ·rw [if_pos c36] at H
        have c36b0 : (t327 == 0) = true := beq_iff_eq.mpr c36
        have c36b1 : (t327 != 0) = false := bne_eq_false_iff_eq.mpr c36
        clear c36
        replace H := Option.bind_eq_some_iff.mp H
        obtain ⟨t328, A370, H⟩ := H
        replace H : ((spec_SideOf.f kj17 a0_0 a0_1 a0_2 a0_3 a1_2 a1_3).bind fun t329 => (if (wrap64 (t328 * t329)) < 0 then ((spec_SideOf.f kj17 a1_0 a1_1 a1_2 a1_3 a0_0 a0_1).bind fun t330 => ((spec_SideOf.f kj17 a1_0 a1_1 a1_2 a1_3 a0_2 a0_3).bind fun t331 => (if (wrap64 (t330 * t331)) < 0 then (some 2) else (some 0)))) else (some 0))) = some r := H
        have A37 := Aside0.mk A370
        clear A370
        replace H := Option.bind_eq_some_iff.mp H
        obtain ⟨t329, A380, H⟩ := H
        replace H : (if (wrap64 (t328 * t329)) < 0 then ((spec_SideOf.f kj17 a1_0 a1_1 a1_2 a1_3 a0_0 a0_1).bind fun t330 => ((spec_SideOf.f kj17 a1_0 a1_1 a1_2 a1_3 a0_2 a0_3).bind fun t331 => (if (wrap64 (t330 * t331)) < 0 then (some 2) else (some 0)))) else (some 0)) = some r := H
        have A38 := Aside0.mk A380
        clear A380
        by_cases c39 : (wrap64 (t328 * t329)) < 0
        ·rw [if_pos c39] at H
         have c39b0 : decide ((wrap64 (t328 * t329)) < 0) = true := decide_eq_true c39
         clear c39
         replace H := Option.bind_eq_some_iff.mp H
         obtain ⟨t330, A400, H⟩ := H
         replace H : ((spec_SideOf.f kj17 a1_0 a1_1 a1_2 a1_3 a0_2 a0_3).bind fun t331 => (if (wrap64 (t330 * t331)) < 0 then (some 2) else (some 0))) = some r := H
         have A40 := Aside0.mk A400
         clear A400
         replace H := Option.bind_eq_some_iff.mp H
         obtain ⟨t331, A410, H⟩ := H
         replace H : (if (wrap64 (t330 * t331)) < 0 then (some 2) else (some 0)) = some r := H
         have A41 := Aside0.mk A410
         clear A410
         by_cases c42 : (wrap64 (t330 * t331)) < 0
         ·rw [if_pos c42] at H
          have c42b0 : decide ((wrap64 (t330 * t331)) < 0) = true := decide_eq_true c42
          clear c42
          obtain rfl := Option.some.inj H
          have hnb43 := NB315_316.out
          have hnc43 := NB316_315.out
          have hcz44_0 := bC BK315 0 (.int .i64 a0_0)
          have hcz44_1 := bC BK315 1 (.int .i64 a0_1)
          have hcz44_2 := bC BK315 2 (.int .i64 a0_2)
          have hcz44_3 := bC BK315 3 (.int .i64 a0_3)
          have hfz44_0 := blk_frozen BK315.out 0
          have hfz44_1 := blk_frozen BK315.out 1
          have hfz44_2 := blk_frozen BK315.out 2
          have hfz44_3 := blk_frozen BK315.out 3
          have hcz45_0 := bC BK316 0 (.int .i64 a1_0)
          have hcz45_1 := bC BK316 1 (.int .i64 a1_1)
          have hcz45_2 := bC BK316 2 (.int .i64 a1_2)
          have hcz45_3 := bC BK316 3 (.int .i64 a1_3)
          have hfz45_0 := blk_frozen BK316.out 0
          have hfz45_1 := blk_frozen BK316.out 1
          have hfz45_2 := blk_frozen BK316.out 2
          have hfz45_3 := blk_frozen BK316.out 3
          try go_wp2_with (first | ((with_reducible refine gate_callee (f := 22) rfl ?_); refine gL (some 81) Try.func22 #[.agg #[.int .i64 a0_0, .int .i64 a0_1, .int .i64 a0_2, .int .i64 a0_3], .agg #[.int .i64 a1_0, .int .i64 a1_1, .int .i64 a1_2, .int .i64 a1_3]] ?_; (with_reducible refine (spec_l5Shared.calls kj17 a0_0 a0_1 a0_2 a0_3 a1_0 a1_1 a1_2 a1_3 t327 _ A35.out).mono ?_); rintro e w46 ⟨rfl, hb⟩; refine ⟨_, rfl, ?_⟩; replace BK315 := mB BK315 hb; replace BK316 := mB BK316 hb; replace HB := sB2 HB hb GE315 GE316; (try clear hb)))
          replace BK315 := Aside0.mk (blk_drew BK315.out)
          replace BK316 := Aside0.mk (blk_drew BK316.out)
          replace HB := Aside0.mk (below_drew1 HB.out)
          refine start_ (n := 34) (S := fun w' => w'.cell? ⟨gb315, 0, none⟩ = some (.int .i64 a0_0) ∧ w'.cell? ⟨gb315, 1, none⟩ = some (.int .i64 a0_1) ∧ w'.cell? ⟨gb315, 2, none⟩ = some (.int .i64 a0_2) ∧ w'.cell? ⟨gb315, 3, none⟩ = some (.int .i64 a0_3) ∧ w'.cell? ⟨gb316, 0, none⟩ = some (.int .i64 a1_0) ∧ w'.cell? ⟨gb316, 1, none⟩ = some (.int .i64 a1_1) ∧ w'.cell? ⟨gb316, 2, none⟩ = some (.int .i64 a1_2) ∧ w'.cell? ⟨gb316, 3, none⟩ = some (.int .i64 a1_3)) (ds := []) #[false, false, false, false, false, false, false, false, false, false, false, false, false, false, false, false, false, false, false, false, false, false, false, false, false, false, false, false, false, false, false, false, false, false] (by kernel_rfl) rfl rfl ⟨(blk_cell BK315.out 0).trans rfl, (blk_cell BK315.out 1).trans rfl, (blk_cell BK315.out 2).trans rfl, (blk_cell BK315.out 3).trans rfl, (blk_cell BK316.out 0).trans rfl, (blk_cell BK316.out 1).trans rfl, (blk_cell BK316.out 2).trans rfl, (blk_cell BK316.out 3).trans rfl⟩ (fun hHeld => ?_); refine with_tabW spec_HowMeet.tab7 spec_HowMeet.bits7 (fun HT_ HW_ => ?_)
          generalize w46.drew = w47 at BK315 BK316 HB hHeld ⊢
          refine pA HT_.out 0 84 ?_
          refine pA HT_.out 2 86 ?_
          refine pA HT_.out 4 88 ?_
          refine pA HT_.out 7 91 ?_
          refine pA HT_.out 9 93 ?_
          refine pA HT_.out 11 95 ?_
          refine tA8 HT_.out HW_.out 1 85 hHeld ?_
          refine tA8 HT_.out HW_.out 3 87 hHeld ?_
          refine tA8 HT_.out HW_.out 5 89 hHeld ?_
          refine tA8 HT_.out HW_.out 8 92 hHeld ?_
          refine tA8 HT_.out HW_.out 10 94 hHeld ?_
          refine tA8 HT_.out HW_.out 12 96 hHeld ?_
          refine one_ (i := 6) (N := some 90) #[true, true, true, true, true, true, true, true, true, true, true, true, true, false, false, false, false, false, false, false, false, false, false, false, false, false, false, false, false, false, false, false, false, false] rfl rfl (one_of HT_.out (by kernel_rfl)) (by decide) (fun K hK => ?_)
          refine gS Try.func23 #[.agg #[.int .i64 a0_0, .int .i64 a0_1], .agg #[.int .i64 a0_2, .int .i64 a0_3], .agg #[.int .i64 a1_0, .int .i64 a1_1]] ?_
          with_reducible refine (spec_SideOf.calls kj17 a0_0 a0_1 a0_2 a0_3 a1_0 a1_1 t328 _ A37.out).mono ?_
          rintro e w48 ⟨rfl, hb⟩
          refine ⟨_, rfl, ?_⟩
          replace BK315 := mB BK315 hb
          replace BK316 := mB BK316 hb
          replace HB := sB2 HB hb GE315 GE316
          (try clear hb)
          (try clear hb2)
          (try clear hk)
          (try clear hi)
          refine hK.out _ _ ⟨(blk_cell BK315.out 0).trans rfl, (blk_cell BK315.out 1).trans rfl, (blk_cell BK315.out 2).trans rfl, (blk_cell BK315.out 3).trans rfl, (blk_cell BK316.out 0).trans rfl, (blk_cell BK316.out 1).trans rfl, (blk_cell BK316.out 2).trans rfl, (blk_cell BK316.out 3).trans rfl⟩ (fun hHeld => ?_)
          clear hK K
          refine norm_ (a' := ?_) ?_ ?_
          rotate_left
          ·show Act.put _ (some 90) _ = _
           simp only [Act.put, List.setIfInBounds_toArray, List.set_cons_zero, List.set_cons_succ, i64_w, i32_w]
           rfl
          refine one_ (i := 13) (N := some 97) #[true, true, true, true, true, true, true, true, true, true, true, true, true, true, false, false, false, false, false, false, false, false, false, false, false, false, false, false, false, false, false, false, false, false] rfl rfl (one_of HT_.out (by kernel_rfl)) (by decide) (fun K hK => ?_)
          refine gS Try.func23 #[.agg #[.int .i64 a0_0, .int .i64 a0_1], .agg #[.int .i64 a0_2, .int .i64 a0_3], .agg #[.int .i64 a1_2, .int .i64 a1_3]] ?_
          with_reducible refine (spec_SideOf.calls kj17 a0_0 a0_1 a0_2 a0_3 a1_2 a1_3 t329 _ A38.out).mono ?_
          rintro e w49 ⟨rfl, hb⟩
          refine ⟨_, rfl, ?_⟩
          replace BK315 := mB BK315 hb
          replace BK316 := mB BK316 hb
          replace HB := sB2 HB hb GE315 GE316
          (try clear hb)
          (try clear hb2)
          (try clear hk)
          (try clear hi)
          refine hK.out _ _ ⟨(blk_cell BK315.out 0).trans rfl, (blk_cell BK315.out 1).trans rfl, (blk_cell BK315.out 2).trans rfl, (blk_cell BK315.out 3).trans rfl, (blk_cell BK316.out 0).trans rfl, (blk_cell BK316.out 1).trans rfl, (blk_cell BK316.out 2).trans rfl, (blk_cell BK316.out 3).trans rfl⟩ (fun hHeld => ?_)
          clear hK K
          refine norm_ (a' := ?_) ?_ ?_
          rotate_left
          ·show Act.put _ (some 97) _ = _
           simp only [Act.put, List.setIfInBounds_toArray, List.set_cons_zero, List.set_cons_succ, i64_w, i32_w]
           rfl
          refine pA HT_.out 14 98 ?_
          refine pA HT_.out 15 99 ?_
          refine pA HT_.out 16 100 ?_
          refine pA HT_.out 17 101 ?_
          refine pA HT_.out 19 103 ?_
          refine pA HT_.out 21 105 ?_
          refine pA HT_.out 24 108 ?_
          refine pA HT_.out 26 110 ?_
          refine pA HT_.out 28 112 ?_
          refine tA8 HT_.out HW_.out 18 102 hHeld ?_
          refine tA8 HT_.out HW_.out 20 104 hHeld ?_
          refine tA8 HT_.out HW_.out 22 106 hHeld ?_
          refine tA8 HT_.out HW_.out 25 109 hHeld ?_
          refine tA8 HT_.out HW_.out 27 111 hHeld ?_
          refine tA8 HT_.out HW_.out 29 113 hHeld ?_
          refine one_ (i := 23) (N := some 107) #[true, true, true, true, true, true, true, true, true, true, true, true, true, true, true, true, true, true, true, true, true, true, true, true, true, true, true, true, true, true, false, false, false, false] rfl rfl (one_of HT_.out (by kernel_rfl)) (by decide) (fun K hK => ?_)
          refine gS Try.func23 #[.agg #[.int .i64 a1_0, .int .i64 a1_1], .agg #[.int .i64 a1_2, .int .i64 a1_3], .agg #[.int .i64 a0_0, .int .i64 a0_1]] ?_
          with_reducible refine (spec_SideOf.calls kj17 a1_0 a1_1 a1_2 a1_3 a0_0 a0_1 t330 _ A40.out).mono ?_
          rintro e w50 ⟨rfl, hb⟩
          refine ⟨_, rfl, ?_⟩
          replace BK315 := mB BK315 hb
          replace BK316 := mB BK316 hb
          replace HB := sB2 HB hb GE315 GE316
          (try clear hb)
          (try clear hb2)
          (try clear hk)
          (try clear hi)
          refine hK.out _ _ ⟨(blk_cell BK315.out 0).trans rfl, (blk_cell BK315.out 1).trans rfl, (blk_cell BK315.out 2).trans rfl, (blk_cell BK315.out 3).trans rfl, (blk_cell BK316.out 0).trans rfl, (blk_cell BK316.out 1).trans rfl, (blk_cell BK316.out 2).trans rfl, (blk_cell BK316.out 3).trans rfl⟩ (fun hHeld => ?_)
          clear hK K
          refine norm_ (a' := ?_) ?_ ?_
          rotate_left
          ·show Act.put _ (some 107) _ = _
           simp only [Act.put, List.setIfInBounds_toArray, List.set_cons_zero, List.set_cons_succ, i64_w, i32_w]
           rfl
          refine one_ (i := 30) (N := some 114) #[true, true, true, true, true, true, true, true, true, true, true, true, true, true, true, true, true, true, true, true, true, true, true, true, true, true, true, true, true, true, true, false, false, false] rfl rfl (one_of HT_.out (by kernel_rfl)) (by decide) (fun K hK => ?_)
          refine gS Try.func23 #[.agg #[.int .i64 a1_0, .int .i64 a1_1], .agg #[.int .i64 a1_2, .int .i64 a1_3], .agg #[.int .i64 a0_2, .int .i64 a0_3]] ?_
          with_reducible refine (spec_SideOf.calls kj17 a1_0 a1_1 a1_2 a1_3 a0_2 a0_3 t331 _ A41.out).mono ?_
          rintro e w51 ⟨rfl, hb⟩
          refine ⟨_, rfl, ?_⟩
          replace BK315 := mB BK315 hb
          replace BK316 := mB BK316 hb
          replace HB := sB2 HB hb GE315 GE316
          (try clear hb)
          (try clear hb2)
          (try clear hk)
          (try clear hi)
          refine hK.out _ _ ⟨(blk_cell BK315.out 0).trans rfl, (blk_cell BK315.out 1).trans rfl, (blk_cell BK315.out 2).trans rfl, (blk_cell BK315.out 3).trans rfl, (blk_cell BK316.out 0).trans rfl, (blk_cell BK316.out 1).trans rfl, (blk_cell BK316.out 2).trans rfl, (blk_cell BK316.out 3).trans rfl⟩ (fun hHeld => ?_)
          clear hK K
          refine norm_ (a' := ?_) ?_ ?_
          rotate_left
          ·show Act.put _ (some 114) _ = _
           simp only [Act.put, List.setIfInBounds_toArray, List.set_cons_zero, List.set_cons_succ, i64_w, i32_w]
           rfl
          refine pA HT_.out 31 115 ?_
          refine pA HT_.out 32 116 ?_
          refine pA HT_.out 33 117 ?_
          refine done_ (done_of HT_.out (by kernel_rfl)) ?_
          try go_wp2
          go_ret
          exact ⟨by first | rfl | (simp [errW_none, errW_some] <;> rfl) | (simp [*, errW_none, errW_some] <;> rfl), eB2 HB GE315 GE316⟩
         ·rw [if_neg c42] at H
          have c42b0 : decide ((wrap64 (t330 * t331)) < 0) = false := decide_eq_false c42
          clear c42
          obtain rfl := Option.some.inj H
          have hnb52 := NB315_316.out
          have hnc52 := NB316_315.out
          have hcz53_0 := bC BK315 0 (.int .i64 a0_0)
          have hcz53_1 := bC BK315 1 (.int .i64 a0_1)
          have hcz53_2 := bC BK315 2 (.int .i64 a0_2)
          have hcz53_3 := bC BK315 3 (.int .i64 a0_3)
          have hfz53_0 := blk_frozen BK315.out 0
          have hfz53_1 := blk_frozen BK315.out 1
          have hfz53_2 := blk_frozen BK315.out 2
          have hfz53_3 := blk_frozen BK315.out 3
          have hcz54_0 := bC BK316 0 (.int .i64 a1_0)
          have hcz54_1 := bC BK316 1 (.int .i64 a1_1)
          have hcz54_2 := bC BK316 2 (.int .i64 a1_2)
          have hcz54_3 := bC BK316 3 (.int .i64 a1_3)
          have hfz54_0 := blk_frozen BK316.out 0
          have hfz54_1 := blk_frozen BK316.out 1
          have hfz54_2 := blk_frozen BK316.out 2
          have hfz54_3 := blk_frozen BK316.out 3
          try go_wp2_with (first | ((with_reducible refine gate_callee (f := 22) rfl ?_); refine gL (some 81) Try.func22 #[.agg #[.int .i64 a0_0, .int .i64 a0_1, .int .i64 a0_2, .int .i64 a0_3], .agg #[.int .i64 a1_0, .int .i64 a1_1, .int .i64 a1_2, .int .i64 a1_3]] ?_; (with_reducible refine (spec_l5Shared.calls kj17 a0_0 a0_1 a0_2 a0_3 a1_0 a1_1 a1_2 a1_3 t327 _ A35.out).mono ?_); rintro e w55 ⟨rfl, hb⟩; refine ⟨_, rfl, ?_⟩; replace BK315 := mB BK315 hb; replace BK316 := mB BK316 hb; replace HB := sB2 HB hb GE315 GE316; (try clear hb)))
          replace BK315 := Aside0.mk (blk_drew BK315.out)
          replace BK316 := Aside0.mk (blk_drew BK316.out)
          replace HB := Aside0.mk (below_drew1 HB.out)
          refine start_ (n := 34) (S := fun w' => w'.cell? ⟨gb315, 0, none⟩ = some (.int .i64 a0_0) ∧ w'.cell? ⟨gb315, 1, none⟩ = some (.int .i64 a0_1) ∧ w'.cell? ⟨gb315, 2, none⟩ = some (.int .i64 a0_2) ∧ w'.cell? ⟨gb315, 3, none⟩ = some (.int .i64 a0_3) ∧ w'.cell? ⟨gb316, 0, none⟩ = some (.int .i64 a1_0) ∧ w'.cell? ⟨gb316, 1, none⟩ = some (.int .i64 a1_1) ∧ w'.cell? ⟨gb316, 2, none⟩ = some (.int .i64 a1_2) ∧ w'.cell? ⟨gb316, 3, none⟩ = some (.int .i64 a1_3)) (ds := []) #[false, false, false, false, false, false, false, false, false, false, false, false, false, false, false, false, false, false, false, false, false, false, false, false, false, false, false, false, false, false, false, false, false, false] (by kernel_rfl) rfl rfl ⟨(blk_cell BK315.out 0).trans rfl, (blk_cell BK315.out 1).trans rfl, (blk_cell BK315.out 2).trans rfl, (blk_cell BK315.out 3).trans rfl, (blk_cell BK316.out 0).trans rfl, (blk_cell BK316.out 1).trans rfl, (blk_cell BK316.out 2).trans rfl, (blk_cell BK316.out 3).trans rfl⟩ (fun hHeld => ?_); refine with_tabW spec_HowMeet.tab7 spec_HowMeet.bits7 (fun HT_ HW_ => ?_)
          generalize w55.drew = w56 at BK315 BK316 HB hHeld ⊢
          refine pA HT_.out 0 84 ?_
          refine pA HT_.out 2 86 ?_
          refine pA HT_.out 4 88 ?_
          refine pA HT_.out 7 91 ?_
          refine pA HT_.out 9 93 ?_
          refine pA HT_.out 11 95 ?_
          refine tA8 HT_.out HW_.out 1 85 hHeld ?_
          refine tA8 HT_.out HW_.out 3 87 hHeld ?_
          refine tA8 HT_.out HW_.out 5 89 hHeld ?_
          refine tA8 HT_.out HW_.out 8 92 hHeld ?_
          refine tA8 HT_.out HW_.out 10 94 hHeld ?_
          refine tA8 HT_.out HW_.out 12 96 hHeld ?_
          refine one_ (i := 6) (N := some 90) #[true, true, true, true, true, true, true, true, true, true, true, true, true, false, false, false, false, false, false, false, false, false, false, false, false, false, false, false, false, false, false, false, false, false] rfl rfl (one_of HT_.out (by kernel_rfl)) (by decide) (fun K hK => ?_)
          refine gS Try.func23 #[.agg #[.int .i64 a0_0, .int .i64 a0_1], .agg #[.int .i64 a0_2, .int .i64 a0_3], .agg #[.int .i64 a1_0, .int .i64 a1_1]] ?_
          with_reducible refine (spec_SideOf.calls kj17 a0_0 a0_1 a0_2 a0_3 a1_0 a1_1 t328 _ A37.out).mono ?_
          rintro e w57 ⟨rfl, hb⟩
          refine ⟨_, rfl, ?_⟩
          replace BK315 := mB BK315 hb
          replace BK316 := mB BK316 hb
          replace HB := sB2 HB hb GE315 GE316
          (try clear hb)
          (try clear hb2)
          (try clear hk)
          (try clear hi)
          refine hK.out _ _ ⟨(blk_cell BK315.out 0).trans rfl, (blk_cell BK315.out 1).trans rfl, (blk_cell BK315.out 2).trans rfl, (blk_cell BK315.out 3).trans rfl, (blk_cell BK316.out 0).trans rfl, (blk_cell BK316.out 1).trans rfl, (blk_cell BK316.out 2).trans rfl, (blk_cell BK316.out 3).trans rfl⟩ (fun hHeld => ?_)
          clear hK K
          refine norm_ (a' := ?_) ?_ ?_
          rotate_left
          ·show Act.put _ (some 90) _ = _
           simp only [Act.put, List.setIfInBounds_toArray, List.set_cons_zero, List.set_cons_succ, i64_w, i32_w]
           rfl
          refine one_ (i := 13) (N := some 97) #[true, true, true, true, true, true, true, true, true, true, true, true, true, true, false, false, false, false, false, false, false, false, false, false, false, false, false, false, false, false, false, false, false, false] rfl rfl (one_of HT_.out (by kernel_rfl)) (by decide) (fun K hK => ?_)
          refine gS Try.func23 #[.agg #[.int .i64 a0_0, .int .i64 a0_1], .agg #[.int .i64 a0_2, .int .i64 a0_3], .agg #[.int .i64 a1_2, .int .i64 a1_3]] ?_
          with_reducible refine (spec_SideOf.calls kj17 a0_0 a0_1 a0_2 a0_3 a1_2 a1_3 t329 _ A38.out).mono ?_
          rintro e w58 ⟨rfl, hb⟩
          refine ⟨_, rfl, ?_⟩
          replace BK315 := mB BK315 hb
          replace BK316 := mB BK316 hb
          replace HB := sB2 HB hb GE315 GE316
          (try clear hb)
          (try clear hb2)
          (try clear hk)
          (try clear hi)
          refine hK.out _ _ ⟨(blk_cell BK315.out 0).trans rfl, (blk_cell BK315.out 1).trans rfl, (blk_cell BK315.out 2).trans rfl, (blk_cell BK315.out 3).trans rfl, (blk_cell BK316.out 0).trans rfl, (blk_cell BK316.out 1).trans rfl, (blk_cell BK316.out 2).trans rfl, (blk_cell BK316.out 3).trans rfl⟩ (fun hHeld => ?_)
          clear hK K
          refine norm_ (a' := ?_) ?_ ?_
          rotate_left
          ·show Act.put _ (some 97) _ = _
           simp only [Act.put, List.setIfInBounds_toArray, List.set_cons_zero, List.set_cons_succ, i64_w, i32_w]
           rfl
          refine pA HT_.out 14 98 ?_
          refine pA HT_.out 15 99 ?_
          refine pA HT_.out 16 100 ?_
          refine pA HT_.out 17 101 ?_
          refine pA HT_.out 19 103 ?_
          refine pA HT_.out 21 105 ?_
          refine pA HT_.out 24 108 ?_
          refine pA HT_.out 26 110 ?_
          refine pA HT_.out 28 112 ?_
          refine tA8 HT_.out HW_.out 18 102 hHeld ?_
          refine tA8 HT_.out HW_.out 20 104 hHeld ?_
          refine tA8 HT_.out HW_.out 22 106 hHeld ?_
          refine tA8 HT_.out HW_.out 25 109 hHeld ?_
          refine tA8 HT_.out HW_.out 27 111 hHeld ?_
          refine tA8 HT_.out HW_.out 29 113 hHeld ?_
          refine one_ (i := 23) (N := some 107) #[true, true, true, true, true, true, true, true, true, true, true, true, true, true, true, true, true, true, true, true, true, true, true, true, true, true, true, true, true, true, false, false, false, false] rfl rfl (one_of HT_.out (by kernel_rfl)) (by decide) (fun K hK => ?_)
          refine gS Try.func23 #[.agg #[.int .i64 a1_0, .int .i64 a1_1], .agg #[.int .i64 a1_2, .int .i64 a1_3], .agg #[.int .i64 a0_0, .int .i64 a0_1]] ?_
          with_reducible refine (spec_SideOf.calls kj17 a1_0 a1_1 a1_2 a1_3 a0_0 a0_1 t330 _ A40.out).mono ?_
          rintro e w59 ⟨rfl, hb⟩
          refine ⟨_, rfl, ?_⟩
          replace BK315 := mB BK315 hb
          replace BK316 := mB BK316 hb
          replace HB := sB2 HB hb GE315 GE316
          (try clear hb)
          (try clear hb2)
          (try clear hk)
          (try clear hi)
          refine hK.out _ _ ⟨(blk_cell BK315.out 0).trans rfl, (blk_cell BK315.out 1).trans rfl, (blk_cell BK315.out 2).trans rfl, (blk_cell BK315.out 3).trans rfl, (blk_cell BK316.out 0).trans rfl, (blk_cell BK316.out 1).trans rfl, (blk_cell BK316.out 2).trans rfl, (blk_cell BK316.out 3).trans rfl⟩ (fun hHeld => ?_)
          clear hK K
          refine norm_ (a' := ?_) ?_ ?_
          rotate_left
          ·show Act.put _ (some 107) _ = _
           simp only [Act.put, List.setIfInBounds_toArray, List.set_cons_zero, List.set_cons_succ, i64_w, i32_w]
           rfl
          refine one_ (i := 30) (N := some 114) #[true, true, true, true, true, true, true, true, true, true, true, true, true, true, true, true, true, true, true, true, true, true, true, true, true, true, true, true, true, true, true, false, false, false] rfl rfl (one_of HT_.out (by kernel_rfl)) (by decide) (fun K hK => ?_)
          refine gS Try.func23 #[.agg #[.int .i64 a1_0, .int .i64 a1_1], .agg #[.int .i64 a1_2, .int .i64 a1_3], .agg #[.int .i64 a0_2, .int .i64 a0_3]] ?_
          with_reducible refine (spec_SideOf.calls kj17 a1_0 a1_1 a1_2 a1_3 a0_2 a0_3 t331 _ A41.out).mono ?_
          rintro e w60 ⟨rfl, hb⟩
          refine ⟨_, rfl, ?_⟩
          replace BK315 := mB BK315 hb
          replace BK316 := mB BK316 hb
          replace HB := sB2 HB hb GE315 GE316
          (try clear hb)
          (try clear hb2)
          (try clear hk)
          (try clear hi)
          refine hK.out _ _ ⟨(blk_cell BK315.out 0).trans rfl, (blk_cell BK315.out 1).trans rfl, (blk_cell BK315.out 2).trans rfl, (blk_cell BK315.out 3).trans rfl, (blk_cell BK316.out 0).trans rfl, (blk_cell BK316.out 1).trans rfl, (blk_cell BK316.out 2).trans rfl, (blk_cell BK316.out 3).trans rfl⟩ (fun hHeld => ?_)
          clear hK K
          refine norm_ (a' := ?_) ?_ ?_
          rotate_left
          ·show Act.put _ (some 114) _ = _
           simp only [Act.put, List.setIfInBounds_toArray, List.set_cons_zero, List.set_cons_succ, i64_w, i32_w]
           rfl
          refine pA HT_.out 31 115 ?_
          refine pA HT_.out 32 116 ?_
          refine pA HT_.out 33 117 ?_
          refine done_ (done_of HT_.out (by kernel_rfl)) ?_
          try go_wp2
          go_ret
          exact ⟨by first | rfl | (simp [errW_none, errW_some] <;> rfl) | (simp [*, errW_none, errW_some] <;> rfl), eB2 HB GE315 GE316⟩
        ·rw [if_neg c39] at H
         have c39b0 : decide ((wrap64 (t328 * t329)) < 0) = false := decide_eq_false c39
         clear c39
         obtain rfl := Option.some.inj H
         have hnb61 := NB315_316.out
         have hnc61 := NB316_315.out
         have hcz62_0 := bC BK315 0 (.int .i64 a0_0)
         have hcz62_1 := bC BK315 1 (.int .i64 a0_1)
         have hcz62_2 := bC BK315 2 (.int .i64 a0_2)
         have hcz62_3 := bC BK315 3 (.int .i64 a0_3)
         have hfz62_0 := blk_frozen BK315.out 0
         have hfz62_1 := blk_frozen BK315.out 1
         have hfz62_2 := blk_frozen BK315.out 2
         have hfz62_3 := blk_frozen BK315.out 3
         have hcz63_0 := bC BK316 0 (.int .i64 a1_0)
         have hcz63_1 := bC BK316 1 (.int .i64 a1_1)
         have hcz63_2 := bC BK316 2 (.int .i64 a1_2)
         have hcz63_3 := bC BK316 3 (.int .i64 a1_3)
         have hfz63_0 := blk_frozen BK316.out 0
         have hfz63_1 := blk_frozen BK316.out 1
         have hfz63_2 := blk_frozen BK316.out 2
         have hfz63_3 := blk_frozen BK316.out 3
         try go_wp2_with (first | ((with_reducible refine gate_callee (f := 22) rfl ?_); refine gL (some 81) Try.func22 #[.agg #[.int .i64 a0_0, .int .i64 a0_1, .int .i64 a0_2, .int .i64 a0_3], .agg #[.int .i64 a1_0, .int .i64 a1_1, .int .i64 a1_2, .int .i64 a1_3]] ?_; (with_reducible refine (spec_l5Shared.calls kj17 a0_0 a0_1 a0_2 a0_3 a1_0 a1_1 a1_2 a1_3 t327 _ A35.out).mono ?_); rintro e w64 ⟨rfl, hb⟩; refine ⟨_, rfl, ?_⟩; replace BK315 := mB BK315 hb; replace BK316 := mB BK316 hb; replace HB := sB2 HB hb GE315 GE316; (try clear hb)))
         replace BK315 := Aside0.mk (blk_drew BK315.out)
         replace BK316 := Aside0.mk (blk_drew BK316.out)
         replace HB := Aside0.mk (below_drew1 HB.out)
         refine start_ (n := 34) (S := fun w' => w'.cell? ⟨gb315, 0, none⟩ = some (.int .i64 a0_0) ∧ w'.cell? ⟨gb315, 1, none⟩ = some (.int .i64 a0_1) ∧ w'.cell? ⟨gb315, 2, none⟩ = some (.int .i64 a0_2) ∧ w'.cell? ⟨gb315, 3, none⟩ = some (.int .i64 a0_3) ∧ w'.cell? ⟨gb316, 0, none⟩ = some (.int .i64 a1_0) ∧ w'.cell? ⟨gb316, 1, none⟩ = some (.int .i64 a1_1) ∧ w'.cell? ⟨gb316, 2, none⟩ = some (.int .i64 a1_2) ∧ w'.cell? ⟨gb316, 3, none⟩ = some (.int .i64 a1_3)) (ds := []) #[false, false, false, false, false, false, false, false, false, false, false, false, false, false, false, false, false, false, false, false, false, false, false, false, false, false, false, false, false, false, false, false, false, false] (by kernel_rfl) rfl rfl ⟨(blk_cell BK315.out 0).trans rfl, (blk_cell BK315.out 1).trans rfl, (blk_cell BK315.out 2).trans rfl, (blk_cell BK315.out 3).trans rfl, (blk_cell BK316.out 0).trans rfl, (blk_cell BK316.out 1).trans rfl, (blk_cell BK316.out 2).trans rfl, (blk_cell BK316.out 3).trans rfl⟩ (fun hHeld => ?_); refine with_tabW spec_HowMeet.tab7 spec_HowMeet.bits7 (fun HT_ HW_ => ?_)
         generalize w64.drew = w65 at BK315 BK316 HB hHeld ⊢
         refine pA HT_.out 0 84 ?_
         refine pA HT_.out 2 86 ?_
         refine pA HT_.out 4 88 ?_
         refine pA HT_.out 7 91 ?_
         refine pA HT_.out 9 93 ?_
         refine pA HT_.out 11 95 ?_
         refine tA8 HT_.out HW_.out 1 85 hHeld ?_
         refine tA8 HT_.out HW_.out 3 87 hHeld ?_
         refine tA8 HT_.out HW_.out 5 89 hHeld ?_
         refine tA8 HT_.out HW_.out 8 92 hHeld ?_
         refine tA8 HT_.out HW_.out 10 94 hHeld ?_
         refine tA8 HT_.out HW_.out 12 96 hHeld ?_
         refine one_ (i := 6) (N := some 90) #[true, true, true, true, true, true, true, true, true, true, true, true, true, false, false, false, false, false, false, false, false, false, false, false, false, false, false, false, false, false, false, false, false, false] rfl rfl (one_of HT_.out (by kernel_rfl)) (by decide) (fun K hK => ?_)
         refine gS Try.func23 #[.agg #[.int .i64 a0_0, .int .i64 a0_1], .agg #[.int .i64 a0_2, .int .i64 a0_3], .agg #[.int .i64 a1_0, .int .i64 a1_1]] ?_
         with_reducible refine (spec_SideOf.calls kj17 a0_0 a0_1 a0_2 a0_3 a1_0 a1_1 t328 _ A37.out).mono ?_
         rintro e w66 ⟨rfl, hb⟩
         refine ⟨_, rfl, ?_⟩
         replace BK315 := mB BK315 hb
         replace BK316 := mB BK316 hb
         replace HB := sB2 HB hb GE315 GE316
         (try clear hb)
         (try clear hb2)
         (try clear hk)
         (try clear hi)
         refine hK.out _ _ ⟨(blk_cell BK315.out 0).trans rfl, (blk_cell BK315.out 1).trans rfl, (blk_cell BK315.out 2).trans rfl, (blk_cell BK315.out 3).trans rfl, (blk_cell BK316.out 0).trans rfl, (blk_cell BK316.out 1).trans rfl, (blk_cell BK316.out 2).trans rfl, (blk_cell BK316.out 3).trans rfl⟩ (fun hHeld => ?_)
         clear hK K
         refine norm_ (a' := ?_) ?_ ?_
         rotate_left
         ·show Act.put _ (some 90) _ = _
          simp only [Act.put, List.setIfInBounds_toArray, List.set_cons_zero, List.set_cons_succ, i64_w, i32_w]
          rfl
         refine one_ (i := 13) (N := some 97) #[true, true, true, true, true, true, true, true, true, true, true, true, true, true, false, false, false, false, false, false, false, false, false, false, false, false, false, false, false, false, false, false, false, false] rfl rfl (one_of HT_.out (by kernel_rfl)) (by decide) (fun K hK => ?_)
         refine gS Try.func23 #[.agg #[.int .i64 a0_0, .int .i64 a0_1], .agg #[.int .i64 a0_2, .int .i64 a0_3], .agg #[.int .i64 a1_2, .int .i64 a1_3]] ?_
         with_reducible refine (spec_SideOf.calls kj17 a0_0 a0_1 a0_2 a0_3 a1_2 a1_3 t329 _ A38.out).mono ?_
         rintro e w67 ⟨rfl, hb⟩
         refine ⟨_, rfl, ?_⟩
         replace BK315 := mB BK315 hb
         replace BK316 := mB BK316 hb
         replace HB := sB2 HB hb GE315 GE316
         (try clear hb)
         (try clear hb2)
         (try clear hk)
         (try clear hi)
         refine hK.out _ _ ⟨(blk_cell BK315.out 0).trans rfl, (blk_cell BK315.out 1).trans rfl, (blk_cell BK315.out 2).trans rfl, (blk_cell BK315.out 3).trans rfl, (blk_cell BK316.out 0).trans rfl, (blk_cell BK316.out 1).trans rfl, (blk_cell BK316.out 2).trans rfl, (blk_cell BK316.out 3).trans rfl⟩ (fun hHeld => ?_)
         clear hK K
         refine norm_ (a' := ?_) ?_ ?_
         rotate_left
         ·show Act.put _ (some 97) _ = _
          simp only [Act.put, List.setIfInBounds_toArray, List.set_cons_zero, List.set_cons_succ, i64_w, i32_w]
          rfl
         refine pA HT_.out 14 98 ?_
         refine pA HT_.out 15 99 ?_
         refine pA HT_.out 16 100 ?_
         refine pU HT_.out 17 101 ?_
         refine pU HT_.out 18 102 ?_
         refine pU HT_.out 19 103 ?_
         refine pU HT_.out 20 104 ?_
         refine pU HT_.out 21 105 ?_
         refine pU HT_.out 22 106 ?_
         refine pU HT_.out 23 107 ?_
         refine pU HT_.out 24 108 ?_
         refine pU HT_.out 25 109 ?_
         refine pU HT_.out 26 110 ?_
         refine pU HT_.out 27 111 ?_
         refine pU HT_.out 28 112 ?_
         refine pU HT_.out 29 113 ?_
         refine pU HT_.out 30 114 ?_
         refine pU HT_.out 31 115 ?_
         refine pU HT_.out 32 116 ?_
         refine pA HT_.out 33 117 ?_
         refine done_ (done_of HT_.out (by kernel_rfl)) ?_
         try go_wp2
         go_ret
         exact ⟨by first | rfl | (simp [errW_none, errW_some] <;> rfl) | (simp [*, errW_none, errW_some] <;> rfl), eB2 HB GE315 GE316⟩
       ·rw [if_neg c36] at H
        have c36b0 : (t327 == 0) = false := beq_eq_false_iff_ne.mpr c36
        have c36b1 : (t327 != 0) = true := bne_iff_ne.mpr c36
        by_cases c68 : t327 = 1
        ·rw [if_pos c68] at H
         have c68b0 : (t327 == 1) = true := beq_iff_eq.mpr c68
         have c68b1 : (t327 != 1) = false := bne_eq_false_iff_eq.mpr c68
         clear c68
         obtain rfl := Option.some.inj H
         have hnb69 := NB315_316.out
         have hnc69 := NB316_315.out
         have hcz70_0 := bC BK315 0 (.int .i64 a0_0)
         have hcz70_1 := bC BK315 1 (.int .i64 a0_1)
         have hcz70_2 := bC BK315 2 (.int .i64 a0_2)
         have hcz70_3 := bC BK315 3 (.int .i64 a0_3)
         have hfz70_0 := blk_frozen BK315.out 0
         have hfz70_1 := blk_frozen BK315.out 1
         have hfz70_2 := blk_frozen BK315.out 2
         have hfz70_3 := blk_frozen BK315.out 3
         have hcz71_0 := bC BK316 0 (.int .i64 a1_0)
         have hcz71_1 := bC BK316 1 (.int .i64 a1_1)
         have hcz71_2 := bC BK316 2 (.int .i64 a1_2)
         have hcz71_3 := bC BK316 3 (.int .i64 a1_3)
         have hfz71_0 := blk_frozen BK316.out 0
         have hfz71_1 := blk_frozen BK316.out 1
         have hfz71_2 := blk_frozen BK316.out 2
         have hfz71_3 := blk_frozen BK316.out 3
         go_wp2_with (first | ((with_reducible refine gate_callee (f := 22) rfl ?_); refine gL (some 81) Try.func22 #[.agg #[.int .i64 a0_0, .int .i64 a0_1, .int .i64 a0_2, .int .i64 a0_3], .agg #[.int .i64 a1_0, .int .i64 a1_1, .int .i64 a1_2, .int .i64 a1_3]] ?_; (with_reducible refine (spec_l5Shared.calls kj17 a0_0 a0_1 a0_2 a0_3 a1_0 a1_1 a1_2 a1_3 t327 _ A35.out).mono ?_); rintro e w72 ⟨rfl, hb⟩; refine ⟨_, rfl, ?_⟩; replace BK315 := mB BK315 hb; replace BK316 := mB BK316 hb; replace HB := sB2 HB hb GE315 GE316; (try clear hb)))
         go_ret
         exact ⟨by first | rfl | (simp [errW_none, errW_some] <;> rfl) | (simp [*, errW_none, errW_some] <;> rfl), eB2 HB GE315 GE316⟩
        ·rw [if_neg c68] at H
         have c68b0 : (t327 == 1) = false := beq_eq_false_iff_ne.mpr c68
         have c68b1 : (t327 != 1) = true := bne_iff_ne.mpr c68
         obtain rfl := Option.some.inj H
         have hnb73 := NB315_316.out
         have hnc73 := NB316_315.out
         have hcz74_0 := bC BK315 0 (.int .i64 a0_0)
         have hcz74_1 := bC BK315 1 (.int .i64 a0_1)
         have hcz74_2 := bC BK315 2 (.int .i64 a0_2)
         have hcz74_3 := bC BK315 3 (.int .i64 a0_3)
         have hfz74_0 := blk_frozen BK315.out 0
         have hfz74_1 := blk_frozen BK315.out 1
         have hfz74_2 := blk_frozen BK315.out 2
         have hfz74_3 := blk_frozen BK315.out 3
         have hcz75_0 := bC BK316 0 (.int .i64 a1_0)
         have hcz75_1 := bC BK316 1 (.int .i64 a1_1)
         have hcz75_2 := bC BK316 2 (.int .i64 a1_2)
         have hcz75_3 := bC BK316 3 (.int .i64 a1_3)
         have hfz75_0 := blk_frozen BK316.out 0
         have hfz75_1 := blk_frozen BK316.out 1
         have hfz75_2 := blk_frozen BK316.out 2
         have hfz75_3 := blk_frozen BK316.out 3
         go_wp2_with (first | ((with_reducible refine gate_callee (f := 22) rfl ?_); refine gL (some 81) Try.func22 #[.agg #[.int .i64 a0_0, .int .i64 a0_1, .int .i64 a0_2, .int .i64 a0_3], .agg #[.int .i64 a1_0, .int .i64 a1_1, .int .i64 a1_2, .int .i64 a1_3]] ?_; (with_reducible refine (spec_l5Shared.calls kj17 a0_0 a0_1 a0_2 a0_3 a1_0 a1_1 a1_2 a1_3 t327 _ A35.out).mono ?_); rintro e w76 ⟨rfl, hb⟩; refine ⟨_, rfl, ?_⟩; replace BK315 := mB BK315 hb; replace BK316 := mB BK316 hb; replace HB := sB2 HB hb GE315 GE316; (try clear hb)))
         go_ret
         exact ⟨by first | rfl | (simp [errW_none, errW_some] <;> rfl) | (simp [*, errW_none, errW_some] <;> rfl), eB2 HB GE315 GE316⟩

end Go.Proofs.Ytokhmgfjgpcmdaa.PFnSegments
