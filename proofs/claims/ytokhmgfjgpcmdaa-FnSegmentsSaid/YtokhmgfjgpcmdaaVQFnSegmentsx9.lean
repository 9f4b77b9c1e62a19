/- What the functions of FnSegments compute, each with its proof: this session's own text. -/
import Derived.Test.YtokhmgfjgpcmdaaVQFnSegmentsx0
import Derived.Test.YtokhmgfjgpcmdaaVQFnSegmentsx1
import Derived.Test.YtokhmgfjgpcmdaaVQFnSegmentsx8
namespace Go.Proofs.Ytokhmgfjgpcmdaa.PFnSegments
open Go.RowKit Go.Proofs.YtokhmgfjgpcmdaaW.PrintWords Go.Proofs.YtokhmgfjgpcmdaaW.PrintLast Go.Proofs.YtokhmgfjgpcmdaaW.PrintMore Go.Proofs.Ytokhmgfjgpcmdaa.Sh
attribute [local go_sem] max2_int min2_int max_two min_two max_three min_three max_four min_four   -- for this text's walks alone
set_option linter.unusedVariables false
set_option linter.unusedSimpArgs false

attribute [local go_sem high] eqA25
/-! ### spec_l5Shared: function 22 -/
mutual
def spec_l5Shared.l0 : Nat → List (S25) → List (S25) → Int → Int → Int → Int → Int → Int → Int → Int → Int → Option (Int)
 | 0, _, _, _, _, _, _, _, _, _, _, _ => none
 | k + 1, x5, x6, x7, x289000, x289001, x289002, x289003, x290000, x290001, x290002, x290003 => if x7 < 4 then (if x7 < 2 then (if 0 ≤ x7 then (if x7 < (x6.length : Int) then ((spec_IsOn.f x290000 x290001 x290002 x290003 ((rd_T25 x6 x7).f0) ((rd_T25 x6 x7).f1)).bind fun t297 => (if t297 = true then (spec_l5Shared.j1 k x5 x6 x7 true x289000 x289001 x289002 x289003 x290000 x290001 x290002 x290003) else (if x7 ≥ 2 then ((spec_IsOn.f x289000 x289001 x289002 x289003 ((rd_T25 x6 x7).f0) ((rd_T25 x6 x7).f1)).bind fun t299 => (spec_l5Shared.j1 k x5 x6 x7 t299 x289000 x289001 x289002 x289003 x290000 x290001 x290002 x290003)) else (spec_l5Shared.j1 k x5 x6 x7 false x289000 x289001 x289002 x289003 x290000 x290001 x290002 x290003)))) else (none)) else (none)) else (if x7 ≥ 2 then (if 0 ≤ x7 then (if x7 < (x6.length : Int) then ((spec_IsOn.f x289000 x289001 x289002 x289003 ((rd_T25 x6 x7).f0) ((rd_T25 x6 x7).f1)).bind fun t301 => (spec_l5Shared.j1 k x5 x6 x7 t301 x289000 x289001 x289002 x289003 x290000 x290001 x290002 x290003)) else (none)) else (none)) else (spec_l5Shared.j1 k x5 x6 x7 false x289000 x289001 x289002 x289003 x290000 x290001 x290002 x290003))) else (some (x5.length : Int))
def spec_l5Shared.j1 : Nat → List (S25) → List (S25) → Int → Bool → Int → Int → Int → Int → Int → Int → Int → Int → Option (Int)
 | 0, _, _, _, _, _, _, _, _, _, _, _, _ => none
 | k + 1, x5, x6, x7, x8, x289000, x289001, x289002, x289003, x290000, x290001, x290002, x290003 => spec_l5Shared.l1 k x5 x6 x7 x8 0 x289000 x289001 x289002 x289003 x290000 x290001 x290002 x290003
def spec_l5Shared.l1 : Nat → List (S25) → List (S25) → Int → Bool → Int → Int → Int → Int → Int → Int → Int → Int → Int → Option (Int)
 | 0, _, _, _, _, _, _, _, _, _, _, _, _, _ => none
 | k + 1, x5, x6, x7, x8, x9, x289000, x289001, x289002, x289003, x290000, x290001, x290002, x290003 => if x9 < (x5.length : Int) then (if x8 = true then (if 0 ≤ x9 then (if 0 ≤ x7 then (if x7 < (x6.length : Int) then (spec_l5Shared.l1 k x5 x6 x7 (!(((rd_T25 x5 x9).f0) == ((rd_T25 x6 x7).f0)) || (!(((rd_T25 x5 x9).f1) == ((rd_T25 x6 x7).f1)))) (wrap64 (x9 + 1)) x289000 x289001 x289002 x289003 x290000 x290001 x290002 x290003) else (none)) else (none)) else (none)) else (spec_l5Shared.l1 k x5 x6 x7 false (wrap64 (x9 + 1)) x289000 x289001 x289002 x289003 x290000 x290001 x290002 x290003)) else (if x8 = true then (if 0 ≤ x7 then (if x7 < (x6.length : Int) then (if x5.length < 8796093022208 then (spec_l5Shared.l0 k (x5 ++ [(⟨(rd_T25 x6 x7).f0, (rd_T25 x6 x7).f1⟩ : S25)]) x6 (wrap64 (x7 + 1)) x289000 x289001 x289002 x289003 x290000 x290001 x290002 x290003) else (none)) else (none)) else (none)) else (spec_l5Shared.l0 k x5 x6 (wrap64 (x7 + 1)) x289000 x289001 x289002 x289003 x290000 x290001 x290002 x290003))
end
def spec_l5Shared.f (k : Nat) (a0_0 : Int) (a0_1 : Int) (a0_2 : Int) (a0_3 : Int) (a1_0 : Int) (a1_1 : Int) (a1_2 : Int) (a1_3 : Int) : Option (Int) := spec_l5Shared.l0 k (([] : List (S25))) (([(⟨a0_0, a0_1⟩ : S25), (⟨a0_2, a0_3⟩ : S25), (⟨a1_0, a1_1⟩ : S25), (⟨a1_2, a1_3⟩ : S25)] : List (S25))) 0 a0_0 a0_1 a0_2 a0_3 a1_0 a1_1 a1_2 a1_3
theorem spec_l5Shared.mono_l : ∀ k, (∀ y0 y1 y2 y3 y4 y5 y6 y7 y8 y9 y10, LeO (spec_l5Shared.l0 k y0 y1 y2 y3 y4 y5 y6 y7 y8 y9 y10) (spec_l5Shared.l0 (k + 1) y0 y1 y2 y3 y4 y5 y6 y7 y8 y9 y10)) ∧ (∀ y0 y1 y2 y3 y4 y5 y6 y7 y8 y9 y10 y11, LeO (spec_l5Shared.j1 k y0 y1 y2 y3 y4 y5 y6 y7 y8 y9 y10 y11) (spec_l5Shared.j1 (k + 1) y0 y1 y2 y3 y4 y5 y6 y7 y8 y9 y10 y11)) ∧ (∀ y0 y1 y2 y3 y4 y5 y6 y7 y8 y9 y10 y11 y12, LeO (spec_l5Shared.l1 k y0 y1 y2 y3 y4 y5 y6 y7 y8 y9 y10 y11 y12) (spec_l5Shared.l1 (k + 1) y0 y1 y2 y3 y4 y5 y6 y7 y8 y9 y10 y11 y12))
 | 0 => ⟨fun _ _ _ _ _ _ _ _ _ _ _ r h => by simp [spec_l5Shared.l0] at h, fun _ _ _ _ _ _ _ _ _ _ _ _ r h => by simp [spec_l5Shared.j1] at h, fun _ _ _ _ _ _ _ _ _ _ _ _ _ r h => by simp [spec_l5Shared.l1] at h⟩
 | k + 1 => by
  obtain ⟨ih0, ih1, ih2⟩ := spec_l5Shared.mono_l k
  refine ⟨?_, ?_, ?_⟩
  ·intro y0 y1 y2 y3 y4 y5 y6 y7 y8 y9 y10
   unfold spec_l5Shared.l0
   repeat' first
   | (with_reducible exact ih0 _ _ _ _ _ _ _ _ _ _ _)
   | (with_reducible exact ih1 _ _ _ _ _ _ _ _ _ _ _ _)
   | (with_reducible exact ih2 _ _ _ _ _ _ _ _ _ _ _ _ _)
   | (with_reducible exact LeO.refl _)
   | (with_reducible exact LeO.none _)
   | (with_reducible refine LeO.ite ?_ ?_)
   | (with_reducible refine LeO.bind ?_ (fun _ => ?_))
   | exact ih0 _ _ _ _ _ _ _ _ _ _ _
   | exact ih1 _ _ _ _ _ _ _ _ _ _ _ _
   | exact ih2 _ _ _ _ _ _ _ _ _ _ _ _ _
   | exact LeO.none _
   | refine LeO.ite ?_ ?_
   | refine LeO.bind ?_ (fun _ => ?_)
  ·intro y0 y1 y2 y3 y4 y5 y6 y7 y8 y9 y10 y11
   unfold spec_l5Shared.j1
   repeat' first
   | (with_reducible exact ih0 _ _ _ _ _ _ _ _ _ _ _)
   | (with_reducible exact ih1 _ _ _ _ _ _ _ _ _ _ _ _)
   | (with_reducible exact ih2 _ _ _ _ _ _ _ _ _ _ _ _ _)
   | (with_reducible exact LeO.refl _)
   | (with_reducible exact LeO.none _)
   | (with_reducible refine LeO.ite ?_ ?_)
   | (with_reducible refine LeO.bind ?_ (fun _ => ?_))
   | exact ih0 _ _ _ _ _ _ _ _ _ _ _
   | exact ih1 _ _ _ _ _ _ _ _ _ _ _ _
   | exact ih2 _ _ _ _ _ _ _ _ _ _ _ _ _
   | exact LeO.none _
   | refine LeO.ite ?_ ?_
   | refine LeO.bind ?_ (fun _ => ?_)
  ·intro y0 y1 y2 y3 y4 y5 y6 y7 y8 y9 y10 y11 y12
   unfold spec_l5Shared.l1
   repeat' first
   | (with_reducible exact ih0 _ _ _ _ _ _ _ _ _ _ _)
   | (with_reducible exact ih1 _ _ _ _ _ _ _ _ _ _ _ _)
   | (with_reducible exact ih2 _ _ _ _ _ _ _ _ _ _ _ _ _)
   | (with_reducible exact LeO.refl _)
   | (with_reducible exact LeO.none _)
   | (with_reducible refine LeO.ite ?_ ?_)
   | (with_reducible refine LeO.bind ?_ (fun _ => ?_))
   | exact ih0 _ _ _ _ _ _ _ _ _ _ _
   | exact ih1 _ _ _ _ _ _ _ _ _ _ _ _
   | exact ih2 _ _ _ _ _ _ _ _ _ _ _ _ _
   | exact LeO.none _
   | refine LeO.ite ?_ ?_
   | refine LeO.bind ?_ (fun _ => ?_)
theorem spec_l5Shared.mono : ∀ a0 a1 a2 a3 a4 a5 a6 a7 k, LeO (spec_l5Shared.f k a0 a1 a2 a3 a4 a5 a6 a7) (spec_l5Shared.f (k + 1) a0 a1 a2 a3 a4 a5 a6 a7) := by
 intro a0 a1 a2 a3 a4 a5 a6 a7 k
 obtain ⟨ih0, ih1, ih2⟩ := spec_l5Shared.mono_l k
 unfold spec_l5Shared.f
 repeat' first
   | (with_reducible exact ih0 _ _ _ _ _ _ _ _ _ _ _)
   | (with_reducible exact ih1 _ _ _ _ _ _ _ _ _ _ _ _)
   | (with_reducible exact ih2 _ _ _ _ _ _ _ _ _ _ _ _ _)
   | (with_reducible exact LeO.refl _)
   | (with_reducible exact LeO.none _)
   | (with_reducible refine LeO.ite ?_ ?_)
   | (with_reducible refine LeO.bind ?_ (fun _ => ?_))
   | exact ih0 _ _ _ _ _ _ _ _ _ _ _
   | exact ih1 _ _ _ _ _ _ _ _ _ _ _ _
   | exact ih2 _ _ _ _ _ _ _ _ _ _ _ _ _
   | exact LeO.none _
   | refine LeO.ite ?_ ?_
   | refine LeO.bind ?_ (fun _ => ?_)
def spec_l5Shared.T6 : Bool × List (List Nat × List Nat) := (true, [([], []), ([0], [0]), ([1], [1]), ([2], [2]), ([2], [2]), ([2], [2]), ([4, 5, 2], [2, 4, 5]), ([6, 2], [2, 6]), ([3, 7, 2, 2], [2, 3, 7]), ([2, 8], [2, 8]), ([9, 8], [9]), ([10], [10]), ([11, 10], [10, 11]), ([12, 10, 10], [10, 12]), ([13], [13]), ([13], [13]), ([13], [13]), ([15, 16, 13], [13, 15, 16]), ([17, 13], [13, 17]), ([14, 18, 13, 13], [13, 14, 18]), ([13, 19, 10], [10, 13, 19]), ([10, 20], [10, 20]), ([21, 19, 0, 1, 2, 3, 4, 5, 6, 7, 8, 9, 10, 11, 12, 13, 14, 15, 16, 17, 18, 19, 20, 21], [21])])
def spec_l5Shared.B6 : List Nat := [0, 1, 3, 7, 7, 7, 55, 119, 255, 511, 1023, 2047, 4095, 8191, 16383, 16383, 16383, 114687, 245759, 524287, 1048575, 2097151, 4194303]
theorem spec_l5Shared.tab6 : rtab .any (opsOf Try.f22 6) = spec_l5Shared.T6 := by kernel_rfl
theorem spec_l5Shared.bits6 : waitsOk spec_l5Shared.T6.2 spec_l5Shared.B6 = true := by kernel_rfl
def spec_l5Shared.T10 : Bool × List (List Nat × List Nat) := (true, [([], []), ([0], [0]), ([1], [1]), ([1], [1]), ([2, 3, 1], [1, 2, 3]), ([4, 1], [1, 4]), ([1], [1]), ([1], [1]), ([6, 7, 1], [1, 6, 7]), ([8, 1], [1, 8]), ([5, 9, 1], [1, 5, 9]), ([1, 10], [1, 10]), ([11, 1, 0, 1, 2, 3, 4, 5, 6, 7, 8, 9, 10, 11], [0, 11])])
def spec_l5Shared.B10 : List Nat := [0, 1, 3, 3, 15, 31, 3, 3, 195, 451, 1023, 2047, 4095]
theorem spec_l5Shared.tab10 : rtab .any (opsOf Try.f22 10) = spec_l5Shared.T10 := by kernel_rfl
theorem spec_l5Shared.bits10 : waitsOk spec_l5Shared.T10.2 spec_l5Shared.B10 = true := by kernel_rfl
set_option maxHeartbeats 8000000 in
set_option maxRecDepth 100000 in
theorem spec_l5Shared.calls (k : Nat) (a0_0 : Int) (a0_1 : Int) (a0_2 : Int) (a0_3 : Int) (a1_0 : Int) (a1_1 : Int) (a1_2 : Int) (a1_3 : Int) (r : Int) (w : World) (h : spec_l5Shared.f k a0_0 a0_1 a0_2 a0_3 a1_0 a1_1 a1_2 a1_3 = some r) :
  Calls Try.prog 22 #[.agg #[.int .i64 a0_0, .int .i64 a0_1, .int .i64 a0_2, .int .i64 a0_3], .agg #[.int .i64 a1_0, .int .i64 a1_1, .int .i64 a1_2, .int .i64 a1_3]] w fun e w' => e = .returned (.int .i64 r) ∧ Below w.heap.size w w' := by
 have hu27 := Try.underlying27
 have hu25 := Try.underlying25
 have HB := Aside0.mk (Below.refl w.heap.size w)
 have H : (spec_l5Shared.l0 k (([] : List (S25))) (([(⟨a0_0, a0_1⟩ : S25), (⟨a0_2, a0_3⟩ : S25), (⟨a1_0, a1_1⟩ : S25), (⟨a1_2, a1_3⟩ : S25)] : List (S25))) 0 a0_0 a0_1 a0_2 a0_3 a1_0 a1_1 a1_2 a1_3) = some r := h
 clear h
 obtain ⟨y290, hy290⟩ : ∃ y_ : List (S25), y_ = (([] : List (S25))) := ⟨_, rfl⟩
 replace H : (spec_l5Shared.l0 k y290 (([(⟨a0_0, a0_1⟩ : S25), (⟨a0_2, a0_3⟩ : S25), (⟨a1_0, a1_1⟩ : S25), (⟨a1_2, a1_3⟩ : S25)] : List (S25))) 0 a0_0 a0_1 a0_2 a0_3 a1_0 a1_1 a1_2 a1_3) = some r := by first | (rw [hy290]; with_reducible exact H) | (have H2_ := (Option.bind_some _ _).symm.trans H; rw [hy290]; with_reducible exact H2_) | (have H2_ := (Option.bind_some _ _).symm.trans H; with_reducible exact H2_) | with_reducible exact H | (rw [hy290]; exact H) | exact H
 have Ny290 := Aside0.mk hy290
 clear hy290
 obtain ⟨y293, hy293⟩ : ∃ y_ : List (S25), y_ = (([(⟨a0_0, a0_1⟩ : S25), (⟨a0_2, a0_3⟩ : S25), (⟨a1_0, a1_1⟩ : S25), (⟨a1_2, a1_3⟩ : S25)] : List (S25))) := ⟨_, rfl⟩
 replace H : (spec_l5Shared.l0 k y290 y293 0 a0_0 a0_1 a0_2 a0_3 a1_0 a1_1 a1_2 a1_3) = some r := by first | (rw [hy293]; with_reducible exact H) | (have H2_ := (Option.bind_some _ _).symm.trans H; rw [hy293]; with_reducible exact H2_) | (have H2_ := (Option.bind_some _ _).symm.trans H; with_reducible exact H2_) | with_reducible exact H | (rw [hy293]; exact H) | exact H
 have Ny293 := Aside0.mk hy293
 clear hy293
 have H' := Aside0.mk H
 clear H
 go_enter Try.func22, Try.ntmps22
 go_wp2_with (first | ((with_reducible refine gate_dst (N := 2) rfl ?_); refine box_event ?hg (N := 2) ?hd (cs := #[.int .i64 a0_0, .int .i64 a0_1, .int .i64 a0_2, .int .i64 a0_3]) (t := 27) ?hr ?_; (case hd => rfl); (case hg => rfl); (case hr => first | (go_simp; done) | (go_simp; rfl)); intro gb288 hg w3 hbox hb; have BK288 := Aside0.mk (hbox); have GW288 := zB0 HB hg; have GE288 := zB0 HB hg; replace HB := sB0 HB hb; clear hb hbox hg) | ((with_reducible refine gate_dst (N := 3) rfl ?_); refine box_event ?hg (N := 3) ?hd (cs := #[.int .i64 a1_0, .int .i64 a1_1, .int .i64 a1_2, .int .i64 a1_3]) (t := 27) ?hr ?_; (case hd => rfl); (case hg => rfl); (case hr => first | (go_simp; done) | (go_simp; rfl)); intro gb289 hg w4 hbox hb; have BK289 := Aside0.mk (hbox); have GW289 := zB1 HB hg GE288; have GE289 := zB1 HB hg GE288; have NB288_289 := nL BK288 hg; have NB289_288 := nG BK288 hg; replace BK288 := mB BK288 hb; replace HB := sB1 HB hb GE288; clear hb hbox hg) | ((with_reducible refine gate_dst (N := 10) rfl ?_); refine Kd.R_lit k25 _ 25 ?hg (N := 10) ?hd (xs := ([] : List (S25))) (inner := []) (ok := fun _ => True) (okp := fun _ => True) ?hr ?hp (fun _ hk => hk) trivial (Below.refl _ _) (Nat.le_refl _) (by simp) ?_; (case hd => rfl); (case hg => rfl); (case hr => first | (go_simp; done) | (go_simp; rfl)); (case hp => exact (Reps.none _ _)); intro v291 w5 ho6 hb hg_ hnew_; clear hg_ hnew_; (first | rw [← Ny290.out] at ho6 | (simp only [Int.reduceToNat] at ho6; rw [← Ny290.out] at ho6)); have HO292 := Aside0.mk (Kd.R_lower ho6 (below_size (eB2 HB GE288 GE289))); replace BK288 := mB BK288 hb; replace BK289 := mB BK289 hb; replace HB := sB2 HB hb GE288 GE289; clear hb ho6; have hnb7 := NB288_289.out; have hnc7 := NB289_288.out; have hcz8_0 := bC BK288 0 (.int .i64 a0_0); have hcz8_1 := bC BK288 1 (.int .i64 a0_1); have hcz8_2 := bC BK288 2 (.int .i64 a0_2); have hcz8_3 := bC BK288 3 (.int .i64 a0_3); have hfz8_0 := blk_frozen BK288.out 0; have hfz8_1 := blk_frozen BK288.out 1; have hfz8_2 := blk_frozen BK288.out 2; have hfz8_3 := blk_frozen BK288.out 3; have hcz9_0 := bC BK289 0 (.int .i64 a1_0); have hcz9_1 := bC BK289 1 (.int .i64 a1_1); have hcz9_2 := bC BK289 2 (.int .i64 a1_2); have hcz9_3 := bC BK289 3 (.int .i64 a1_3); have hfz9_0 := blk_frozen BK289.out 0; have hfz9_1 := blk_frozen BK289.out 1; have hfz9_2 := blk_frozen BK289.out 2; have hfz9_3 := blk_frozen BK289.out 3) | ((with_reducible refine gate_dst (N := 19) rfl ?_); refine Kd.R_lit k25 _ 25 ?hg (N := 19) ?hd (xs := ([(⟨a0_0, a0_1⟩ : S25), (⟨a0_2, a0_3⟩ : S25), (⟨a1_0, a1_1⟩ : S25), (⟨a1_2, a1_3⟩ : S25)] : List (S25))) (inner := [.int .i64 a0_0, .int .i64 a0_1, .int .i64 a0_2, .int .i64 a0_3, .int .i64 a1_0, .int .i64 a1_1, .int .i64 a1_2, .int .i64 a1_3]) (ok := fun _ => True) (okp := fun _ => True) ?hr ?hp (fun _ hk => hk) trivial (Below.refl _ _) (Nat.le_refl _) (by simp) ?_; (case hd => rfl); (case hg => rfl); (case hr => first | (go_simp; done) | (go_simp; rfl)); (case hp => exact (Reps.c2 (show Kd.M k25 _ _ _ (⟨a0_0, a0_1⟩ : S25) [.int .i64 a0_0, .int .i64 a0_1] from (k25_mkM _ _ _ (⟨a0_0, a0_1⟩ : S25) )) (Reps.c2 (show Kd.M k25 _ _ _ (⟨a0_2, a0_3⟩ : S25) [.int .i64 a0_2, .int .i64 a0_3] from (k25_mkM _ _ _ (⟨a0_2, a0_3⟩ : S25) )) (Reps.c2 (show Kd.M k25 _ _ _ (⟨a1_0, a1_1⟩ : S25) [.int .i64 a1_0, .int .i64 a1_1] from (k25_mkM _ _ _ (⟨a1_0, a1_1⟩ : S25) )) (Reps.c2 (show Kd.M k25 _ _ _ (⟨a1_2, a1_3⟩ : S25) [.int .i64 a1_2, .int .i64 a1_3] from (k25_mkM _ _ _ (⟨a1_2, a1_3⟩ : S25) )) (Reps.none _ _)))))); intro v294 w10 ho11 hb hg_ hnew_; clear hg_ hnew_; (first | rw [← Ny293.out] at ho11 | (simp only [Int.reduceToNat] at ho11; rw [← Ny293.out] at ho11)); have HO295 := Aside0.mk (Kd.R_lower (Kd.R_new' ho11 (Kd.R_lt (rM HO292))) (below_size (eB2 HB GE288 GE289))); replace HO292 := Aside0.mk (Kd.R_elder' (rM HO292) (Kd.R_base ho11) hb); replace BK288 := mB BK288 hb; replace BK289 := mB BK289 hb; replace HB := sB2 HB hb GE288 GE289; clear hb ho11))
 go_loopg [5, 7] k (fun kq v5 v7 w' => ∃ (x5_1 : List (S25)) (x7_1 : Int), v7 = .int .i64 x7_1 ∧ Aside0 (spec_l5Shared.l0 kq x5_1 y293 x7_1 a0_0 a0_1 a0_2 a0_3 a1_0 a1_1 a1_2 a1_3 = some r) ∧ Aside0 (kq ≤ k) ∧ Aside0 (Kd.R k25 25 w' w.heap.size (fun k_ => some k_ ≠ (v294 : Value).ownBlock) v5 x5_1) ∧ Aside0 (Kd.R k25 25 w' w.heap.size (fun k_ => some k_ ≠ (v5 : Value).ownBlock) v294 y293) ∧ Aside0 (w'.heap[gb288]? = some (.cells #[.int .i64 a0_0, .int .i64 a0_1, .int .i64 a0_2, .int .i64 a0_3] 27 (0, 0))) ∧ Aside0 (w'.heap[gb289]? = some (.cells #[.int .i64 a1_0, .int .i64 a1_1, .int .i64 a1_2, .int .i64 a1_3] 27 (0, 0))) ∧ Aside0 (Below w.heap.size w w'))
 case atStart => exact ⟨(y290), (0), (by first | rfl | (simp; done) | (simp [*]; done)), H', ⟨Nat.le_refl _⟩, ⟨by (with_reducible repeat (first | apply Kd.R_alloc | apply Kd.R_drewN | apply Kd.R_drew)); exact Kd.R_mono HO292.out (fun _ hk => hk.2)⟩, ⟨by (with_reducible repeat (first | apply Kd.R_alloc | apply Kd.R_drewN | apply Kd.R_drew)); exact Kd.R_mono HO295.out (fun _ hk => hk.2)⟩, ⟨by (with_reducible repeat (first | refine blk_drewN ?_ _ | refine blk_drew ?_ | refine blk_alloc ?_ _)); exact BK288.out⟩, ⟨by (with_reducible repeat (first | refine blk_drewN ?_ _ | refine blk_drew ?_ | refine blk_alloc ?_ _)); exact BK289.out⟩, ⟨eB2 HB GE288 GE289⟩⟩
 case round =>
  clear H'
  try clear c2
  try clear p2
  try clear c7
  obtain ⟨x5_1, x7_1, rfl, HA, HK1, HO_5, HO_6, BK288, BK289, HB⟩ := hrel
  cases gk with
  | zero => exact absurd HA.out (by simp [spec_l5Shared.l0])
  | succ k1 =>
   have H := HA.out
   clear HA
   simp only [spec_l5Shared.l0] at H
   by_cases c12 : x7_1 < 4
   ·rw [if_pos c12] at H
    have c12b0 : decide (x7_1 < 4) = true := decide_eq_true c12
    clear c12
    have HC13 := Aside0.mk H
    clear H
    go_upto_region 6 with (fail)
    go_cut [8] (fun v8 wc => ∃ (kq : Nat) (x8_12 : Bool), v8 = .bool x8_12 ∧ Aside0 (spec_l5Shared.j1 kq x5_1 y293 x7_1 x8_12 a0_0 a0_1 a0_2 a0_3 a1_0 a1_1 a1_2 a1_3 = some r) ∧ Aside0 (kq ≤ k1) ∧ Aside0 (Kd.R k25 25 wc w.heap.size (fun k_ => some k_ ≠ (v294 : Value).ownBlock) u5 x5_1) ∧ Aside0 (Kd.R k25 25 wc w.heap.size (fun k_ => some k_ ≠ (u5 : Value).ownBlock) v294 y293) ∧ Aside0 (wc.heap[gb288]? = some (.cells #[.int .i64 a0_0, .int .i64 a0_1, .int .i64 a0_2, .int .i64 a0_3] 27 (0, 0))) ∧ Aside0 (wc.heap[gb289]? = some (.cells #[.int .i64 a1_0, .int .i64 a1_1, .int .i64 a1_2, .int .i64 a1_3] 27 (0, 0))) ∧ Aside0 (Below w.heap.size w wc))
    case first =>
     have H := HC13.out
     clear HC13
     by_cases c14 : x7_1 < 2
     ·rw [if_pos c14] at H
      have c14b0 : decide (x7_1 < 2) = true := decide_eq_true c14
      clear c14
      (first | rw [c14b0] | (simp only [i64_w, i32_w]; rw [c14b0]) | skip)
      by_cases c15 : 0 ≤ x7_1
      ·rw [if_pos c15] at H
       have c15b0 : decide (0 ≤ x7_1) = true := decide_eq_true c15
       clear c15
       by_cases c16 : x7_1 < (y293.length : Int)
       ·rw [if_pos c16] at H
        have c16b0 : decide (x7_1 < (y293.length : Int)) = true := decide_eq_true c16
        clear c16
        replace H := Option.bind_eq_some_iff.mp H
        obtain ⟨t297, A170, H⟩ := H
        replace H : (if t297 = true then (spec_l5Shared.j1 k1 x5_1 y293 x7_1 true a0_0 a0_1 a0_2 a0_3 a1_0 a1_1 a1_2 a1_3) else (if x7_1 ≥ 2 then ((spec_IsOn.f a0_0 a0_1 a0_2 a0_3 ((rd_T25 y293 x7_1).f0) ((rd_T25 y293 x7_1).f1)).bind fun t299 => (spec_l5Shared.j1 k1 x5_1 y293 x7_1 t299 a0_0 a0_1 a0_2 a0_3 a1_0 a1_1 a1_2 a1_3)) else (spec_l5Shared.j1 k1 x5_1 y293 x7_1 false a0_0 a0_1 a0_2 a0_3 a1_0 a1_1 a1_2 a1_3))) = some r := H
        have A17 := Aside0.mk A170
        clear A170
        by_cases c18 : t297 = true
        ·subst c18
         have H1 : (spec_l5Shared.j1 k1 x5_1 y293 x7_1 true a0_0 a0_1 a0_2 a0_3 a1_0 a1_1 a1_2 a1_3) = some r := by rw [if_pos rfl] at H; exact H
         clear H
         have H := H1
         clear H1
         have H' := Aside0.mk H
         clear H
         try go_wp2
         replace HO_5 := Aside0.mk (Kd.R_drew HO_5.out)
         replace HO_6 := Aside0.mk (Kd.R_drew HO_6.out)
         replace BK288 := Aside0.mk (blk_drew BK288.out)
         replace BK289 := Aside0.mk (blk_drew BK289.out)
         replace HB := Aside0.mk (below_drew1 HB.out)
         obtain ⟨Ao20, co20, eo20⟩ := Kd.R_slice HO_6.out
         (first | subst eo20 | (injection eo20 with f1_ f2_ f3_; have f4_ := f1_.symm; have f5_ := f3_.symm; clear f1_ f2_ f3_; subst f4_; subst f5_))
         have p296 : 0 ≤ (x7_1 : Int) := of_decide_eq_true (by first | (with_reducible assumption) | assumption)
         have q296 : x7_1 < (y293.length : Int) := of_decide_eq_true (by first | (with_reducible assumption) | assumption)
         obtain ⟨ad296, e296, hx296_0, hx296_1⟩ := at_T25 (Kd.R_reads' HO_6.out).2.2 x7_1 p296 q296
         cases e296
         replace p296 := eq_true p296
         replace q296 := eq_true q296
         refine start_ (n := 23) (S := fun w' => w'.cell? ⟨gb289, 0, none⟩ = some (.int .i64 a1_0) ∧ w'.cell? ⟨gb289, 1, none⟩ = some (.int .i64 a1_1) ∧ w'.cell? ⟨gb289, 2, none⟩ = some (.int .i64 a1_2) ∧ w'.cell? ⟨gb289, 3, none⟩ = some (.int .i64 a1_3) ∧ w'.cell? (ad296.add ((x7_1).toNat * 2)) = some (.int .i64 ((rd_T25 y293 x7_1).f0)) ∧ w'.cell? ⟨(ad296.add ((x7_1).toNat * 2)).block, (ad296.add ((x7_1).toNat * 2)).off + 1, none⟩ = some (.int .i64 ((rd_T25 y293 x7_1).f1))) (ds := []) #[false, false, false, false, false, false, false, false, false, false, false, false, false, false, false, false, false, false, false, false, false, false, false] (by kernel_rfl) rfl rfl ⟨(blk_cell BK289.out 0).trans rfl, (blk_cell BK289.out 1).trans rfl, (blk_cell BK289.out 2).trans rfl, (blk_cell BK289.out 3).trans rfl, hx296_0, hx296_1⟩ (fun hHeld => ?_); refine with_tabW spec_l5Shared.tab6 spec_l5Shared.bits6 (fun HT_ HW_ => ?_)
         generalize wr.drew = w19 at HO_5 HO_6 BK288 BK289 HB hx296_0 hx296_1 hHeld ⊢
         refine pA HT_.out 0 24 ?_
         refine pA HT_.out 1 25 ?_
         refine pA HT_.out 2 26 ?_
         refine pA HT_.out 4 28 ?_
         refine pA HT_.out 5 29 ?_
         refine pA HT_.out 6 30 ?_
         refine tA6 HT_.out HW_.out 3 27 hHeld ?_
         refine tA6 HT_.out HW_.out 7 31 hHeld ?_
         refine one_ (i := 8) (N := some 32) #[true, true, true, true, true, true, true, true, true, false, false, false, false, false, false, false, false, false, false, false, false, false, false] rfl rfl (one_of HT_.out (by kernel_rfl)) (by decide) (fun K hK => ?_)
         refine gS Try.func32 #[.agg #[.int .i64 a1_0, .int .i64 a1_1, .int .i64 a1_2, .int .i64 a1_3], .agg #[.int .i64 ((rd_T25 y293 x7_1).f0), .int .i64 ((rd_T25 y293 x7_1).f1)]] ?_
         with_reducible refine (spec_IsOn.calls a1_0 a1_1 a1_2 a1_3 ((rd_T25 y293 x7_1).f0) ((rd_T25 y293 x7_1).f1) true _ A17.out).mono ?_
         rintro e w21 ⟨rfl, hb⟩
         have HS4_ := (hb.cell (World.block_lt_of_cell? _ _ (hHeld.2.2.2.2.1))).trans (hHeld.2.2.2.2.1)
         have HS5_ := (hb.cell (World.block_lt_of_cell? _ _ (hHeld.2.2.2.2.2))).trans (hHeld.2.2.2.2.2)
         refine ⟨_, rfl, ?_⟩
         replace HO_5 := Aside0.mk (Kd.R_below (rM HO_5) hb)
         replace HO_6 := Aside0.mk (Kd.R_below (rM HO_6) hb)
         replace BK288 := mB BK288 hb
         replace BK289 := mB BK289 hb
         replace HB := sB2 HB hb GE288 GE289
         (try clear hb)
         (try clear hb2)
         (try clear hk)
         (try clear hi)
         refine hK.out _ _ ⟨(blk_cell BK289.out 0).trans rfl, (blk_cell BK289.out 1).trans rfl, (blk_cell BK289.out 2).trans rfl, (blk_cell BK289.out 3).trans rfl, HS4_, HS5_⟩ (fun hHeld => ?_)
         clear hK K
         refine norm_ (a' := ?_) ?_ ?_
         rotate_left
         ·show Act.put _ (some 32) _ = _
          simp only [Act.put, List.setIfInBounds_toArray, List.set_cons_zero, List.set_cons_succ, i64_w, i32_w]
          rfl
         refine pA HT_.out 9 33 ?_
         refine pA HT_.out 10 34 ?_
         refine pU HT_.out 11 35 ?_
         refine pU HT_.out 12 36 ?_
         refine pU HT_.out 13 37 ?_
         refine pU HT_.out 14 38 ?_
         refine pU HT_.out 15 39 ?_
         refine pU HT_.out 16 40 ?_
         refine pU HT_.out 17 41 ?_
         refine pU HT_.out 18 42 ?_
         refine pU HT_.out 19 43 ?_
         refine pU HT_.out 20 44 ?_
         refine pA HT_.out 21 45 ?_
         refine pA HT_.out 22 8 ?_
         refine done_ (done_of HT_.out (by kernel_rfl)) ?_
         try go_wp2
         go_meet
         case rel => exact ⟨_, (true), (by first | rfl | (simp; done) | (simp [*]; done)), H', ⟨by have := HK1.out; first | omega | exact Nat.le_refl _⟩, ⟨rM HO_5⟩, ⟨rM HO_6⟩, ⟨by (with_reducible repeat (first | refine blk_drewN ?_ _ | refine blk_drew ?_ | refine blk_alloc ?_ _)); exact BK288.out⟩, ⟨by (with_reducible repeat (first | refine blk_drewN ?_ _ | refine blk_drew ?_ | refine blk_alloc ?_ _)); exact BK289.out⟩, ⟨eB2 HB GE288 GE289⟩⟩
        ·replace c18 := Bool.eq_false_iff.mpr c18
         subst c18
         have H1 : (if x7_1 ≥ 2 then ((spec_IsOn.f a0_0 a0_1 a0_2 a0_3 ((rd_T25 y293 x7_1).f0) ((rd_T25 y293 x7_1).f1)).bind fun t299 => (spec_l5Shared.j1 k1 x5_1 y293 x7_1 t299 a0_0 a0_1 a0_2 a0_3 a1_0 a1_1 a1_2 a1_3)) else (spec_l5Shared.j1 k1 x5_1 y293 x7_1 false a0_0 a0_1 a0_2 a0_3 a1_0 a1_1 a1_2 a1_3)) = some r := by rw [if_neg (show ¬ (false = true) by decide)] at H; exact H
         clear H
         have H := H1
         clear H1
         by_cases c22 : x7_1 ≥ 2
         ·rw [if_pos c22] at H
          have c22b0 : decide (2 ≤ x7_1) = true := decide_eq_true c22
          clear c22
          replace H := Option.bind_eq_some_iff.mp H
          obtain ⟨t299, A230, H⟩ := H
          replace H : (spec_l5Shared.j1 k1 x5_1 y293 x7_1 t299 a0_0 a0_1 a0_2 a0_3 a1_0 a1_1 a1_2 a1_3) = some r := H
          have A23 := Aside0.mk A230
          clear A230
          have H' := Aside0.mk H
          clear H
          try go_wp2
          replace HO_5 := Aside0.mk (Kd.R_drew HO_5.out)
          replace HO_6 := Aside0.mk (Kd.R_drew HO_6.out)
          replace BK288 := Aside0.mk (blk_drew BK288.out)
          replace BK289 := Aside0.mk (blk_drew BK289.out)
          replace HB := Aside0.mk (below_drew1 HB.out)
          obtain ⟨Ao25, co25, eo25⟩ := Kd.R_slice HO_6.out
          (first | subst eo25 | (injection eo25 with f1_ f2_ f3_; have f4_ := f1_.symm; have f5_ := f3_.symm; clear f1_ f2_ f3_; subst f4_; subst f5_))
          have p296 : 0 ≤ (x7_1 : Int) := of_decide_eq_true (by first | (with_reducible assumption) | assumption)
          have q296 : x7_1 < (y293.length : Int) := of_decide_eq_true (by first | (with_reducible assumption) | assumption)
          obtain ⟨ad296, e296, hx296_0, hx296_1⟩ := at_T25 (Kd.R_reads' HO_6.out).2.2 x7_1 p296 q296
          cases e296
          replace p296 := eq_true p296
          replace q296 := eq_true q296
          have p298 : 0 ≤ (x7_1 : Int) := of_decide_eq_true (by first | (with_reducible assumption) | assumption)
          have q298 : x7_1 < (y293.length : Int) := of_decide_eq_true (by first | (with_reducible assumption) | assumption)
          obtain ⟨ad298, e298, hx298_0, hx298_1⟩ := at_T25 (Kd.R_reads' HO_6.out).2.2 x7_1 p298 q298
          obtain rfl : ad296 = ad298 := (by injection e298)
          replace p298 := eq_true p298
          replace q298 := eq_true q298
          refine start_ (n := 23) (S := fun w' => w'.cell? ⟨gb289, 0, none⟩ = some (.int .i64 a1_0) ∧ w'.cell? ⟨gb289, 1, none⟩ = some (.int .i64 a1_1) ∧ w'.cell? ⟨gb289, 2, none⟩ = some (.int .i64 a1_2) ∧ w'.cell? ⟨gb289, 3, none⟩ = some (.int .i64 a1_3) ∧ w'.cell? ⟨gb288, 0, none⟩ = some (.int .i64 a0_0) ∧ w'.cell? ⟨gb288, 1, none⟩ = some (.int .i64 a0_1) ∧ w'.cell? ⟨gb288, 2, none⟩ = some (.int .i64 a0_2) ∧ w'.cell? ⟨gb288, 3, none⟩ = some (.int .i64 a0_3) ∧ w'.cell? (ad296.add ((x7_1).toNat * 2)) = some (.int .i64 ((rd_T25 y293 x7_1).f0)) ∧ w'.cell? ⟨(ad296.add ((x7_1).toNat * 2)).block, (ad296.add ((x7_1).toNat * 2)).off + 1, none⟩ = some (.int .i64 ((rd_T25 y293 x7_1).f1)) ∧ w'.cell? (ad296.add ((x7_1).toNat * 2)) = some (.int .i64 ((rd_T25 y293 x7_1).f0)) ∧ w'.cell? ⟨(ad296.add ((x7_1).toNat * 2)).block, (ad296.add ((x7_1).toNat * 2)).off + 1, none⟩ = some (.int .i64 ((rd_T25 y293 x7_1).f1))) (ds := []) #[false, false, false, false, false, false, false, false, false, false, false, false, false, false, false, false, false, false, false, false, false, false, false] (by kernel_rfl) rfl rfl ⟨(blk_cell BK289.out 0).trans rfl, (blk_cell BK289.out 1).trans rfl, (blk_cell BK289.out 2).trans rfl, (blk_cell BK289.out 3).trans rfl, (blk_cell BK288.out 0).trans rfl, (blk_cell BK288.out 1).trans rfl, (blk_cell BK288.out 2).trans rfl, (blk_cell BK288.out 3).trans rfl, hx296_0, hx296_1, hx298_0, hx298_1⟩ (fun hHeld => ?_); refine with_tabW spec_l5Shared.tab6 spec_l5Shared.bits6 (fun HT_ HW_ => ?_)
          generalize wr.drew = w24 at HO_5 HO_6 BK288 BK289 HB hx296_0 hx296_1 hx298_0 hx298_1 hHeld ⊢
          refine pA HT_.out 0 24 ?_
          refine pA HT_.out 1 25 ?_
          refine pA HT_.out 2 26 ?_
          refine pA HT_.out 4 28 ?_
          refine pA HT_.out 5 29 ?_
          refine pA HT_.out 6 30 ?_
          refine tA12 HT_.out HW_.out 3 27 hHeld ?_
          refine tA12 HT_.out HW_.out 7 31 hHeld ?_
          refine one_ (i := 8) (N := some 32) #[true, true, true, true, true, true, true, true, true, false, false, false, false, false, false, false, false, false, false, false, false, false, false] rfl rfl (one_of HT_.out (by kernel_rfl)) (by decide) (fun K hK => ?_)
          refine gS Try.func32 #[.agg #[.int .i64 a1_0, .int .i64 a1_1, .int .i64 a1_2, .int .i64 a1_3], .agg #[.int .i64 ((rd_T25 y293 x7_1).f0), .int .i64 ((rd_T25 y293 x7_1).f1)]] ?_
          with_reducible refine (spec_IsOn.calls a1_0 a1_1 a1_2 a1_3 ((rd_T25 y293 x7_1).f0) ((rd_T25 y293 x7_1).f1) false _ A17.out).mono ?_
          rintro e w26 ⟨rfl, hb⟩
          have HS8_ := (hb.cell (World.block_lt_of_cell? _ _ (hHeld.2.2.2.2.2.2.2.2.1))).trans (hHeld.2.2.2.2.2.2.2.2.1)
          have HS9_ := (hb.cell (World.block_lt_of_cell? _ _ (hHeld.2.2.2.2.2.2.2.2.2.1))).trans (hHeld.2.2.2.2.2.2.2.2.2.1)
          have HS10_ := (hb.cell (World.block_lt_of_cell? _ _ (hHeld.2.2.2.2.2.2.2.2.2.2.1))).trans (hHeld.2.2.2.2.2.2.2.2.2.2.1)
          have HS11_ := (hb.cell (World.block_lt_of_cell? _ _ (hHeld.2.2.2.2.2.2.2.2.2.2.2))).trans (hHeld.2.2.2.2.2.2.2.2.2.2.2)
          refine ⟨_, rfl, ?_⟩
          replace HO_5 := Aside0.mk (Kd.R_below (rM HO_5) hb)
          replace HO_6 := Aside0.mk (Kd.R_below (rM HO_6) hb)
          replace BK288 := mB BK288 hb
          replace BK289 := mB BK289 hb
          replace HB := sB2 HB hb GE288 GE289
          (try clear hb)
          (try clear hb2)
          (try clear hk)
          (try clear hi)
          refine hK.out _ _ ⟨(blk_cell BK289.out 0).trans rfl, (blk_cell BK289.out 1).trans rfl, (blk_cell BK289.out 2).trans rfl, (blk_cell BK289.out 3).trans rfl, (blk_cell BK288.out 0).trans rfl, (blk_cell BK288.out 1).trans rfl, (blk_cell BK288.out 2).trans rfl, (blk_cell BK288.out 3).trans rfl, HS8_, HS9_, HS10_, HS11_⟩ (fun hHeld => ?_)
          clear hK K
          refine norm_ (a' := ?_) ?_ ?_
          rotate_left
          ·show Act.put _ (some 32) _ = _
           simp only [Act.put, List.setIfInBounds_toArray, List.set_cons_zero, List.set_cons_succ, i64_w, i32_w]
           rfl
          refine pA HT_.out 9 33 ?_
          refine pA HT_.out 10 34 ?_
          refine pA HT_.out 11 35 ?_
          refine pA HT_.out 12 36 ?_
          refine pA HT_.out 13 37 ?_
          refine pA HT_.out 15 39 ?_
          refine pA HT_.out 16 40 ?_
          refine pA HT_.out 17 41 ?_
          refine tA12 HT_.out HW_.out 14 38 hHeld ?_
          refine tA12 HT_.out HW_.out 18 42 hHeld ?_
          refine one_ (i := 19) (N := some 43) #[true, true, true, true, true, true, true, true, true, true, true, true, true, true, true, true, true, true, true, true, false, false, false] rfl rfl (one_of HT_.out (by kernel_rfl)) (by decide) (fun K hK => ?_)
          refine gS Try.func32 #[.agg #[.int .i64 a0_0, .int .i64 a0_1, .int .i64 a0_2, .int .i64 a0_3], .agg #[.int .i64 ((rd_T25 y293 x7_1).f0), .int .i64 ((rd_T25 y293 x7_1).f1)]] ?_
          with_reducible refine (spec_IsOn.calls a0_0 a0_1 a0_2 a0_3 ((rd_T25 y293 x7_1).f0) ((rd_T25 y293 x7_1).f1) t299 _ A23.out).mono ?_
          rintro e w27 ⟨rfl, hb⟩
          have HS8_ := (hb.cell (World.block_lt_of_cell? _ _ (hHeld.2.2.2.2.2.2.2.2.1))).trans (hHeld.2.2.2.2.2.2.2.2.1)
          have HS9_ := (hb.cell (World.block_lt_of_cell? _ _ (hHeld.2.2.2.2.2.2.2.2.2.1))).trans (hHeld.2.2.2.2.2.2.2.2.2.1)
          have HS10_ := (hb.cell (World.block_lt_of_cell? _ _ (hHeld.2.2.2.2.2.2.2.2.2.2.1))).trans (hHeld.2.2.2.2.2.2.2.2.2.2.1)
          have HS11_ := (hb.cell (World.block_lt_of_cell? _ _ (hHeld.2.2.2.2.2.2.2.2.2.2.2))).trans (hHeld.2.2.2.2.2.2.2.2.2.2.2)
          refine ⟨_, rfl, ?_⟩
          replace HO_5 := Aside0.mk (Kd.R_below (rM HO_5) hb)
          replace HO_6 := Aside0.mk (Kd.R_below (rM HO_6) hb)
          replace BK288 := mB BK288 hb
          replace BK289 := mB BK289 hb
          replace HB := sB2 HB hb GE288 GE289
          (try clear hb)
          (try clear hb2)
          (try clear hk)
          (try clear hi)
          refine hK.out _ _ ⟨(blk_cell BK289.out 0).trans rfl, (blk_cell BK289.out 1).trans rfl, (blk_cell BK289.out 2).trans rfl, (blk_cell BK289.out 3).trans rfl, (blk_cell BK288.out 0).trans rfl, (blk_cell BK288.out 1).trans rfl, (blk_cell BK288.out 2).trans rfl, (blk_cell BK288.out 3).trans rfl, HS8_, HS9_, HS10_, HS11_⟩ (fun hHeld => ?_)
          clear hK K
          refine norm_ (a' := ?_) ?_ ?_
          rotate_left
          ·show Act.put _ (some 43) _ = _
           simp only [Act.put, List.setIfInBounds_toArray, List.set_cons_zero, List.set_cons_succ, i64_w, i32_w]
           rfl
          refine pA HT_.out 20 44 ?_
          refine pA HT_.out 21 45 ?_
          refine pA HT_.out 22 8 ?_
          refine done_ (done_of HT_.out (by kernel_rfl)) ?_
          try go_wp2
          go_meet
          case rel => exact ⟨_, (t299), (by first | rfl | (simp; done) | (simp [*]; done)), H', ⟨by have := HK1.out; first | omega | exact Nat.le_refl _⟩, ⟨rM HO_5⟩, ⟨rM HO_6⟩, ⟨by (with_reducible repeat (first | refine blk_drewN ?_ _ | refine blk_drew ?_ | refine blk_alloc ?_ _)); exact BK288.out⟩, ⟨by (with_reducible repeat (first | refine blk_drewN ?_ _ | refine blk_drew ?_ | refine blk_alloc ?_ _)); exact BK289.out⟩, ⟨eB2 HB GE288 GE289⟩⟩
         ·rw [if_neg c22] at H
          have c22b0 : decide (2 ≤ x7_1) = false := decide_eq_false c22
          clear c22
          have H' := Aside0.mk H
          clear H
          try go_wp2
          replace HO_5 := Aside0.mk (Kd.R_drew HO_5.out)
          replace HO_6 := Aside0.mk (Kd.R_drew HO_6.out)
          replace BK288 := Aside0.mk (blk_drew BK288.out)
          replace BK289 := Aside0.mk (blk_drew BK289.out)
          replace HB := Aside0.mk (below_drew1 HB.out)
          obtain ⟨Ao29, co29, eo29⟩ := Kd.R_slice HO_6.out
          (first | subst eo29 | (injection eo29 with f1_ f2_ f3_; have f4_ := f1_.symm; have f5_ := f3_.symm; clear f1_ f2_ f3_; subst f4_; subst f5_))
          have p296 : 0 ≤ (x7_1 : Int) := of_decide_eq_true (by first | (with_reducible assumption) | assumption)
          have q296 : x7_1 < (y293.length : Int) := of_decide_eq_true (by first | (with_reducible assumption) | assumption)
          obtain ⟨ad296, e296, hx296_0, hx296_1⟩ := at_T25 (Kd.R_reads' HO_6.out).2.2 x7_1 p296 q296
          cases e296
          replace p296 := eq_true p296
          replace q296 := eq_true q296
          refine start_ (n := 23) (S := fun w' => w'.cell? ⟨gb289, 0, none⟩ = some (.int .i64 a1_0) ∧ w'.cell? ⟨gb289, 1, none⟩ = some (.int .i64 a1_1) ∧ w'.cell? ⟨gb289, 2, none⟩ = some (.int .i64 a1_2) ∧ w'.cell? ⟨gb289, 3, none⟩ = some (.int .i64 a1_3) ∧ w'.cell? (ad296.add ((x7_1).toNat * 2)) = some (.int .i64 ((rd_T25 y293 x7_1).f0)) ∧ w'.cell? ⟨(ad296.add ((x7_1).toNat * 2)).block, (ad296.add ((x7_1).toNat * 2)).off + 1, none⟩ = some (.int .i64 ((rd_T25 y293 x7_1).f1))) (ds := []) #[false, false, false, false, false, false, false, false, false, false, false, false, false, false, false, false, false, false, false, false, false, false, false] (by kernel_rfl) rfl rfl ⟨(blk_cell BK289.out 0).trans rfl, (blk_cell BK289.out 1).trans rfl, (blk_cell BK289.out 2).trans rfl, (blk_cell BK289.out 3).trans rfl, hx296_0, hx296_1⟩ (fun hHeld => ?_); refine with_tabW spec_l5Shared.tab6 spec_l5Shared.bits6 (fun HT_ HW_ => ?_)
          generalize wr.drew = w28 at HO_5 HO_6 BK288 BK289 HB hx296_0 hx296_1 hHeld ⊢
          refine pA HT_.out 0 24 ?_
          refine pA HT_.out 1 25 ?_
          refine pA HT_.out 2 26 ?_
          refine pA HT_.out 4 28 ?_
          refine pA HT_.out 5 29 ?_
          refine pA HT_.out 6 30 ?_
          refine tA6 HT_.out HW_.out 3 27 hHeld ?_
          refine tA6 HT_.out HW_.out 7 31 hHeld ?_
          refine one_ (i := 8) (N := some 32) #[true, true, true, true, true, true, true, true, true, false, false, false, false, false, false, false, false, false, false, false, false, false, false] rfl rfl (one_of HT_.out (by kernel_rfl)) (by decide) (fun K hK => ?_)
          refine gS Try.func32 #[.agg #[.int .i64 a1_0, .int .i64 a1_1, .int .i64 a1_2, .int .i64 a1_3], .agg #[.int .i64 ((rd_T25 y293 x7_1).f0), .int .i64 ((rd_T25 y293 x7_1).f1)]] ?_
          with_reducible refine (spec_IsOn.calls a1_0 a1_1 a1_2 a1_3 ((rd_T25 y293 x7_1).f0) ((rd_T25 y293 x7_1).f1) false _ A17.out).mono ?_
          rintro e w30 ⟨rfl, hb⟩
          have HS4_ := (hb.cell (World.block_lt_of_cell? _ _ (hHeld.2.2.2.2.1))).trans (hHeld.2.2.2.2.1)
          have HS5_ := (hb.cell (World.block_lt_of_cell? _ _ (hHeld.2.2.2.2.2))).trans (hHeld.2.2.2.2.2)
          refine ⟨_, rfl, ?_⟩
          replace HO_5 := Aside0.mk (Kd.R_below (rM HO_5) hb)
          replace HO_6 := Aside0.mk (Kd.R_below (rM HO_6) hb)
          replace BK288 := mB BK288 hb
          replace BK289 := mB BK289 hb
          replace HB := sB2 HB hb GE288 GE289
          (try clear hb)
          (try clear hb2)
          (try clear hk)
          (try clear hi)
          refine hK.out _ _ ⟨(blk_cell BK289.out 0).trans rfl, (blk_cell BK289.out 1).trans rfl, (blk_cell BK289.out 2).trans rfl, (blk_cell BK289.out 3).trans rfl, HS4_, HS5_⟩ (fun hHeld => ?_)
          clear hK K
          refine norm_ (a' := ?_) ?_ ?_
          rotate_left
          ·show Act.put _ (some 32) _ = _
           simp only [Act.put, List.setIfInBounds_toArray, List.set_cons_zero, List.set_cons_succ, i64_w, i32_w]
           rfl
          refine pA HT_.out 9 33 ?_
          refine pA HT_.out 10 34 ?_
          refine pA HT_.out 11 35 ?_
          refine pA HT_.out 12 36 ?_
          refine pA HT_.out 13 37 ?_
          refine pU HT_.out 14 38 ?_
          refine pU HT_.out 15 39 ?_
          refine pU HT_.out 16 40 ?_
          refine pU HT_.out 17 41 ?_
          refine pU HT_.out 18 42 ?_
          refine pU HT_.out 19 43 ?_
          refine pA HT_.out 20 44 ?_
          refine pA HT_.out 21 45 ?_
          refine pA HT_.out 22 8 ?_
          refine done_ (done_of HT_.out (by kernel_rfl)) ?_
          try go_wp2
          go_meet
          case rel => exact ⟨_, (false), (by first | rfl | (simp; done) | (simp [*]; done)), H', ⟨by have := HK1.out; first | omega | exact Nat.le_refl _⟩, ⟨rM HO_5⟩, ⟨rM HO_6⟩, ⟨by (with_reducible repeat (first | refine blk_drewN ?_ _ | refine blk_drew ?_ | refine blk_alloc ?_ _)); exact BK288.out⟩, ⟨by (with_reducible repeat (first | refine blk_drewN ?_ _ | refine blk_drew ?_ | refine blk_alloc ?_ _)); exact BK289.out⟩, ⟨eB2 HB GE288 GE289⟩⟩
       ·rw [if_neg c16] at H
        exact absurd H (by simp)
      ·rw [if_neg c15] at H
       exact absurd H (by simp)
     ·rw [if_neg c14] at H
      have c14b0 : decide (x7_1 < 2) = false := decide_eq_false c14
      clear c14
      (first | rw [c14b0] | (simp only [i64_w, i32_w]; rw [c14b0]) | skip)
      by_cases c31 : x7_1 ≥ 2
      ·rw [if_pos c31] at H
       have c31b0 : decide (2 ≤ x7_1) = true := decide_eq_true c31
       clear c31
       by_cases c32 : 0 ≤ x7_1
       ·rw [if_pos c32] at H
        have c32b0 : decide (0 ≤ x7_1) = true := decide_eq_true c32
        clear c32
        by_cases c33 : x7_1 < (y293.length : Int)
        ·rw [if_pos c33] at H
         have c33b0 : decide (x7_1 < (y293.length : Int)) = true := decide_eq_true c33
         clear c33
         replace H := Option.bind_eq_some_iff.mp H
         obtain ⟨t301, A340, H⟩ := H
         replace H : (spec_l5Shared.j1 k1 x5_1 y293 x7_1 t301 a0_0 a0_1 a0_2 a0_3 a1_0 a1_1 a1_2 a1_3) = some r := H
         have A34 := Aside0.mk A340
         clear A340
         have H' := Aside0.mk H
         clear H
         try go_wp2
         replace HO_5 := Aside0.mk (Kd.R_drew HO_5.out)
         replace HO_6 := Aside0.mk (Kd.R_drew HO_6.out)
         replace BK288 := Aside0.mk (blk_drew BK288.out)
         replace BK289 := Aside0.mk (blk_drew BK289.out)
         replace HB := Aside0.mk (below_drew1 HB.out)
         obtain ⟨Ao36, co36, eo36⟩ := Kd.R_slice HO_6.out
         (first | subst eo36 | (injection eo36 with f1_ f2_ f3_; have f4_ := f1_.symm; have f5_ := f3_.symm; clear f1_ f2_ f3_; subst f4_; subst f5_))
         have p300 : 0 ≤ (x7_1 : Int) := of_decide_eq_true (by first | (with_reducible assumption) | assumption)
         have q300 : x7_1 < (y293.length : Int) := of_decide_eq_true (by first | (with_reducible assumption) | assumption)
         obtain ⟨ad300, e300, hx300_0, hx300_1⟩ := at_T25 (Kd.R_reads' HO_6.out).2.2 x7_1 p300 q300
         cases e300
         replace p300 := eq_true p300
         replace q300 := eq_true q300
         refine start_ (n := 23) (S := fun w' => w'.cell? ⟨gb288, 0, none⟩ = some (.int .i64 a0_0) ∧ w'.cell? ⟨gb288, 1, none⟩ = some (.int .i64 a0_1) ∧ w'.cell? ⟨gb288, 2, none⟩ = some (.int .i64 a0_2) ∧ w'.cell? ⟨gb288, 3, none⟩ = some (.int .i64 a0_3) ∧ w'.cell? (ad300.add ((x7_1).toNat * 2)) = some (.int .i64 ((rd_T25 y293 x7_1).f0)) ∧ w'.cell? ⟨(ad300.add ((x7_1).toNat * 2)).block, (ad300.add ((x7_1).toNat * 2)).off + 1, none⟩ = some (.int .i64 ((rd_T25 y293 x7_1).f1))) (ds := []) #[false, false, false, false, false, false, false, false, false, false, false, false, false, false, false, false, false, false, false, false, false, false, false] (by kernel_rfl) rfl rfl ⟨(blk_cell BK288.out 0).trans rfl, (blk_cell BK288.out 1).trans rfl, (blk_cell BK288.out 2).trans rfl, (blk_cell BK288.out 3).trans rfl, hx300_0, hx300_1⟩ (fun hHeld => ?_); refine with_tabW spec_l5Shared.tab6 spec_l5Shared.bits6 (fun HT_ HW_ => ?_)
         generalize wr.drew = w35 at HO_5 HO_6 BK288 BK289 HB hx300_0 hx300_1 hHeld ⊢
         refine pA HT_.out 0 24 ?_
         refine pA HT_.out 1 25 ?_
         refine pA HT_.out 2 26 ?_
         refine pU HT_.out 3 27 ?_
         refine pU HT_.out 4 28 ?_
         refine pU HT_.out 5 29 ?_
         refine pU HT_.out 6 30 ?_
         refine pU HT_.out 7 31 ?_
         refine pU HT_.out 8 32 ?_
         refine pA HT_.out 9 33 ?_
         refine pA HT_.out 10 34 ?_
         refine pA HT_.out 11 35 ?_
         refine pA HT_.out 12 36 ?_
         refine pA HT_.out 13 37 ?_
         refine pA HT_.out 15 39 ?_
         refine pA HT_.out 16 40 ?_
         refine pA HT_.out 17 41 ?_
         refine tA6 HT_.out HW_.out 14 38 hHeld ?_
         refine tA6 HT_.out HW_.out 18 42 hHeld ?_
         refine one_ (i := 19) (N := some 43) #[true, true, true, true, true, true, true, true, true, true, true, true, true, true, true, true, true, true, true, true, false, false, false] rfl rfl (one_of HT_.out (by kernel_rfl)) (by decide) (fun K hK => ?_)
         refine gS Try.func32 #[.agg #[.int .i64 a0_0, .int .i64 a0_1, .int .i64 a0_2, .int .i64 a0_3], .agg #[.int .i64 ((rd_T25 y293 x7_1).f0), .int .i64 ((rd_T25 y293 x7_1).f1)]] ?_
         with_reducible refine (spec_IsOn.calls a0_0 a0_1 a0_2 a0_3 ((rd_T25 y293 x7_1).f0) ((rd_T25 y293 x7_1).f1) t301 _ A34.out).mono ?_
         rintro e w37 ⟨rfl, hb⟩
         have HS4_ := (hb.cell (World.block_lt_of_cell? _ _ (hHeld.2.2.2.2.1))).trans (hHeld.2.2.2.2.1)
         have HS5_ := (hb.cell (World.block_lt_of_cell? _ _ (hHeld.2.2.2.2.2))).trans (hHeld.2.2.2.2.2)
         refine ⟨_, rfl, ?_⟩
         replace HO_5 := Aside0.mk (Kd.R_below (rM HO_5) hb)
         replace HO_6 := Aside0.mk (Kd.R_below (rM HO_6) hb)
         replace BK288 := mB BK288 hb
         replace BK289 := mB BK289 hb
         replace HB := sB2 HB hb GE288 GE289
         (try clear hb)
         (try clear hb2)
         (try clear hk)
         (try clear hi)
         refine hK.out _ _ ⟨(blk_cell BK288.out 0).trans rfl, (blk_cell BK288.out 1).trans rfl, (blk_cell BK288.out 2).trans rfl, (blk_cell BK288.out 3).trans rfl, HS4_, HS5_⟩ (fun hHeld => ?_)
         clear hK K
         refine norm_ (a' := ?_) ?_ ?_
         rotate_left
         ·show Act.put _ (some 43) _ = _
          simp only [Act.put, List.setIfInBounds_toArray, List.set_cons_zero, List.set_cons_succ, i64_w, i32_w]
          rfl
         refine pA HT_.out 20 44 ?_
         refine pA HT_.out 21 45 ?_
         refine pA HT_.out 22 8 ?_
         refine done_ (done_of HT_.out (by kernel_rfl)) ?_
         try go_wp2
         go_meet
         case rel => exact ⟨_, (t301), (by first | rfl | (simp; done) | (simp [*]; done)), H', ⟨by have := HK1.out; first | omega | exact Nat.le_refl _⟩, ⟨rM HO_5⟩, ⟨rM HO_6⟩, ⟨by (with_reducible repeat (first | refine blk_drewN ?_ _ | refine blk_drew ?_ | refine blk_alloc ?_ _)); exact BK288.out⟩, ⟨by (with_reducible repeat (first | refine blk_drewN ?_ _ | refine blk_drew ?_ | refine blk_alloc ?_ _)); exact BK289.out⟩, ⟨eB2 HB GE288 GE289⟩⟩
        ·rw [if_neg c33] at H
         exact absurd H (by simp)
       ·rw [if_neg c32] at H
        exact absurd H (by simp)
      ·rw [if_neg c31] at H
       have c31b0 : decide (2 ≤ x7_1) = false := decide_eq_false c31
       clear c31
       have H' := Aside0.mk H
       clear H
       try go_wp2
       replace HO_5 := Aside0.mk (Kd.R_drew HO_5.out)
       replace HO_6 := Aside0.mk (Kd.R_drew HO_6.out)
       replace BK288 := Aside0.mk (blk_drew BK288.out)
       replace BK289 := Aside0.mk (blk_drew BK289.out)
       replace HB := Aside0.mk (below_drew1 HB.out)
       refine start_ (n := 23) (S := fun w' => True) (ds := []) #[false, false, false, false, false, false, false, false, false, false, false, false, false, false, false, false, false, false, false, false, false, false, false] (by kernel_rfl) rfl rfl trivial (fun hHeld => ?_); refine with_tabW spec_l5Shared.tab6 spec_l5Shared.bits6 (fun HT_ HW_ => ?_)
       generalize wr.drew = w38 at HO_5 HO_6 BK288 BK289 HB hHeld ⊢
       refine pA HT_.out 0 24 ?_
       refine pA HT_.out 1 25 ?_
       refine pA HT_.out 2 26 ?_
       refine pU HT_.out 3 27 ?_
       refine pU HT_.out 4 28 ?_
       refine pU HT_.out 5 29 ?_
       refine pU HT_.out 6 30 ?_
       refine pU HT_.out 7 31 ?_
       refine pU HT_.out 8 32 ?_
       refine pA HT_.out 9 33 ?_
       refine pA HT_.out 10 34 ?_
       refine pA HT_.out 11 35 ?_
       refine pA HT_.out 12 36 ?_
       refine pA HT_.out 13 37 ?_
       refine pU HT_.out 14 38 ?_
       refine pU HT_.out 15 39 ?_
       refine pU HT_.out 16 40 ?_
       refine pU HT_.out 17 41 ?_
       refine pU HT_.out 18 42 ?_
       refine pU HT_.out 19 43 ?_
       refine pA HT_.out 20 44 ?_
       refine pA HT_.out 21 45 ?_
       refine pA HT_.out 22 8 ?_
       refine done_ (done_of HT_.out (by kernel_rfl)) ?_
       try go_wp2
       go_meet
       case rel => exact ⟨_, (false), (by first | rfl | (simp; done) | (simp [*]; done)), H', ⟨by have := HK1.out; first | omega | exact Nat.le_refl _⟩, ⟨rM HO_5⟩, ⟨rM HO_6⟩, ⟨by (with_reducible repeat (first | refine blk_drewN ?_ _ | refine blk_drew ?_ | refine blk_alloc ?_ _)); exact BK288.out⟩, ⟨by (with_reducible repeat (first | refine blk_drewN ?_ _ | refine blk_drew ?_ | refine blk_alloc ?_ _)); exact BK289.out⟩, ⟨eB2 HB GE288 GE289⟩⟩
    case rest =>
     clear HC13
     try clear c1
     try clear p2
     try clear c3
     try clear p3
     try clear q3
     try clear hx3
     try clear c14
     try clear c14b0
     try clear c15
     try clear c16
     try clear p30
     try clear q30
     try clear hx30
     try clear c31
     try clear c31b0
     try clear c32
     try clear c32b0
     try clear c33
     try clear c33b0
     try clear hx300_0
     try clear hx300_1
     try clear p300
     try clear q300
     obtain ⟨kq, x8_12, rfl, HA, HJ12, HO_5, HO_6, BK288, BK289, HB⟩ := hcut
     cases kq with
     | zero => exact absurd HA.out (by simp [spec_l5Shared.j1])
     | succ kj12 =>
      have H := HA.out
      clear HA
      simp only [spec_l5Shared.j1] at H
      have H' := Aside0.mk H
      clear H
      go_wp2
      go_loopg [8, 9] kj12 (fun kq v8 v9 w' => ∃ (x8_3 : Bool) (x9_3 : Int), v8 = .bool x8_3 ∧ v9 = .int .i64 x9_3 ∧ Aside0 (spec_l5Shared.l1 kq x5_1 y293 x7_1 x8_3 x9_3 a0_0 a0_1 a0_2 a0_3 a1_0 a1_1 a1_2 a1_3 = some r) ∧ Aside0 (kq ≤ kj12) ∧ Aside0 (Kd.R k25 25 w' w.heap.size (fun k_ => some k_ ≠ (v294 : Value).ownBlock) u5 x5_1) ∧ Aside0 (Kd.R k25 25 w' w.heap.size (fun k_ => some k_ ≠ (u5 : Value).ownBlock) v294 y293) ∧ Aside0 (w'.heap[gb288]? = some (.cells #[.int .i64 a0_0, .int .i64 a0_1, .int .i64 a0_2, .int .i64 a0_3] 27 (0, 0))) ∧ Aside0 (w'.heap[gb289]? = some (.cells #[.int .i64 a1_0, .int .i64 a1_1, .int .i64 a1_2, .int .i64 a1_3] 27 (0, 0))) ∧ Aside0 (Below w.heap.size w w'))
      case atStart => exact ⟨(x8_12), (0), (by first | rfl | (simp; done) | (simp [*]; done)), (by first | rfl | (simp; done) | (simp [*]; done)), H', ⟨Nat.le_refl _⟩, ⟨rM HO_5⟩, ⟨rM HO_6⟩, ⟨by (with_reducible repeat (first | refine blk_drewN ?_ _ | refine blk_drew ?_ | refine blk_alloc ?_ _)); exact BK288.out⟩, ⟨by (with_reducible repeat (first | refine blk_drewN ?_ _ | refine blk_drew ?_ | refine blk_alloc ?_ _)); exact BK289.out⟩, ⟨eB2 HB GE288 GE289⟩⟩
      case round =>
       clear H'
       try clear c1
       try clear p2
       try clear c3
       try clear p3
       try clear q3
       try clear hx3
       try clear c14
       try clear c14b0
       try clear c15
       try clear c16
       try clear p30
       try clear q30
       try clear hx30
       try clear c31
       try clear c31b0
       try clear c32
       try clear c32b0
       try clear c33
       try clear c33b0
       try clear hx300_0
       try clear hx300_1
       try clear p2
       try clear p3
       try clear p30
       try clear p300
       try clear q3
       try clear q30
       try clear q300
       obtain ⟨x8_3, x9_3, rfl, rfl, HA, HK3, HO_5, HO_6, BK288, BK289, HB⟩ := hrel
       cases gk with
       | zero => exact absurd HA.out (by simp [spec_l5Shared.l1])
       | succ k3 =>
        have H := HA.out
        clear HA
        simp only [spec_l5Shared.l1] at H
        by_cases c39 : x9_3 < (x5_1.length : Int)
        ·rw [if_pos c39] at H
         have c39b0 : decide (x9_3 < (x5_1.length : Int)) = true := decide_eq_true c39
         clear c39
         by_cases c40 : x8_3 = true
         ·subst c40
          have H1 : (if 0 ≤ x9_3 then (if 0 ≤ x7_1 then (if x7_1 < (y293.length : Int) then (spec_l5Shared.l1 k3 x5_1 y293 x7_1 (!(((rd_T25 x5_1 x9_3).f0) == ((rd_T25 y293 x7_1).f0)) || (!(((rd_T25 x5_1 x9_3).f1) == ((rd_T25 y293 x7_1).f1)))) (wrap64 (x9_3 + 1)) a0_0 a0_1 a0_2 a0_3 a1_0 a1_1 a1_2 a1_3) else (none)) else (none)) else (none)) = some r := by rw [if_pos rfl] at H; exact H
          clear H
          have H := H1
          clear H1
          by_cases c41 : 0 ≤ x9_3
          ·rw [if_pos c41] at H
           have c41b0 : decide (0 ≤ x9_3) = true := decide_eq_true c41
           clear c41
           by_cases c42 : 0 ≤ x7_1
           ·rw [if_pos c42] at H
            have c42b0 : decide (0 ≤ x7_1) = true := decide_eq_true c42
            clear c42
            by_cases c43 : x7_1 < (y293.length : Int)
            ·rw [if_pos c43] at H
             have c43b0 : decide (x7_1 < (y293.length : Int)) = true := decide_eq_true c43
             clear c43
             have H' := Aside0.mk H
             clear H
             obtain ⟨Ao44, co44, eo44⟩ := Kd.R_slice HO_5.out
             subst eo44
             try go_wp2
             replace HO_5 := Aside0.mk (Kd.R_drew HO_5.out)
             replace HO_6 := Aside0.mk (Kd.R_drew HO_6.out)
             replace BK288 := Aside0.mk (blk_drew BK288.out)
             replace BK289 := Aside0.mk (blk_drew BK289.out)
             replace HB := Aside0.mk (below_drew1 HB.out)
             have p302 : 0 ≤ (x9_3 : Int) := of_decide_eq_true (by first | (with_reducible assumption) | assumption)
             have q302 : x9_3 < (x5_1.length : Int) := of_decide_eq_true (by first | (with_reducible assumption) | assumption)
             obtain ⟨ad302, e302, hx302_0, hx302_1⟩ := at_T25 (Kd.R_reads' HO_5.out).2.2 x9_3 p302 q302
             cases e302
             replace p302 := eq_true p302
             replace q302 := eq_true q302
             obtain ⟨Ao46, co46, eo46⟩ := Kd.R_slice HO_6.out
             (first | subst eo46 | (injection eo46 with f1_ f2_ f3_; have f4_ := f1_.symm; have f5_ := f3_.symm; clear f1_ f2_ f3_; subst f4_; subst f5_))
             have p303 : 0 ≤ (x7_1 : Int) := of_decide_eq_true (by first | (with_reducible assumption) | assumption)
             have q303 : x7_1 < (y293.length : Int) := of_decide_eq_true (by first | (with_reducible assumption) | assumption)
             obtain ⟨ad303, e303, hx303_0, hx303_1⟩ := at_T25 (Kd.R_reads' HO_6.out).2.2 x7_1 p303 q303
             cases e303
             replace p303 := eq_true p303
             replace q303 := eq_true q303
             refine start_ (n := 13) (S := fun w' => w'.cell? (ad302.add ((x9_3).toNat * 2)) = some (.int .i64 ((rd_T25 x5_1 x9_3).f0)) ∧ w'.cell? ⟨(ad302.add ((x9_3).toNat * 2)).block, (ad302.add ((x9_3).toNat * 2)).off + 1, none⟩ = some (.int .i64 ((rd_T25 x5_1 x9_3).f1)) ∧ w'.cell? (ad303.add ((x7_1).toNat * 2)) = some (.int .i64 ((rd_T25 y293 x7_1).f0)) ∧ w'.cell? ⟨(ad303.add ((x7_1).toNat * 2)).block, (ad303.add ((x7_1).toNat * 2)).off + 1, none⟩ = some (.int .i64 ((rd_T25 y293 x7_1).f1))) (ds := []) #[false, false, false, false, false, false, false, false, false, false, false, false, false] (by kernel_rfl) rfl rfl ⟨hx302_0, hx302_1, hx303_0, hx303_1⟩ (fun hHeld => ?_); refine with_tabW spec_l5Shared.tab10 spec_l5Shared.bits10 (fun HT_ HW_ => ?_)
             generalize wr.drew = w45 at HO_5 HO_6 BK288 BK289 HB hx302_0 hx302_1 hx303_0 hx303_1 hHeld ⊢
             refine pA HT_.out 0 52 ?_
             refine pA HT_.out 1 53 ?_
             refine pA HT_.out 2 54 ?_
             refine pA HT_.out 3 55 ?_
             refine pA HT_.out 4 56 ?_
             refine pA HT_.out 6 58 ?_
             refine pA HT_.out 7 59 ?_
             refine pA HT_.out 8 60 ?_
             refine tA4 HT_.out HW_.out 5 57 hHeld ?_
             refine tA4 HT_.out HW_.out 9 61 hHeld ?_
             refine pA HT_.out 10 62 ?_
             refine pA HT_.out 11 63 ?_
             refine pA HT_.out 12 8 ?_
             refine done_ (done_of HT_.out (by kernel_rfl)) ?_
             try go_wp2
             go_roundg k3
             case measure => have := HK1.out; have := HJ12.out; have := HK3.out; omega
             case rel => exact ⟨((!(((rd_T25 x5_1 x9_3).f0) == ((rd_T25 y293 x7_1).f0)) || (!(((rd_T25 x5_1 x9_3).f1) == ((rd_T25 y293 x7_1).f1))))), (wrap64 (x9_3 + 1)), (by first | rfl | (simp; done) | (simp [*]; done)), (by first | rfl | (simp; done) | (simp [*]; done)), H', ⟨by have := HK1.out; have := HJ12.out; have := HK3.out; omega⟩, ⟨rM HO_5⟩, ⟨rM HO_6⟩, ⟨by (with_reducible repeat (first | refine blk_drewN ?_ _ | refine blk_drew ?_ | refine blk_alloc ?_ _)); exact BK288.out⟩, ⟨by (with_reducible repeat (first | refine blk_drewN ?_ _ | refine blk_drew ?_ | refine blk_alloc ?_ _)); exact BK289.out⟩, ⟨eB2 HB GE288 GE289⟩⟩
            ·rw [if_neg c43] at H
             exact absurd H (by simp)
           ·rw [if_neg c42] at H
            exact absurd H (by simp)
          ·rw [if_neg c41] at H
           exact absurd H (by simp)
         ·replace c40 := Bool.eq_false_iff.mpr c40
          subst c40
          have H1 : (spec_l5Shared.l1 k3 x5_1 y293 x7_1 false (wrap64 (x9_3 + 1)) a0_0 a0_1 a0_2 a0_3 a1_0 a1_1 a1_2 a1_3) = some r := by rw [if_neg (show ¬ (false = true) by decide)] at H; exact H
          clear H
          have H := H1
          clear H1
          have H' := Aside0.mk H
          clear H
          obtain ⟨Ao47, co47, eo47⟩ := Kd.R_slice HO_5.out
          subst eo47
          try go_wp2
          replace HO_5 := Aside0.mk (Kd.R_drew HO_5.out)
          replace HO_6 := Aside0.mk (Kd.R_drew HO_6.out)
          replace BK288 := Aside0.mk (blk_drew BK288.out)
          replace BK289 := Aside0.mk (blk_drew BK289.out)
          replace HB := Aside0.mk (below_drew1 HB.out)
          refine start_ (n := 13) (S := fun w' => True) (ds := []) #[false, false, false, false, false, false, false, false, false, false, false, false, false] (by kernel_rfl) rfl rfl trivial (fun hHeld => ?_); refine with_tabW spec_l5Shared.tab10 spec_l5Shared.bits10 (fun HT_ HW_ => ?_)
          generalize wr.drew = w48 at HO_5 HO_6 BK288 BK289 HB hHeld ⊢
          refine pA HT_.out 0 52 ?_
          refine pA HT_.out 1 53 ?_
          refine pU HT_.out 2 54 ?_
          refine pU HT_.out 3 55 ?_
          refine pU HT_.out 4 56 ?_
          refine pU HT_.out 5 57 ?_
          refine pU HT_.out 6 58 ?_
          refine pU HT_.out 7 59 ?_
          refine pU HT_.out 8 60 ?_
          refine pU HT_.out 9 61 ?_
          refine pU HT_.out 10 62 ?_
          refine pA HT_.out 11 63 ?_
          refine pA HT_.out 12 8 ?_
          refine done_ (done_of HT_.out (by kernel_rfl)) ?_
          try go_wp2
          go_roundg k3
          case measure => have := HK1.out; have := HJ12.out; have := HK3.out; omega
          case rel => exact ⟨(false), (wrap64 (x9_3 + 1)), (by first | rfl | (simp; done) | (simp [*]; done)), (by first | rfl | (simp; done) | (simp [*]; done)), H', ⟨by have := HK1.out; have := HJ12.out; have := HK3.out; omega⟩, ⟨rM HO_5⟩, ⟨rM HO_6⟩, ⟨by (with_reducible repeat (first | refine blk_drewN ?_ _ | refine blk_drew ?_ | refine blk_alloc ?_ _)); exact BK288.out⟩, ⟨by (with_reducible repeat (first | refine blk_drewN ?_ _ | refine blk_drew ?_ | refine blk_alloc ?_ _)); exact BK289.out⟩, ⟨eB2 HB GE288 GE289⟩⟩
        ·rw [if_neg c39] at H
         have c39b0 : decide (x9_3 < (x5_1.length : Int)) = false := decide_eq_false c39
         clear c39
         by_cases c49 : x8_3 = true
         ·subst c49
          have H1 : (if 0 ≤ x7_1 then (if x7_1 < (y293.length : Int) then (if x5_1.length < 8796093022208 then (spec_l5Shared.l0 k3 (x5_1 ++ [(⟨(rd_T25 y293 x7_1).f0, (rd_T25 y293 x7_1).f1⟩ : S25)]) y293 (wrap64 (x7_1 + 1)) a0_0 a0_1 a0_2 a0_3 a1_0 a1_1 a1_2 a1_3) else (none)) else (none)) else (none)) = some r := by rw [if_pos rfl] at H; exact H
          clear H
          have H := H1
          clear H1
          by_cases c50 : 0 ≤ x7_1
          ·rw [if_pos c50] at H
           have c50b0 : decide (0 ≤ x7_1) = true := decide_eq_true c50
           clear c50
           by_cases c51 : x7_1 < (y293.length : Int)
           ·rw [if_pos c51] at H
            have c51b0 : decide (x7_1 < (y293.length : Int)) = true := decide_eq_true c51
            clear c51
            by_cases c52 : x5_1.length < 8796093022208
            ·rw [if_pos c52] at H
             have LMc52 := Aside0.mk c52
             clear c52
             obtain ⟨y305, hy305⟩ : ∃ y_ : List (S25), y_ = (x5_1 ++ [(⟨(rd_T25 y293 x7_1).f0, (rd_T25 y293 x7_1).f1⟩ : S25)]) := ⟨_, rfl⟩
             replace H : (spec_l5Shared.l0 k3 y305 y293 (wrap64 (x7_1 + 1)) a0_0 a0_1 a0_2 a0_3 a1_0 a1_1 a1_2 a1_3) = some r := by first | (rw [hy305]; with_reducible exact H) | (have H2_ := (Option.bind_some _ _).symm.trans H; rw [hy305]; with_reducible exact H2_) | (have H2_ := (Option.bind_some _ _).symm.trans H; with_reducible exact H2_) | with_reducible exact H | (rw [hy305]; exact H) | exact H
             have Ny305 := Aside0.mk hy305
             clear hy305
             have H' := Aside0.mk H
             clear H
             obtain ⟨Ao53, co53, eo53⟩ := Kd.R_slice HO_5.out
             subst eo53
             obtain ⟨Ao54, co54, eo54⟩ := Kd.R_slice HO_6.out
             subst eo54
             have p304 : 0 ≤ (x7_1 : Int) := of_decide_eq_true (by first | (with_reducible assumption) | assumption)
             have q304 : x7_1 < (y293.length : Int) := of_decide_eq_true (by first | (with_reducible assumption) | assumption)
             obtain ⟨ad304, e304, hx304_0, hx304_1⟩ := at_T25 (Kd.R_reads' HO_6.out).2.2 x7_1 p304 q304
             cases e304
             replace p304 := eq_true p304
             replace q304 := eq_true q304
             go_wp2_with (first | ((with_reducible refine gate_builtin (b := .append) (xs := #[.tmp 65, .tmp 70]) rfl ?_); at_builtin; refine Kd.R_append k25 (w0 := w) w.heap.size rfl (.tmp 65) (.tmp 70) 49 25 (.agg #[(.int .i64 0), (.int .i64 0)]) 16 rfl Try.underlying49 info25 rfl (by decide) (by omega) (.slice Ao53 x5_1.length co53) x5_1 (⟨(rd_T25 y293 x7_1).f0, (rd_T25 y293 x7_1).f1⟩ : S25) [.int .i64 ((rd_T25 y293 x7_1).f0), .int .i64 ((rd_T25 y293 x7_1).f1)] (fun k_ => some k_ ≠ (.slice (some ad304) y293.length co54 : Value).ownBlock) (fun _ => False) rfl rfl ?aP (fun _ hk => hk.elim) ?aF ?aO ?aB ?aS ?aL ?_; (case aP => exact k25_mkM _ _ _ (⟨(rd_T25 y293 x7_1).f0, (rd_T25 y293 x7_1).f1⟩ : S25)); (case aB => exact (eB2 HB GE288 GE289)); (case aF => exact (fun k_ hk => Kd.fresh' (Kd.R_lt (rM HO_6)) k_ hk)); (case aO => exact (rM HO_5)); (case aS => exact (below_size (eB2 HB GE288 GE289))); (case aL => have := LMc52.out; omega); intro v306 w55 ho hb hg hat; rw [← Ny305.out] at ho; have n0_ := Aside0.mk (Kd.R_after (ok := (fun _ => True)) (by (with_reducible repeat (first | apply Kd.R_alloc | apply Kd.R_drewN | apply Kd.R_drew)); exact Kd.R_mono HO_6.out (fun _ hk => ⟨trivial, hk⟩)) hg hat); have n1_ := Aside0.mk (blk_grown (g := gb288) (o := .cells #[.int .i64 a0_0, .int .i64 a0_1, .int .i64 a0_2, .int .i64 a0_3] 27 (0, 0)) (by (with_reducible repeat (first | refine blk_drewN ?_ _ | refine blk_drew ?_ | refine blk_alloc ?_ _)); exact BK288.out) hg (Kd.R_ne HO_5.out BK288.out (by decide))); have n2_ := Aside0.mk (blk_grown (g := gb289) (o := .cells #[.int .i64 a1_0, .int .i64 a1_1, .int .i64 a1_2, .int .i64 a1_3] 27 (0, 0)) (by (with_reducible repeat (first | refine blk_drewN ?_ _ | refine blk_drew ?_ | refine blk_alloc ?_ _)); exact BK289.out) hg (Kd.R_ne HO_5.out BK289.out (by decide))); have n3_ := Aside0.mk (hb); have n4_ := Aside0.mk (ho); clear HO_6; clear BK288; clear BK289; clear HB; clear HO_5; have HO_6 := n0_; have BK288 := n1_; have BK289 := n2_; have HB := n3_; have HO307 := n4_; clear n0_ n1_ n2_ n3_ n4_; clear ho hb hg hat))
             go_roundg k3
             case measure => have := HK1.out; have := HJ12.out; have := HK3.out; omega
             case rel => exact ⟨(y305), (wrap64 (x7_1 + 1)), (by first | rfl | (simp; done) | (simp [*]; done)), H', ⟨by have := HK1.out; have := HJ12.out; have := HK3.out; omega⟩, ⟨rM HO307⟩, ⟨by (with_reducible repeat (first | apply Kd.R_alloc | apply Kd.R_drewN | apply Kd.R_drew)); exact Kd.R_mono HO_6.out (fun _ hk => hk.2)⟩, ⟨by (with_reducible repeat (first | refine blk_drewN ?_ _ | refine blk_drew ?_ | refine blk_alloc ?_ _)); exact BK288.out⟩, ⟨by (with_reducible repeat (first | refine blk_drewN ?_ _ | refine blk_drew ?_ | refine blk_alloc ?_ _)); exact BK289.out⟩, ⟨eB2 HB GE288 GE289⟩⟩
            ·rw [if_neg c52] at H
             exact absurd H (by simp)
           ·rw [if_neg c51] at H
            exact absurd H (by simp)
          ·rw [if_neg c50] at H
           exact absurd H (by simp)
         ·replace c49 := Bool.eq_false_iff.mpr c49
          subst c49
          have H1 : (spec_l5Shared.l0 k3 x5_1 y293 (wrap64 (x7_1 + 1)) a0_0 a0_1 a0_2 a0_3 a1_0 a1_1 a1_2 a1_3) = some r := by rw [if_neg (show ¬ (false = true) by decide)] at H; exact H
          clear H
          have H := H1
          clear H1
          have H' := Aside0.mk H
          clear H
          obtain ⟨Ao56, co56, eo56⟩ := Kd.R_slice HO_5.out
          subst eo56
          go_wp2
          go_roundg k3
          case measure => have := HK1.out; have := HJ12.out; have := HK3.out; omega
          case rel => exact ⟨(x5_1), (wrap64 (x7_1 + 1)), (by first | rfl | (simp; done) | (simp [*]; done)), H', ⟨by have := HK1.out; have := HJ12.out; have := HK3.out; omega⟩, ⟨rM HO_5⟩, ⟨rM HO_6⟩, ⟨by (with_reducible repeat (first | refine blk_drewN ?_ _ | refine blk_drew ?_ | refine blk_alloc ?_ _)); exact BK288.out⟩, ⟨by (with_reducible repeat (first | refine blk_drewN ?_ _ | refine blk_drew ?_ | refine blk_alloc ?_ _)); exact BK289.out⟩, ⟨eB2 HB GE288 GE289⟩⟩
   ·rw [if_neg c12] at H
    have c12b0 : decide (x7_1 < 4) = false := decide_eq_false c12
    clear c12
    obtain rfl := Option.some.inj H
    obtain ⟨Ao57, co57, eo57⟩ := Kd.R_slice HO_5.out
    subst eo57
    go_wp2
    go_ret
    exact ⟨by first | rfl | (simp [errW_none, errW_some] <;> rfl) | (simp [*, errW_none, errW_some] <;> rfl), eB2 HB GE288 GE289⟩

end Go.Proofs.Ytokhmgfjgpcmdaa.PFnSegments
