/- What the functions of FnSegments compute, each with its proof: this session's own text. -/
import Derived.Test.YtokhmgfjgpcmdaaVQFnSegmentsx0
import Derived.Test.YtokhmgfjgpcmdaaVQFnSegmentsx7
namespace Go.Proofs.Ytokhmgfjgpcmdaa.PFnSegments
open Go.RowKit Go.Proofs.YtokhmgfjgpcmdaaW.PrintWords Go.Proofs.YtokhmgfjgpcmdaaW.PrintLast Go.Proofs.YtokhmgfjgpcmdaaW.PrintMore Go.Proofs.Ytokhmgfjgpcmdaa.Sh
attribute [local go_sem] max2_int min2_int max_two min_two max_three min_three max_four min_four   -- for this text's walks alone
set_option linter.unusedVariables false
set_option linter.unusedSimpArgs false

/-! ### spec_IsOn: function 32 -/
def spec_IsOn.f (a0_0 : Int) (a0_1 : Int) (a0_2 : Int) (a0_3 : Int) (a1_0 : Int) (a1_1 : Int) : Option (Bool) := (spec_IsSegment.f a0_0 a0_1 a0_2 a0_3).bind fun t279 => (if t279 = true then ((spec_IsPoint.f a1_0 a1_1).bind fun t280 => (if t280 = true then ((spec_l4Cross.f a0_0 a0_1 a0_2 a0_3 a1_0 a1_1).bind fun t281 => (if t281 = 0 then ((spec_Min.f a0_0 a0_2).bind fun t282 => ((spec_Max.f a0_0 a0_2).bind fun t283 => ((spec_l1In.f a1_0 t282 t283).bind fun t284 => (if t284 = true then ((spec_Min.f a0_1 a0_3).bind fun t285 => ((spec_Max.f a0_1 a0_3).bind fun t286 => ((spec_l1In.f a1_1 t285 t286).bind fun t287 => (some t287)))) else (some false))))) else (some false))) else (some false))) else (some false))
def spec_IsOn.T1 : Bool × List (List Nat × List Nat) := (true, [([], []), ([0], [0]), ([1, 1], [1]), ([2], [2]), ([3, 2, 2], [2, 3]), ([2, 4], [2, 4]), ([5, 4], [5]), ([6], [6]), ([7, 6], [6, 7]), ([6], [6]), ([9, 6], [6, 9]), ([6], [6]), ([8, 10, 11, 6, 6], [6, 8, 10, 11]), ([12, 6], [6, 12]), ([6, 13], [6, 13]), ([14, 12], [14]), ([15], [15]), ([16, 15], [15, 16]), ([15], [15]), ([18, 15], [15, 18]), ([19, 15], [15, 19]), ([15], [15]), ([21, 15], [15, 21]), ([22, 15], [15, 22]), ([20, 23, 15, 15], [15, 20, 23]), ([15], [15]), ([25, 15], [15, 25]), ([26, 15], [15, 26]), ([15], [15]), ([28, 15], [15, 28]), ([29, 15], [15, 29]), ([27, 30, 24, 15], [15, 27, 30]), ([17, 24, 31, 31, 15], [15, 17, 24, 31]), ([15, 32], [15, 32]), ([33, 32], [33]), ([34], [34]), ([35, 34], [34, 35]), ([34], [34]), ([37, 34], [34, 37]), ([38, 34], [34, 38]), ([34], [34]), ([40, 34], [34, 40]), ([41, 34], [34, 41]), ([39, 42, 34, 34], [34, 39, 42]), ([34], [34]), ([44, 34], [34, 44]), ([45, 34], [34, 45]), ([34], [34]), ([47, 34], [34, 47]), ([48, 34], [34, 48]), ([46, 49, 43, 34], [34, 46, 49]), ([36, 43, 50, 50, 34], [34, 36, 43, 50]), ([34, 51], [34, 51]), ([52, 51, 0, 1, 2, 3, 4, 5, 6, 7, 8, 9, 10, 11, 12, 13, 14, 15, 16, 17, 18, 19, 20, 21, 22, 23, 24, 25, 26, 27, 28, 29, 30, 31, 32, 33, 34, 35, 36, 37, 38, 39, 40, 41, 42, 43, 44, 45, 46, 47, 48, 49, 50, 51, 52], [52])])
def spec_IsOn.B1 : List Nat := [0, 1, 3, 7, 15, 31, 63, 127, 255, 127, 639, 127, 4095, 8191, 16383, 32767, 65535, 131071, 65535, 327679, 851967, 65535, 2162687, 6356991, 16580607, 65535, 33619967, 100728831, 65535, 268500991, 805371903, 2147287039, 4294967295, 8589934591, 17179869183, 34359738367, 68719476735, 34359738367, 171798691839, 446676598783, 34359738367, 1133871366143, 3332894621695, 8693013807103, 34359738367, 17626545782783, 52810917871615, 34359738367, 140771848093695, 422246824804351, 1125796827627519, 2251799813685247, 4503599627370495, 9007199254740991]
theorem spec_IsOn.tab1 : rtab .any (opsOf Try.f32 1) = spec_IsOn.T1 := by kernel_rfl
theorem spec_IsOn.bits1 : waitsOk spec_IsOn.T1.2 spec_IsOn.B1 = true := by kernel_rfl
set_option maxHeartbeats 8000000 in
set_option maxRecDepth 100000 in
theorem spec_IsOn.calls (a0_0 : Int) (a0_1 : Int) (a0_2 : Int) (a0_3 : Int) (a1_0 : Int) (a1_1 : Int) (r : Bool) (w : World) (h : spec_IsOn.f a0_0 a0_1 a0_2 a0_3 a1_0 a1_1 = some r) :
  Calls Try.prog 32 #[.agg #[.int .i64 a0_0, .int .i64 a0_1, .int .i64 a0_2, .int .i64 a0_3], .agg #[.int .i64 a1_0, .int .i64 a1_1]] w fun e w' => e = .returned (.bool r) ∧ Below w.heap.size w w' := by
 have hu27 := Try.underlying27
 have hu25 := Try.underlying25
 have HB := Aside0.mk (Below.refl w.heap.size w)
 have H : ((spec_IsSegment.f a0_0 a0_1 a0_2 a0_3).bind fun t279 => (if t279 = true then ((spec_IsPoint.f a1_0 a1_1).bind fun t280 => (if t280 = true then ((spec_l4Cross.f a0_0 a0_1 a0_2 a0_3 a1_0 a1_1).bind fun t281 => (if t281 = 0 then ((spec_Min.f a0_0 a0_2).bind fun t282 => ((spec_Max.f a0_0 a0_2).bind fun t283 => ((spec_l1In.f a1_0 t282 t283).bind fun t284 => (if t284 = true then ((spec_Min.f a0_1 a0_3).bind fun t285 => ((spec_Max.f a0_1 a0_3).bind fun t286 => ((spec_l1In.f a1_1 t285 t286).bind fun t287 => (some t287)))) else (some false))))) else (some false))) else (some false))) else (some false))) = some r := h
 clear h
 replace H := Option.bind_eq_some_iff.mp H
 obtain ⟨t279, A30, H⟩ := H
 replace H : (if t279 = true then ((spec_IsPoint.f a1_0 a1_1).bind fun t280 => (if t280 = true then ((spec_l4Cross.f a0_0 a0_1 a0_2 a0_3 a1_0 a1_1).bind fun t281 => (if t281 = 0 then ((spec_Min.f a0_0 a0_2).bind fun t282 => ((spec_Max.f a0_0 a0_2).bind fun t283 => ((spec_l1In.f a1_0 t282 t283).bind fun t284 => (if t284 = true then ((spec_Min.f a0_1 a0_3).bind fun t285 => ((spec_Max.f a0_1 a0_3).bind fun t286 => ((spec_l1In.f a1_1 t285 t286).bind fun t287 => (some t287)))) else (some false))))) else (some false))) else (some false))) else (some false)) = some r := H
 have A3 := Aside0.mk A30
 clear A30
 by_cases c4 : t279 = true
 ·subst c4
  have H1 : ((spec_IsPoint.f a1_0 a1_1).bind fun t280 => (if t280 = true then ((spec_l4Cross.f a0_0 a0_1 a0_2 a0_3 a1_0 a1_1).bind fun t281 => (if t281 = 0 then ((spec_Min.f a0_0 a0_2).bind fun t282 => ((spec_Max.f a0_0 a0_2).bind fun t283 => ((spec_l1In.f a1_0 t282 t283).bind fun t284 => (if t284 = true then ((spec_Min.f a0_1 a0_3).bind fun t285 => ((spec_Max.f a0_1 a0_3).bind fun t286 => ((spec_l1In.f a1_1 t285 t286).bind fun t287 => (some t287)))) else (some false))))) else (some false))) else (some false))) = some r := by rw [if_pos rfl] at H; exact H
  clear H
  have H := H1
  clear H1
  replace H := Option.bind_eq_some_iff.mp H
  obtain ⟨t280, A50, H⟩ := H
  replace H : (if t280 = true then ((spec_l4Cross.f a0_0 a0_1 a0_2 a0_3 a1_0 a1_1).bind fun t281 => (if t281 = 0 then ((spec_Min.f a0_0 a0_2).bind fun t282 => ((spec_Max.f a0_0 a0_2).bind fun t283 => ((spec_l1In.f a1_0 t282 t283).bind fun t284 => (if t284 = true then ((spec_Min.f a0_1 a0_3).bind fun t285 => ((spec_Max.f a0_1 a0_3).bind fun t286 => ((spec_l1In.f a1_1 t285 t286).bind fun t287 => (some t287)))) else (some false))))) else (some false))) else (some false)) = some r := H
  have A5 := Aside0.mk A50
  clear A50
  by_cases c6 : t280 = true
  ·subst c6
   have H1 : ((spec_l4Cross.f a0_0 a0_1 a0_2 a0_3 a1_0 a1_1).bind fun t281 => (if t281 = 0 then ((spec_Min.f a0_0 a0_2).bind fun t282 => ((spec_Max.f a0_0 a0_2).bind fun t283 => ((spec_l1In.f a1_0 t282 t283).bind fun t284 => (if t284 = true then ((spec_Min.f a0_1 a0_3).bind fun t285 => ((spec_Max.f a0_1 a0_3).bind fun t286 => ((spec_l1In.f a1_1 t285 t286).bind fun t287 => (some t287)))) else (some false))))) else (some false))) = some r := by rw [if_pos rfl] at H; exact H
   clear H
   have H := H1
   clear H1
   replace H := Option.bind_eq_some_iff.mp H
   obtain ⟨t281, A70, H⟩ := H
   replace H : (if t281 = 0 then ((spec_Min.f a0_0 a0_2).bind fun t282 => ((spec_Max.f a0_0 a0_2).bind fun t283 => ((spec_l1In.f a1_0 t282 t283).bind fun t284 => (if t284 = true then ((spec_Min.f a0_1 a0_3).bind fun t285 => ((spec_Max.f a0_1 a0_3).bind fun t286 => ((spec_l1In.f a1_1 t285 t286).bind fun t287 => (some t287)))) else (some false))))) else (some false)) = some r := H
   have A7 := Aside0.mk A70
   clear A70
   by_cases c8 : t281 = 0
   ·rw [if_pos c8] at H
    have c8b0 : (t281 == 0) = true := beq_iff_eq.mpr c8
    have c8b1 : (t281 != 0) = false := bne_eq_false_iff_eq.mpr c8
    clear c8
    replace H := Option.bind_eq_some_iff.mp H
    obtain ⟨t282, A90, H⟩ := H
    replace H : ((spec_Max.f a0_0 a0_2).bind fun t283 => ((spec_l1In.f a1_0 t282 t283).bind fun t284 => (if t284 = true then ((spec_Min.f a0_1 a0_3).bind fun t285 => ((spec_Max.f a0_1 a0_3).bind fun t286 => ((spec_l1In.f a1_1 t285 t286).bind fun t287 => (some t287)))) else (some false)))) = some r := H
    have A9 := Aside0.mk A90
    clear A90
    replace H := Option.bind_eq_some_iff.mp H
    obtain ⟨t283, A100, H⟩ := H
    replace H : ((spec_l1In.f a1_0 t282 t283).bind fun t284 => (if t284 = true then ((spec_Min.f a0_1 a0_3).bind fun t285 => ((spec_Max.f a0_1 a0_3).bind fun t286 => ((spec_l1In.f a1_1 t285 t286).bind fun t287 => (some t287)))) else (some false))) = some r := H
    have A10 := Aside0.mk A100
    clear A100
    replace H := Option.bind_eq_some_iff.mp H
    obtain ⟨t284, A110, H⟩ := H
    replace H : (if t284 = true then ((spec_Min.f a0_1 a0_3).bind fun t285 => ((spec_Max.f a0_1 a0_3).bind fun t286 => ((spec_l1In.f a1_1 t285 t286).bind fun t287 => (some t287)))) else (some false)) = some r := H
    have A11 := Aside0.mk A110
    clear A110
    by_cases c12 : t284 = true
    ·subst c12
     have H1 : ((spec_Min.f a0_1 a0_3).bind fun t285 => ((spec_Max.f a0_1 a0_3).bind fun t286 => ((spec_l1In.f a1_1 t285 t286).bind fun t287 => (some t287)))) = some r := by rw [if_pos rfl] at H; exact H
     clear H
     have H := H1
     clear H1
     replace H := Option.bind_eq_some_iff.mp H
     obtain ⟨t285, A130, H⟩ := H
     replace H : ((spec_Max.f a0_1 a0_3).bind fun t286 => ((spec_l1In.f a1_1 t285 t286).bind fun t287 => (some t287))) = some r := H
     have A13 := Aside0.mk A130
     clear A130
     replace H := Option.bind_eq_some_iff.mp H
     obtain ⟨t286, A140, H⟩ := H
     replace H : ((spec_l1In.f a1_1 t285 t286).bind fun t287 => (some t287)) = some r := H
     have A14 := Aside0.mk A140
     clear A140
     replace H := Option.bind_eq_some_iff.mp H
     obtain ⟨t287, A150, H⟩ := H
     replace H : (some t287) = some r := H
     have A15 := Aside0.mk A150
     clear A150
     obtain rfl := Option.some.inj H
     go_enter Try.func32, Try.ntmps32
     try go_wp2_with (first | ((with_reducible refine gate_dst (N := 2) rfl ?_); refine box_event ?hg (N := 2) ?hd (cs := #[.int .i64 a0_0, .int .i64 a0_1, .int .i64 a0_2, .int .i64 a0_3]) (t := 27) ?hr ?_; (case hd => rfl); (case hg => rfl); (case hr => first | (go_simp; done) | (go_simp; rfl)); intro gb277 hg w16 hbox hb; have BK277 := Aside0.mk (hbox); have GW277 := zB0 HB hg; have GE277 := zB0 HB hg; replace HB := sB0 HB hb; clear hb hbox hg) | ((with_reducible refine gate_dst (N := 3) rfl ?_); refine box_event ?hg (N := 3) ?hd (cs := #[.int .i64 a1_0, .int .i64 a1_1]) (t := 25) ?hr ?_; (case hd => rfl); (case hg => rfl); (case hr => first | (go_simp; done) | (go_simp; rfl)); intro gb278 hg w17 hbox hb; have BK278 := Aside0.mk (hbox); have GW278 := zB1 HB hg GE277; have GE278 := zB1 HB hg GE277; have NB277_278 := nL BK277 hg; have NB278_277 := nG BK277 hg; replace BK277 := mB BK277 hb; replace HB := sB1 HB hb GE277; clear hb hbox hg))
     replace BK277 := Aside0.mk (blk_drew BK277.out)
     replace BK278 := Aside0.mk (blk_drew BK278.out)
     replace HB := Aside0.mk (below_drew1 HB.out)
     refine start_ (n := 54) (S := fun w' => w'.cell? ⟨gb277, 0, none⟩ = some (.int .i64 a0_0) ∧ w'.cell? ⟨gb277, 1, none⟩ = some (.int .i64 a0_1) ∧ w'.cell? ⟨gb277, 2, none⟩ = some (.int .i64 a0_2) ∧ w'.cell? ⟨gb277, 3, none⟩ = some (.int .i64 a0_3) ∧ w'.cell? ⟨gb278, 0, none⟩ = some (.int .i64 a1_0) ∧ w'.cell? ⟨gb278, 1, none⟩ = some (.int .i64 a1_1)) (ds := []) #[false, false, false, false, false, false, false, false, false, false, false, false, false, false, false, false, false, false, false, false, false, false, false, false, false, false, false, false, false, false, false, false, false, false, false, false, false, false, false, false, false, false, false, false, false, false, false, false, false, false, false, false, false, false] (by kernel_rfl) rfl rfl ⟨(blk_cell BK277.out 0).trans rfl, (blk_cell BK277.out 1).trans rfl, (blk_cell BK277.out 2).trans rfl, (blk_cell BK277.out 3).trans rfl, (blk_cell BK278.out 0).trans rfl, (blk_cell BK278.out 1).trans rfl⟩ (fun hHeld => ?_); refine with_tabW spec_IsOn.tab1 spec_IsOn.bits1 (fun HT_ HW_ => ?_)
     generalize w17.drew = w18 at BK277 BK278 HB hHeld ⊢
     refine tA6 HT_.out HW_.out 0 5 hHeld ?_
     refine one_ (i := 1) (N := some 6) #[true, true, false, false, false, false, false, false, false, false, false, false, false, false, false, false, false, false, false, false, false, false, false, false, false, false, false, false, false, false, false, false, false, false, false, false, false, false, false, false, false, false, false, false, false, false, false, false, false, false, false, false, false, false] rfl rfl (one_of HT_.out (by kernel_rfl)) (by decide) (fun K hK => ?_)
     refine gS Try.func19 #[.agg #[.int .i64 a0_0, .int .i64 a0_1, .int .i64 a0_2, .int .i64 a0_3]] ?_
     with_reducible refine (spec_IsSegment.calls a0_0 a0_1 a0_2 a0_3 true _ A3.out).mono ?_
     rintro e w19 ⟨rfl, hb⟩
     refine ⟨_, rfl, ?_⟩
     replace BK277 := mB BK277 hb
     replace BK278 := mB BK278 hb
     replace HB := sB2 HB hb GE277 GE278
     (try clear hb)
     (try clear hb2)
     (try clear hk)
     (try clear hi)
     refine hK.out _ _ ⟨(blk_cell BK277.out 0).trans rfl, (blk_cell BK277.out 1).trans rfl, (blk_cell BK277.out 2).trans rfl, (blk_cell BK277.out 3).trans rfl, (blk_cell BK278.out 0).trans rfl, (blk_cell BK278.out 1).trans rfl⟩ (fun hHeld => ?_)
     clear hK K
     refine norm_ (a' := ?_) ?_ ?_
     rotate_left
     ·show Act.put _ (some 6) _ = _
      simp only [Act.put, List.setIfInBounds_toArray, List.set_cons_zero, List.set_cons_succ, i64_w, i32_w]
      rfl
     refine pA HT_.out 2 7 ?_
     refine tA6 HT_.out HW_.out 3 8 hHeld ?_
     refine one_ (i := 4) (N := some 9) #[true, true, true, true, true, false, false, false, false, false, false, false, false, false, false, false, false, false, false, false, false, false, false, false, false, false, false, false, false, false, false, false, false, false, false, false, false, false, false, false, false, false, false, false, false, false, false, false, false, false, false, false, false, false] rfl rfl (one_of HT_.out (by kernel_rfl)) (by decide) (fun K hK => ?_)
     refine gS Try.func31 #[.agg #[.int .i64 a1_0, .int .i64 a1_1]] ?_
     with_reducible refine (spec_IsPoint.calls a1_0 a1_1 true _ A5.out).mono ?_
     rintro e w20 ⟨rfl, hb⟩
     refine ⟨_, rfl, ?_⟩
     replace BK277 := mB BK277 hb
     replace BK278 := mB BK278 hb
     replace HB := sB2 HB hb GE277 GE278
     (try clear hb)
     (try clear hb2)
     (try clear hk)
     (try clear hi)
     refine hK.out _ _ ⟨(blk_cell BK277.out 0).trans rfl, (blk_cell BK277.out 1).trans rfl, (blk_cell BK277.out 2).trans rfl, (blk_cell BK277.out 3).trans rfl, (blk_cell BK278.out 0).trans rfl, (blk_cell BK278.out 1).trans rfl⟩ (fun hHeld => ?_)
     clear hK K
     refine norm_ (a' := ?_) ?_ ?_
     rotate_left
     ·show Act.put _ (some 9) _ = _
      simp only [Act.put, List.setIfInBounds_toArray, List.set_cons_zero, List.set_cons_succ, i64_w, i32_w]
      rfl
     refine pA HT_.out 5 10 ?_
     refine pA HT_.out 6 11 ?_
     refine pA HT_.out 7 12 ?_
     refine pA HT_.out 9 14 ?_
     refine tA6 HT_.out HW_.out 8 13 hHeld ?_
     refine tA6 HT_.out HW_.out 10 15 hHeld ?_
     refine tA6 HT_.out HW_.out 11 16 hHeld ?_
     refine one_ (i := 12) (N := some 17) #[true, true, true, true, true, true, true, true, true, true, true, true, true, false, false, false, false, false, false, false, false, false, false, false, false, false, false, false, false, false, false, false, false, false, false, false, false, false, false, false, false, false, false, false, false, false, false, false, false, false, false, false, false, false] rfl rfl (one_of HT_.out (by kernel_rfl)) (by decide) (fun K hK => ?_)
     refine gS Try.func33 #[.agg #[.int .i64 a0_0, .int .i64 a0_1], .agg #[.int .i64 a0_2, .int .i64 a0_3], .agg #[.int .i64 a1_0, .int .i64 a1_1]] ?_
     with_reducible refine (spec_l4Cross.calls a0_0 a0_1 a0_2 a0_3 a1_0 a1_1 t281 _ A7.out).mono ?_
     rintro e w21 ⟨rfl, hb⟩
     refine ⟨_, rfl, ?_⟩
     replace BK277 := mB BK277 hb
     replace BK278 := mB BK278 hb
     replace HB := sB2 HB hb GE277 GE278
     (try clear hb)
     (try clear hb2)
     (try clear hk)
     (try clear hi)
     refine hK.out _ _ ⟨(blk_cell BK277.out 0).trans rfl, (blk_cell BK277.out 1).trans rfl, (blk_cell BK277.out 2).trans rfl, (blk_cell BK277.out 3).trans rfl, (blk_cell BK278.out 0).trans rfl, (blk_cell BK278.out 1).trans rfl⟩ (fun hHeld => ?_)
     clear hK K
     refine norm_ (a' := ?_) ?_ ?_
     rotate_left
     ·show Act.put _ (some 17) _ = _
      simp only [Act.put, List.setIfInBounds_toArray, List.set_cons_zero, List.set_cons_succ, i64_w, i32_w]
      rfl
     refine pA HT_.out 13 18 ?_
     refine pA HT_.out 14 19 ?_
     refine pA HT_.out 15 20 ?_
     refine pA HT_.out 16 21 ?_
     refine pA HT_.out 18 23 ?_
     refine pA HT_.out 19 24 ?_
     refine pA HT_.out 21 26 ?_
     refine pA HT_.out 22 27 ?_
     refine pA HT_.out 25 30 ?_
     refine pA HT_.out 26 31 ?_
     refine pA HT_.out 28 33 ?_
     refine pA HT_.out 29 34 ?_
     refine tA6 HT_.out HW_.out 17 22 hHeld ?_
     refine tA6 HT_.out HW_.out 20 25 hHeld ?_
     refine tA6 HT_.out HW_.out 23 28 hHeld ?_
     refine tA6 HT_.out HW_.out 27 32 hHeld ?_
     refine tA6 HT_.out HW_.out 30 35 hHeld ?_
     refine one_ (i := 24) (N := some 29) #[true, true, true, true, true, true, true, true, true, true, true, true, true, true, true, true, true, true, true, true, true, true, true, true, true, true, true, true, true, true, true, false, false, false, false, false, false, false, false, false, false, false, false, false, false, false, false, false, false, false, false, false, false, false] rfl rfl (one_of HT_.out (by kernel_rfl)) (by decide) (fun K hK => ?_)
     refine gS Try.func21 #[.int .i64 a0_0, .int .i64 a0_2] ?_
     with_reducible refine (spec_Min.calls a0_0 a0_2 t282 _ A9.out).mono ?_
     rintro e w' ⟨rfl, ⟨nd, rfl⟩⟩
     refine ⟨_, rfl, ?_⟩
     refine hK.out _ _ ⟨(blk_cell BK277.out 0).trans rfl, (blk_cell BK277.out 1).trans rfl, (blk_cell BK277.out 2).trans rfl, (blk_cell BK277.out 3).trans rfl, (blk_cell BK278.out 0).trans rfl, (blk_cell BK278.out 1).trans rfl⟩ (fun hHeld => ?_)
     clear hK K
     refine norm_ (a' := ?_) ?_ ?_
     rotate_left
     ·show Act.put _ (some 29) _ = _
      simp only [Act.put, List.setIfInBounds_toArray, List.set_cons_zero, List.set_cons_succ, i64_w, i32_w]
      rfl
     refine one_ (i := 31) (N := some 36) #[true, true, true, true, true, true, true, true, true, true, true, true, true, true, true, true, true, true, true, true, true, true, true, true, true, true, true, true, true, true, true, true, false, false, false, false, false, false, false, false, false, false, false, false, false, false, false, false, false, false, false, false, false, false] rfl rfl (one_of HT_.out (by kernel_rfl)) (by decide) (fun K hK => ?_)
     refine gS Try.func20 #[.int .i64 a0_0, .int .i64 a0_2] ?_
     with_reducible refine (spec_Max.calls a0_0 a0_2 t283 _ A10.out).mono ?_
     rintro e w' ⟨rfl, ⟨nd, rfl⟩⟩
     refine ⟨_, rfl, ?_⟩
     refine hK.out _ _ ⟨(blk_cell BK277.out 0).trans rfl, (blk_cell BK277.out 1).trans rfl, (blk_cell BK277.out 2).trans rfl, (blk_cell BK277.out 3).trans rfl, (blk_cell BK278.out 0).trans rfl, (blk_cell BK278.out 1).trans rfl⟩ (fun hHeld => ?_)
     clear hK K
     refine norm_ (a' := ?_) ?_ ?_
     rotate_left
     ·show Act.put _ (some 36) _ = _
      simp only [Act.put, List.setIfInBounds_toArray, List.set_cons_zero, List.set_cons_succ, i64_w, i32_w]
      rfl
     refine one_ (i := 32) (N := some 37) #[true, true, true, true, true, true, true, true, true, true, true, true, true, true, true, true, true, true, true, true, true, true, true, true, true, true, true, true, true, true, true, true, true, false, false, false, false, false, false, false, false, false, false, false, false, false, false, false, false, false, false, false, false, false] rfl rfl (one_of HT_.out (by kernel_rfl)) (by decide) (fun K hK => ?_)
     refine gS Try.func38 #[.int .i64 a1_0, .int .i64 t282, .int .i64 t283] ?_
     with_reducible refine (spec_l1In.calls a1_0 t282 t283 true _ A11.out).mono ?_
     rintro e w' ⟨rfl, ⟨nd, rfl⟩⟩
     refine ⟨_, rfl, ?_⟩
     refine hK.out _ _ ⟨(blk_cell BK277.out 0).trans rfl, (blk_cell BK277.out 1).trans rfl, (blk_cell BK277.out 2).trans rfl, (blk_cell BK277.out 3).trans rfl, (blk_cell BK278.out 0).trans rfl, (blk_cell BK278.out 1).trans rfl⟩ (fun hHeld => ?_)
     clear hK K
     refine norm_ (a' := ?_) ?_ ?_
     rotate_left
     ·show Act.put _ (some 37) _ = _
      simp only [Act.put, List.setIfInBounds_toArray, List.set_cons_zero, List.set_cons_succ, i64_w, i32_w]
      rfl
     refine pA HT_.out 33 38 ?_
     refine pA HT_.out 34 39 ?_
     refine pA HT_.out 35 40 ?_
     refine pA HT_.out 37 42 ?_
     refine pA HT_.out 38 43 ?_
     refine pA HT_.out 40 45 ?_
     refine pA HT_.out 41 46 ?_
     refine pA HT_.out 44 49 ?_
     refine pA HT_.out 45 50 ?_
     refine pA HT_.out 47 52 ?_
     refine pA HT_.out 48 53 ?_
     refine tA6 HT_.out HW_.out 36 41 hHeld ?_
     refine tA6 HT_.out HW_.out 39 44 hHeld ?_
     refine tA6 HT_.out HW_.out 42 47 hHeld ?_
     refine tA6 HT_.out HW_.out 46 51 hHeld ?_
     refine tA6 HT_.out HW_.out 49 54 hHeld ?_
     refine one_ (i := 43) (N := some 48) #[true, true, true, true, true, true, true, true, true, true, true, true, true, true, true, true, true, true, true, true, true, true, true, true, true, true, true, true, true, true, true, true, true, true, true, true, true, true, true, true, true, true, true, true, true, true, true, true, true, true, false, false, false, false] rfl rfl (one_of HT_.out (by kernel_rfl)) (by decide) (fun K hK => ?_)
     refine gS Try.func21 #[.int .i64 a0_1, .int .i64 a0_3] ?_
     with_reducible refine (spec_Min.calls a0_1 a0_3 t285 _ A13.out).mono ?_
     rintro e w' ⟨rfl, ⟨nd, rfl⟩⟩
     refine ⟨_, rfl, ?_⟩
     refine hK.out _ _ ⟨(blk_cell BK277.out 0).trans rfl, (blk_cell BK277.out 1).trans rfl, (blk_cell BK277.out 2).trans rfl, (blk_cell BK277.out 3).trans rfl, (blk_cell BK278.out 0).trans rfl, (blk_cell BK278.out 1).trans rfl⟩ (fun hHeld => ?_)
     clear hK K
     refine norm_ (a' := ?_) ?_ ?_
     rotate_left
     ·show Act.put _ (some 48) _ = _
      simp only [Act.put, List.setIfInBounds_toArray, List.set_cons_zero, List.set_cons_succ, i64_w, i32_w]
      rfl
     refine one_ (i := 50) (N := some 55) #[true, true, true, true, true, true, true, true, true, true, true, true, true, true, true, true, true, true, true, true, true, true, true, true, true, true, true, true, true, true, true, true, true, true, true, true, true, true, true, true, true, true, true, true, true, true, true, true, true, true, true, false, false, false] rfl rfl (one_of HT_.out (by kernel_rfl)) (by decide) (fun K hK => ?_)
     refine gS Try.func20 #[.int .i64 a0_1, .int .i64 a0_3] ?_
     with_reducible refine (spec_Max.calls a0_1 a0_3 t286 _ A14.out).mono ?_
     rintro e w' ⟨rfl, ⟨nd, rfl⟩⟩
     refine ⟨_, rfl, ?_⟩
     refine hK.out _ _ ⟨(blk_cell BK277.out 0).trans rfl, (blk_cell BK277.out 1).trans rfl, (blk_cell BK277.out 2).trans rfl, (blk_cell BK277.out 3).trans rfl, (blk_cell BK278.out 0).trans rfl, (blk_cell BK278.out 1).trans rfl⟩ (fun hHeld => ?_)
     clear hK K
     refine norm_ (a' := ?_) ?_ ?_
     rotate_left
     ·show Act.put _ (some 55) _ = _
      simp only [Act.put, List.setIfInBounds_toArray, List.set_cons_zero, List.set_cons_succ, i64_w, i32_w]
      rfl
     refine one_ (i := 51) (N := some 56) #[true, true, true, true, true, true, true, true, true, true, true, true, true, true, true, true, true, true, true, true, true, true, true, true, true, true, true, true, true, true, true, true, true, true, true, true, true, true, true, true, true, true, true, true, true, true, true, true, true, true, true, true, false, false] rfl rfl (one_of HT_.out (by kernel_rfl)) (by decide) (fun K hK => ?_)
     refine gS Try.func38 #[.int .i64 a1_1, .int .i64 t285, .int .i64 t286] ?_
     with_reducible refine (spec_l1In.calls a1_1 t285 t286 t287 _ A15.out).mono ?_
     rintro e w' ⟨rfl, ⟨nd, rfl⟩⟩
     refine ⟨_, rfl, ?_⟩
     refine hK.out _ _ ⟨(blk_cell BK277.out 0).trans rfl, (blk_cell BK277.out 1).trans rfl, (blk_cell BK277.out 2).trans rfl, (blk_cell BK277.out 3).trans rfl, (blk_cell BK278.out 0).trans rfl, (blk_cell BK278.out 1).trans rfl⟩ (fun hHeld => ?_)
     clear hK K
     refine norm_ (a' := ?_) ?_ ?_
     rotate_left
     ·show Act.put _ (some 56) _ = _
      simp only [Act.put, List.setIfInBounds_toArray, List.set_cons_zero, List.set_cons_succ, i64_w, i32_w]
      rfl
     refine pA HT_.out 52 57 ?_
     refine pA HT_.out 53 4 ?_
     refine done_ (done_of HT_.out (by kernel_rfl)) ?_
     try go_wp2
     go_ret
     exact ⟨by first | rfl | (simp [errW_none, errW_some] <;> rfl) | (simp [*, errW_none, errW_some] <;> rfl), eB2 HB GE277 GE278⟩
    ·replace c12 := Bool.eq_false_iff.mpr c12
     subst c12
     have H1 : (some false) = some r := by rw [if_neg (show ¬ (false = true) by decide)] at H; exact H
     clear H
     have H := H1
     clear H1
     obtain rfl := Option.some.inj H
     go_enter Try.func32, Try.ntmps32
     try go_wp2_with (first | ((with_reducible refine gate_dst (N := 2) rfl ?_); refine box_event ?hg (N := 2) ?hd (cs := #[.int .i64 a0_0, .int .i64 a0_1, .int .i64 a0_2, .int .i64 a0_3]) (t := 27) ?hr ?_; (case hd => rfl); (case hg => rfl); (case hr => first | (go_simp; done) | (go_simp; rfl)); intro gb277 hg w22 hbox hb; have BK277 := Aside0.mk (hbox); have GW277 := zB0 HB hg; have GE277 := zB0 HB hg; replace HB := sB0 HB hb; clear hb hbox hg) | ((with_reducible refine gate_dst (N := 3) rfl ?_); refine box_event ?hg (N := 3) ?hd (cs := #[.int .i64 a1_0, .int .i64 a1_1]) (t := 25) ?hr ?_; (case hd => rfl); (case hg => rfl); (case hr => first | (go_simp; done) | (go_simp; rfl)); intro gb278 hg w23 hbox hb; have BK278 := Aside0.mk (hbox); have GW278 := zB1 HB hg GE277; have GE278 := zB1 HB hg GE277; have NB277_278 := nL BK277 hg; have NB278_277 := nG BK277 hg; replace BK277 := mB BK277 hb; replace HB := sB1 HB hb GE277; clear hb hbox hg))
     replace BK277 := Aside0.mk (blk_drew BK277.out)
     replace BK278 := Aside0.mk (blk_drew BK278.out)
     replace HB := Aside0.mk (below_drew1 HB.out)
     refine start_ (n := 54) (S := fun w' => w'.cell? ⟨gb277, 0, none⟩ = some (.int .i64 a0_0) ∧ w'.cell? ⟨gb277, 1, none⟩ = some (.int .i64 a0_1) ∧ w'.cell? ⟨gb277, 2, none⟩ = some (.int .i64 a0_2) ∧ w'.cell? ⟨gb277, 3, none⟩ = some (.int .i64 a0_3) ∧ w'.cell? ⟨gb278, 0, none⟩ = some (.int .i64 a1_0) ∧ w'.cell? ⟨gb278, 1, none⟩ = some (.int .i64 a1_1)) (ds := []) #[false, false, false, false, false, false, false, false, false, false, false, false, false, false, false, false, false, false, false, false, false, false, false, false, false, false, false, false, false, false, false, false, false, false, false, false, false, false, false, false, false, false, false, false, false, false, false, false, false, false, false, false, false, false] (by kernel_rfl) rfl rfl ⟨(blk_cell BK277.out 0).trans rfl, (blk_cell BK277.out 1).trans rfl, (blk_cell BK277.out 2).trans rfl, (blk_cell BK277.out 3).trans rfl, (blk_cell BK278.out 0).trans rfl, (blk_cell BK278.out 1).trans rfl⟩ (fun hHeld => ?_); refine with_tabW spec_IsOn.tab1 spec_IsOn.bits1 (fun HT_ HW_ => ?_)
     generalize w23.drew = w24 at BK277 BK278 HB hHeld ⊢
     refine tA6 HT_.out HW_.out 0 5 hHeld ?_
     refine one_ (i := 1) (N := some 6) #[true, true, false, false, false, false, false, false, false, false, false, false, false, false, false, false, false, false, false, false, false, false, false, false, false, false, false, false, false, false, false, false, false, false, false, false, false, false, false, false, false, false, false, false, false, false, false, false, false, false, false, false, false, false] rfl rfl (one_of HT_.out (by kernel_rfl)) (by decide) (fun K hK => ?_)
     refine gS Try.func19 #[.agg #[.int .i64 a0_0, .int .i64 a0_1, .int .i64 a0_2, .int .i64 a0_3]] ?_
     with_reducible refine (spec_IsSegment.calls a0_0 a0_1 a0_2 a0_3 true _ A3.out).mono ?_
     rintro e w25 ⟨rfl, hb⟩
     refine ⟨_, rfl, ?_⟩
     replace BK277 := mB BK277 hb
     replace BK278 := mB BK278 hb
     replace HB := sB2 HB hb GE277 GE278
     (try clear hb)
     (try clear hb2)
     (try clear hk)
     (try clear hi)
     refine hK.out _ _ ⟨(blk_cell BK277.out 0).trans rfl, (blk_cell BK277.out 1).trans rfl, (blk_cell BK277.out 2).trans rfl, (blk_cell BK277.out 3).trans rfl, (blk_cell BK278.out 0).trans rfl, (blk_cell BK278.out 1).trans rfl⟩ (fun hHeld => ?_)
     clear hK K
     refine norm_ (a' := ?_) ?_ ?_
     rotate_left
     ·show Act.put _ (some 6) _ = _
      simp only [Act.put, List.setIfInBounds_toArray, List.set_cons_zero, List.set_cons_succ, i64_w, i32_w]
      rfl
     refine pA HT_.out 2 7 ?_
     refine tA6 HT_.out HW_.out 3 8 hHeld ?_
     refine one_ (i := 4) (N := some 9) #[true, true, true, true, true, false, false, false, false, false, false, false, false, false, false, false, false, false, false, false, false, false, false, false, false, false, false, false, false, false, false, false, false, false, false, false, false, false, false, false, false, false, false, false, false, false, false, false, false, false, false, false, false, false] rfl rfl (one_of HT_.out (by kernel_rfl)) (by decide) (fun K hK => ?_)
     refine gS Try.func31 #[.agg #[.int .i64 a1_0, .int .i64 a1_1]] ?_
     with_reducible refine (spec_IsPoint.calls a1_0 a1_1 true _ A5.out).mono ?_
     rintro e w26 ⟨rfl, hb⟩
     refine ⟨_, rfl, ?_⟩
     replace BK277 := mB BK277 hb
     replace BK278 := mB BK278 hb
     replace HB := sB2 HB hb GE277 GE278
     (try clear hb)
     (try clear hb2)
     (try clear hk)
     (try clear hi)
     refine hK.out _ _ ⟨(blk_cell BK277.out 0).trans rfl, (blk_cell BK277.out 1).trans rfl, (blk_cell BK277.out 2).trans rfl, (blk_cell BK277.out 3).trans rfl, (blk_cell BK278.out 0).trans rfl, (blk_cell BK278.out 1).trans rfl⟩ (fun hHeld => ?_)
     clear hK K
     refine norm_ (a' := ?_) ?_ ?_
     rotate_left
     ·show Act.put _ (some 9) _ = _
      simp only [Act.put, List.setIfInBounds_toArray, List.set_cons_zero, List.set_cons_succ, i64_w, i32_w]
      rfl
     refine pA HT_.out 5 10 ?_
     refine pA HT_.out 6 11 ?_
     refine pA HT_.out 7 12 ?_
     refine pA HT_.out 9 14 ?_
     refine tA6 HT_.out HW_.out 8 13 hHeld ?_
     refine tA6 HT_.out HW_.out 10 15 hHeld ?_
     refine tA6 HT_.out HW_.out 11 16 hHeld ?_
     refine one_ (i := 12) (N := some 17) #[true, true, true, true, true, true, true, true, true, true, true, true, true, false, false, false, false, false, false, false, false, false, false, false, false, false, false, false, false, false, false, false, false, false, false, false, false, false, false, false, false, false, false, false, false, false, false, false, false, false, false, false, false, false] rfl rfl (one_of HT_.out (by kernel_rfl)) (by decide) (fun K hK => ?_)
     refine gS Try.func33 #[.agg #[.int .i64 a0_0, .int .i64 a0_1], .agg #[.int .i64 a0_2, .int .i64 a0_3], .agg #[.int .i64 a1_0, .int .i64 a1_1]] ?_
     with_reducible refine (spec_l4Cross.calls a0_0 a0_1 a0_2 a0_3 a1_0 a1_1 t281 _ A7.out).mono ?_
     rintro e w27 ⟨rfl, hb⟩
     refine ⟨_, rfl, ?_⟩
     replace BK277 := mB BK277 hb
     replace BK278 := mB BK278 hb
     replace HB := sB2 HB hb GE277 GE278
     (try clear hb)
     (try clear hb2)
     (try clear hk)
     (try clear hi)
     refine hK.out _ _ ⟨(blk_cell BK277.out 0).trans rfl, (blk_cell BK277.out 1).trans rfl, (blk_cell BK277.out 2).trans rfl, (blk_cell BK277.out 3).trans rfl, (blk_cell BK278.out 0).trans rfl, (blk_cell BK278.out 1).trans rfl⟩ (fun hHeld => ?_)
     clear hK K
     refine norm_ (a' := ?_) ?_ ?_
     rotate_left
     ·show Act.put _ (some 17) _ = _
      simp only [Act.put, List.setIfInBounds_toArray, List.set_cons_zero, List.set_cons_succ, i64_w, i32_w]
      rfl
     refine pA HT_.out 13 18 ?_
     refine pA HT_.out 14 19 ?_
     refine pA HT_.out 15 20 ?_
     refine pA HT_.out 16 21 ?_
     refine pA HT_.out 18 23 ?_
     refine pA HT_.out 19 24 ?_
     refine pA HT_.out 21 26 ?_
     refine pA HT_.out 22 27 ?_
     refine pA HT_.out 25 30 ?_
     refine pA HT_.out 26 31 ?_
     refine pA HT_.out 28 33 ?_
     refine pA HT_.out 29 34 ?_
     refine tA6 HT_.out HW_.out 17 22 hHeld ?_
     refine tA6 HT_.out HW_.out 20 25 hHeld ?_
     refine tA6 HT_.out HW_.out 23 28 hHeld ?_
     refine tA6 HT_.out HW_.out 27 32 hHeld ?_
     refine tA6 HT_.out HW_.out 30 35 hHeld ?_
     refine one_ (i := 24) (N := some 29) #[true, true, true, true, true, true, true, true, true, true, true, true, true, true, true, true, true, true, true, true, true, true, true, true, true, true, true, true, true, true, true, false, false, false, false, false, false, false, false, false, false, false, false, false, false, false, false, false, false, false, false, false, false, false] rfl rfl (one_of HT_.out (by kernel_rfl)) (by decide) (fun K hK => ?_)
     refine gS Try.func21 #[.int .i64 a0_0, .int .i64 a0_2] ?_
     with_reducible refine (spec_Min.calls a0_0 a0_2 t282 _ A9.out).mono ?_
     rintro e w' ⟨rfl, ⟨nd, rfl⟩⟩
     refine ⟨_, rfl, ?_⟩
     refine hK.out _ _ ⟨(blk_cell BK277.out 0).trans rfl, (blk_cell BK277.out 1).trans rfl, (blk_cell BK277.out 2).trans rfl, (blk_cell BK277.out 3).trans rfl, (blk_cell BK278.out 0).trans rfl, (blk_cell BK278.out 1).trans rfl⟩ (fun hHeld => ?_)
     clear hK K
     refine norm_ (a' := ?_) ?_ ?_
     rotate_left
     ·show Act.put _ (some 29) _ = _
      simp only [Act.put, List.setIfInBounds_toArray, List.set_cons_zero, List.set_cons_succ, i64_w, i32_w]
      rfl
     refine one_ (i := 31) (N := some 36) #[true, true, true, true, true, true, true, true, true, true, true, true, true, true, true, true, true, true, true, true, true, true, true, true, true, true, true, true, true, true, true, true, false, false, false, false, false, false, false, false, false, false, false, false, false, false, false, false, false, false, false, false, false, false] rfl rfl (one_of HT_.out (by kernel_rfl)) (by decide) (fun K hK => ?_)
     refine gS Try.func20 #[.int .i64 a0_0, .int .i64 a0_2] ?_
     with_reducible refine (spec_Max.calls a0_0 a0_2 t283 _ A10.out).mono ?_
     rintro e w' ⟨rfl, ⟨nd, rfl⟩⟩
     refine ⟨_, rfl, ?_⟩
     refine hK.out _ _ ⟨(blk_cell BK277.out 0).trans rfl, (blk_cell BK277.out 1).trans rfl, (blk_cell BK277.out 2).trans rfl, (blk_cell BK277.out 3).trans rfl, (blk_cell BK278.out 0).trans rfl, (blk_cell BK278.out 1).trans rfl⟩ (fun hHeld => ?_)
     clear hK K
     refine norm_ (a' := ?_) ?_ ?_
     rotate_left
     ·show Act.put _ (some 36) _ = _
      simp only [Act.put, List.setIfInBounds_toArray, List.set_cons_zero, List.set_cons_succ, i64_w, i32_w]
      rfl
     refine one_ (i := 32) (N := some 37) #[true, true, true, true, true, true, true, true, true, true, true, true, true, true, true, true, true, true, true, true, true, true, true, true, true, true, true, true, true, true, true, true, true, false, false, false, false, false, false, false, false, false, false, false, false, false, false, false, false, false, false, false, false, false] rfl rfl (one_of HT_.out (by kernel_rfl)) (by decide) (fun K hK => ?_)
     refine gS Try.func38 #[.int .i64 a1_0, .int .i64 t282, .int .i64 t283] ?_
     with_reducible refine (spec_l1In.calls a1_0 t282 t283 false _ A11.out).mono ?_
     rintro e w' ⟨rfl, ⟨nd, rfl⟩⟩
     refine ⟨_, rfl, ?_⟩
     refine hK.out _ _ ⟨(blk_cell BK277.out 0).trans rfl, (blk_cell BK277.out 1).trans rfl, (blk_cell BK277.out 2).trans rfl, (blk_cell BK277.out 3).trans rfl, (blk_cell BK278.out 0).trans rfl, (blk_cell BK278.out 1).trans rfl⟩ (fun hHeld => ?_)
     clear hK K
     refine norm_ (a' := ?_) ?_ ?_
     rotate_left
     ·show Act.put _ (some 37) _ = _
      simp only [Act.put, List.setIfInBounds_toArray, List.set_cons_zero, List.set_cons_succ, i64_w, i32_w]
      rfl
     refine pA HT_.out 33 38 ?_
     refine pA HT_.out 34 39 ?_
     refine pU HT_.out 35 40 ?_
     refine pU HT_.out 36 41 ?_
     refine pU HT_.out 37 42 ?_
     refine pU HT_.out 38 43 ?_
     refine pU HT_.out 39 44 ?_
     refine pU HT_.out 40 45 ?_
     refine pU HT_.out 41 46 ?_
     refine pU HT_.out 42 47 ?_
     refine pU HT_.out 43 48 ?_
     refine pU HT_.out 44 49 ?_
     refine pU HT_.out 45 50 ?_
     refine pU HT_.out 46 51 ?_
     refine pU HT_.out 47 52 ?_
     refine pU HT_.out 48 53 ?_
     refine pU HT_.out 49 54 ?_
     refine pU HT_.out 50 55 ?_
     refine pU HT_.out 51 56 ?_
     refine pA HT_.out 52 57 ?_
     refine pA HT_.out 53 4 ?_
     refine done_ (done_of HT_.out (by kernel_rfl)) ?_
     try go_wp2
     go_ret
     exact ⟨by first | rfl | (simp [errW_none, errW_some] <;> rfl) | (simp [*, errW_none, errW_some] <;> rfl), eB2 HB GE277 GE278⟩
   ·rw [if_neg c8] at H
    have c8b0 : (t281 == 0) = false := beq_eq_false_iff_ne.mpr c8
    have c8b1 : (t281 != 0) = true := bne_iff_ne.mpr c8
    obtain rfl := Option.some.inj H
    go_enter Try.func32, Try.ntmps32
    try go_wp2_with (first | ((with_reducible refine gate_dst (N := 2) rfl ?_); refine box_event ?hg (N := 2) ?hd (cs := #[.int .i64 a0_0, .int .i64 a0_1, .int .i64 a0_2, .int .i64 a0_3]) (t := 27) ?hr ?_; (case hd => rfl); (case hg => rfl); (case hr => first | (go_simp; done) | (go_simp; rfl)); intro gb277 hg w28 hbox hb; have BK277 := Aside0.mk (hbox); have GW277 := zB0 HB hg; have GE277 := zB0 HB hg; replace HB := sB0 HB hb; clear hb hbox hg) | ((with_reducible refine gate_dst (N := 3) rfl ?_); refine box_event ?hg (N := 3) ?hd (cs := #[.int .i64 a1_0, .int .i64 a1_1]) (t := 25) ?hr ?_; (case hd => rfl); (case hg => rfl); (case hr => first | (go_simp; done) | (go_simp; rfl)); intro gb278 hg w29 hbox hb; have BK278 := Aside0.mk (hbox); have GW278 := zB1 HB hg GE277; have GE278 := zB1 HB hg GE277; have NB277_278 := nL BK277 hg; have NB278_277 := nG BK277 hg; replace BK277 := mB BK277 hb; replace HB := sB1 HB hb GE277; clear hb hbox hg))
    replace BK277 := Aside0.mk (blk_drew BK277.out)
    replace BK278 := Aside0.mk (blk_drew BK278.out)
    replace HB := Aside0.mk (below_drew1 HB.out)
    refine start_ (n := 54) (S := fun w' => w'.cell? ⟨gb277, 0, none⟩ = some (.int .i64 a0_0) ∧ w'.cell? ⟨gb277, 1, none⟩ = some (.int .i64 a0_1) ∧ w'.cell? ⟨gb277, 2, none⟩ = some (.int .i64 a0_2) ∧ w'.cell? ⟨gb277, 3, none⟩ = some (.int .i64 a0_3) ∧ w'.cell? ⟨gb278, 0, none⟩ = some (.int .i64 a1_0) ∧ w'.cell? ⟨gb278, 1, none⟩ = some (.int .i64 a1_1)) (ds := []) #[false, false, false, false, false, false, false, false, false, false, false, false, false, false, false, false, false, false, false, false, false, false, false, false, false, false, false, false, false, false, false, false, false, false, false, false, false, false, false, false, false, false, false, false, false, false, false, false, false, false, false, false, false, false] (by kernel_rfl) rfl rfl ⟨(blk_cell BK277.out 0).trans rfl, (blk_cell BK277.out 1).trans rfl, (blk_cell BK277.out 2).trans rfl, (blk_cell BK277.out 3).trans rfl, (blk_cell BK278.out 0).trans rfl, (blk_cell BK278.out 1).trans rfl⟩ (fun hHeld => ?_); refine with_tabW spec_IsOn.tab1 spec_IsOn.bits1 (fun HT_ HW_ => ?_)
    generalize w29.drew = w30 at BK277 BK278 HB hHeld ⊢
    refine tA6 HT_.out HW_.out 0 5 hHeld ?_
    refine one_ (i := 1) (N := some 6) #[true, true, false, false, false, false, false, false, false, false, false, false, false, false, false, false, false, false, false, false, false, false, false, false, false, false, false, false, false, false, false, false, false, false, false, false, false, false, false, false, false, false, false, false, false, false, false, false, false, false, false, false, false, false] rfl rfl (one_of HT_.out (by kernel_rfl)) (by decide) (fun K hK => ?_)
    refine gS Try.func19 #[.agg #[.int .i64 a0_0, .int .i64 a0_1, .int .i64 a0_2, .int .i64 a0_3]] ?_
    with_reducible refine (spec_IsSegment.calls a0_0 a0_1 a0_2 a0_3 true _ A3.out).mono ?_
    rintro e w31 ⟨rfl, hb⟩
    refine ⟨_, rfl, ?_⟩
    replace BK277 := mB BK277 hb
    replace BK278 := mB BK278 hb
    replace HB := sB2 HB hb GE277 GE278
    (try clear hb)
    (try clear hb2)
    (try clear hk)
    (try clear hi)
    refine hK.out _ _ ⟨(blk_cell BK277.out 0).trans rfl, (blk_cell BK277.out 1).trans rfl, (blk_cell BK277.out 2).trans rfl, (blk_cell BK277.out 3).trans rfl, (blk_cell BK278.out 0).trans rfl, (blk_cell BK278.out 1).trans rfl⟩ (fun hHeld => ?_)
    clear hK K
    refine norm_ (a' := ?_) ?_ ?_
    rotate_left
    ·show Act.put _ (some 6) _ = _
     simp only [Act.put, List.setIfInBounds_toArray, List.set_cons_zero, List.set_cons_succ, i64_w, i32_w]
     rfl
    refine pA HT_.out 2 7 ?_
    refine tA6 HT_.out HW_.out 3 8 hHeld ?_
    refine one_ (i := 4) (N := some 9) #[true, true, true, true, true, false, false, false, false, false, false, false, false, false, false, false, false, false, false, false, false, false, false, false, false, false, false, false, false, false, false, false, false, false, false, false, false, false, false, false, false, false, false, false, false, false, false, false, false, false, false, false, false, false] rfl rfl (one_of HT_.out (by kernel_rfl)) (by decide) (fun K hK => ?_)
    refine gS Try.func31 #[.agg #[.int .i64 a1_0, .int .i64 a1_1]] ?_
    with_reducible refine (spec_IsPoint.calls a1_0 a1_1 true _ A5.out).mono ?_
    rintro e w32 ⟨rfl, hb⟩
    refine ⟨_, rfl, ?_⟩
    replace BK277 := mB BK277 hb
    replace BK278 := mB BK278 hb
    replace HB := sB2 HB hb GE277 GE278
    (try clear hb)
    (try clear hb2)
    (try clear hk)
    (try clear hi)
    refine hK.out _ _ ⟨(blk_cell BK277.out 0).trans rfl, (blk_cell BK277.out 1).trans rfl, (blk_cell BK277.out 2).trans rfl, (blk_cell BK277.out 3).trans rfl, (blk_cell BK278.out 0).trans rfl, (blk_cell BK278.out 1).trans rfl⟩ (fun hHeld => ?_)
    clear hK K
    refine norm_ (a' := ?_) ?_ ?_
    rotate_left
    ·show Act.put _ (some 9) _ = _
     simp only [Act.put, List.setIfInBounds_toArray, List.set_cons_zero, List.set_cons_succ, i64_w, i32_w]
     rfl
    refine pA HT_.out 5 10 ?_
    refine pA HT_.out 6 11 ?_
    refine pA HT_.out 7 12 ?_
    refine pA HT_.out 9 14 ?_
    refine tA6 HT_.out HW_.out 8 13 hHeld ?_
    refine tA6 HT_.out HW_.out 10 15 hHeld ?_
    refine tA6 HT_.out HW_.out 11 16 hHeld ?_
    refine one_ (i := 12) (N := some 17) #[true, true, true, true, true, true, true, true, true, true, true, true, true, false, false, false, false, false, false, false, false, false, false, false, false, false, false, false, false, false, false, false, false, false, false, false, false, false, false, false, false, false, false, false, false, false, false, false, false, false, false, false, false, false] rfl rfl (one_of HT_.out (by kernel_rfl)) (by decide) (fun K hK => ?_)
    refine gS Try.func33 #[.agg #[.int .i64 a0_0, .int .i64 a0_1], .agg #[.int .i64 a0_2, .int .i64 a0_3], .agg #[.int .i64 a1_0, .int .i64 a1_1]] ?_
    with_reducible refine (spec_l4Cross.calls a0_0 a0_1 a0_2 a0_3 a1_0 a1_1 t281 _ A7.out).mono ?_
    rintro e w33 ⟨rfl, hb⟩
    refine ⟨_, rfl, ?_⟩
    replace BK277 := mB BK277 hb
    replace BK278 := mB BK278 hb
    replace HB := sB2 HB hb GE277 GE278
    (try clear hb)
    (try clear hb2)
    (try clear hk)
    (try clear hi)
    refine hK.out _ _ ⟨(blk_cell BK277.out 0).trans rfl, (blk_cell BK277.out 1).trans rfl, (blk_cell BK277.out 2).trans rfl, (blk_cell BK277.out 3).trans rfl, (blk_cell BK278.out 0).trans rfl, (blk_cell BK278.out 1).trans rfl⟩ (fun hHeld => ?_)
    clear hK K
    refine norm_ (a' := ?_) ?_ ?_
    rotate_left
    ·show Act.put _ (some 17) _ = _
     simp only [Act.put, List.setIfInBounds_toArray, List.set_cons_zero, List.set_cons_succ, i64_w, i32_w]
     rfl
    refine pA HT_.out 13 18 ?_
    refine pA HT_.out 14 19 ?_
    refine pA HT_.out 15 20 ?_
    refine pU HT_.out 16 21 ?_
    refine pU HT_.out 17 22 ?_
    refine pU HT_.out 18 23 ?_
    refine pU HT_.out 19 24 ?_
    refine pU HT_.out 20 25 ?_
    refine pU HT_.out 21 26 ?_
    refine pU HT_.out 22 27 ?_
    refine pU HT_.out 23 28 ?_
    refine pU HT_.out 24 29 ?_
    refine pU HT_.out 25 30 ?_
    refine pU HT_.out 26 31 ?_
    refine pU HT_.out 27 32 ?_
    refine pU HT_.out 28 33 ?_
    refine pU HT_.out 29 34 ?_
    refine pU HT_.out 30 35 ?_
    refine pU HT_.out 31 36 ?_
    refine pU HT_.out 32 37 ?_
    refine pA HT_.out 33 38 ?_
    refine pA HT_.out 34 39 ?_
    refine pU HT_.out 35 40 ?_
    refine pU HT_.out 36 41 ?_
    refine pU HT_.out 37 42 ?_
    refine pU HT_.out 38 43 ?_
    refine pU HT_.out 39 44 ?_
    refine pU HT_.out 40 45 ?_
    refine pU HT_.out 41 46 ?_
    refine pU HT_.out 42 47 ?_
    refine pU HT_.out 43 48 ?_
    refine pU HT_.out 44 49 ?_
    refine pU HT_.out 45 50 ?_
    refine pU HT_.out 46 51 ?_
    refine pU HT_.out 47 52 ?_
    refine pU HT_.out 48 53 ?_
    refine pU HT_.out 49 54 ?_
    refine pU HT_.out 50 55 ?_
    refine pU HT_.out 51 56 ?_
    refine pA HT_.out 52 57 ?_
    refine pA HT_.out 53 4 ?_
    refine done_ (done_of HT_.out (by kernel_rfl)) ?_
    try go_wp2
    go_ret
    exact ⟨by first | rfl | (simp [errW_none, errW_some] <;> rfl) | (simp [*, errW_none, errW_some] <;> rfl), eB2 HB GE277 GE278⟩
  ·replace c6 := Bool.eq_false_iff.mpr c6
   subst c6
   have H1 : (some false) = some r := by rw [if_neg (show ¬ (false = true) by decide)] at H; exact H
   clear H
   have H := H1
   clear H1
   obtain rfl := Option.some.inj H
   go_enter Try.func32, Try.ntmps32
   try go_wp2_with (first | ((with_reducible refine gate_dst (N := 2) rfl ?_); refine box_event ?hg (N := 2) ?hd (cs := #[.int .i64 a0_0, .int .i64 a0_1, .int .i64 a0_2, .int .i64 a0_3]) (t := 27) ?hr ?_; (case hd => rfl); (case hg => rfl); (case hr => first | (go_simp; done) | (go_simp; rfl)); intro gb277 hg w34 hbox hb; have BK277 := Aside0.mk (hbox); have GW277 := zB0 HB hg; have GE277 := zB0 HB hg; replace HB := sB0 HB hb; clear hb hbox hg) | ((with_reducible refine gate_dst (N := 3) rfl ?_); refine box_event ?hg (N := 3) ?hd (cs := #[.int .i64 a1_0, .int .i64 a1_1]) (t := 25) ?hr ?_; (case hd => rfl); (case hg => rfl); (case hr => first | (go_simp; done) | (go_simp; rfl)); intro gb278 hg w35 hbox hb; have BK278 := Aside0.mk (hbox); have GW278 := zB1 HB hg GE277; have GE278 := zB1 HB hg GE277; have NB277_278 := nL BK277 hg; have NB278_277 := nG BK277 hg; replace BK277 := mB BK277 hb; replace HB := sB1 HB hb GE277; clear hb hbox hg))
   replace BK277 := Aside0.mk (blk_drew BK277.out)
   replace BK278 := Aside0.mk (blk_drew BK278.out)
   replace HB := Aside0.mk (below_drew1 HB.out)
   refine start_ (n := 54) (S := fun w' => w'.cell? ⟨gb277, 0, none⟩ = some (.int .i64 a0_0) ∧ w'.cell? ⟨gb277, 1, none⟩ = some (.int .i64 a0_1) ∧ w'.cell? ⟨gb277, 2, none⟩ = some (.int .i64 a0_2) ∧ w'.cell? ⟨gb277, 3, none⟩ = some (.int .i64 a0_3) ∧ w'.cell? ⟨gb278, 0, none⟩ = some (.int .i64 a1_0) ∧ w'.cell? ⟨gb278, 1, none⟩ = some (.int .i64 a1_1)) (ds := []) #[false, false, false, false, false, false, false, false, false, false, false, false, false, false, false, false, false, false, false, false, false, false, false, false, false, false, false, false, false, false, false, false, false, false, false, false, false, false, false, false, false, false, false, false, false, false, false, false, false, false, false, false, false, false] (by kernel_rfl) rfl rfl ⟨(blk_cell BK277.out 0).trans rfl, (blk_cell BK277.out 1).trans rfl, (blk_cell BK277.out 2).trans rfl, (blk_cell BK277.out 3).trans rfl, (blk_cell BK278.out 0).trans rfl, (blk_cell BK278.out 1).trans rfl⟩ (fun hHeld => ?_); refine with_tabW spec_IsOn.tab1 spec_IsOn.bits1 (fun HT_ HW_ => ?_)
   generalize w35.drew = w36 at BK277 BK278 HB hHeld ⊢
   refine tA6 HT_.out HW_.out 0 5 hHeld ?_
   refine one_ (i := 1) (N := some 6) #[true, true, false, false, false, false, false, false, false, false, false, false, false, false, false, false, false, false, false, false, false, false, false, false, false, false, false, false, false, false, false, false, false, false, false, false, false, false, false, false, false, false, false, false, false, false, false, false, false, false, false, false, false, false] rfl rfl (one_of HT_.out (by kernel_rfl)) (by decide) (fun K hK => ?_)
   refine gS Try.func19 #[.agg #[.int .i64 a0_0, .int .i64 a0_1, .int .i64 a0_2, .int .i64 a0_3]] ?_
   with_reducible refine (spec_IsSegment.calls a0_0 a0_1 a0_2 a0_3 true _ A3.out).mono ?_
   rintro e w37 ⟨rfl, hb⟩
   refine ⟨_, rfl, ?_⟩
   replace BK277 := mB BK277 hb
   replace BK278 := mB BK278 hb
   replace HB := sB2 HB hb GE277 GE278
   (try clear hb)
   (try clear hb2)
   (try clear hk)
   (try clear hi)
   refine hK.out _ _ ⟨(blk_cell BK277.out 0).trans rfl, (blk_cell BK277.out 1).trans rfl, (blk_cell BK277.out 2).trans rfl, (blk_cell BK277.out 3).trans rfl, (blk_cell BK278.out 0).trans rfl, (blk_cell BK278.out 1).trans rfl⟩ (fun hHeld => ?_)
   clear hK K
   refine norm_ (a' := ?_) ?_ ?_
   rotate_left
   ·show Act.put _ (some 6) _ = _
    simp only [Act.put, List.setIfInBounds_toArray, List.set_cons_zero, List.set_cons_succ, i64_w, i32_w]
    rfl
   refine pA HT_.out 2 7 ?_
   refine tA6 HT_.out HW_.out 3 8 hHeld ?_
   refine one_ (i := 4) (N := some 9) #[true, true, true, true, true, false, false, false, false, false, false, false, false, false, false, false, false, false, false, false, false, false, false, false, false, false, false, false, false, false, false, false, false, false, false, false, false, false, false, false, false, false, false, false, false, false, false, false, false, false, false, false, false, false] rfl rfl (one_of HT_.out (by kernel_rfl)) (by decide) (fun K hK => ?_)
   refine gS Try.func31 #[.agg #[.int .i64 a1_0, .int .i64 a1_1]] ?_
   with_reducible refine (spec_IsPoint.calls a1_0 a1_1 false _ A5.out).mono ?_
   rintro e w38 ⟨rfl, hb⟩
   refine ⟨_, rfl, ?_⟩
   replace BK277 := mB BK277 hb
   replace BK278 := mB BK278 hb
   replace HB := sB2 HB hb GE277 GE278
   (try clear hb)
   (try clear hb2)
   (try clear hk)
   (try clear hi)
   refine hK.out _ _ ⟨(blk_cell BK277.out 0).trans rfl, (blk_cell BK277.out 1).trans rfl, (blk_cell BK277.out 2).trans rfl, (blk_cell BK277.out 3).trans rfl, (blk_cell BK278.out 0).trans rfl, (blk_cell BK278.out 1).trans rfl⟩ (fun hHeld => ?_)
   clear hK K
   refine norm_ (a' := ?_) ?_ ?_
   rotate_left
   ·show Act.put _ (some 9) _ = _
    simp only [Act.put, List.setIfInBounds_toArray, List.set_cons_zero, List.set_cons_succ, i64_w, i32_w]
    rfl
   refine pA HT_.out 5 10 ?_
   refine pA HT_.out 6 11 ?_
   refine pU HT_.out 7 12 ?_
   refine pU HT_.out 8 13 ?_
   refine pU HT_.out 9 14 ?_
   refine pU HT_.out 10 15 ?_
   refine pU HT_.out 11 16 ?_
   refine pU HT_.out 12 17 ?_
   refine pU HT_.out 13 18 ?_
   refine pA HT_.out 14 19 ?_
   refine pA HT_.out 15 20 ?_
   refine pU HT_.out 16 21 ?_
   refine pU HT_.out 17 22 ?_
   refine pU HT_.out 18 23 ?_
   refine pU HT_.out 19 24 ?_
   refine pU HT_.out 20 25 ?_
   refine pU HT_.out 21 26 ?_
   refine pU HT_.out 22 27 ?_
   refine pU HT_.out 23 28 ?_
   refine pU HT_.out 24 29 ?_
   refine pU HT_.out 25 30 ?_
   refine pU HT_.out 26 31 ?_
   refine pU HT_.out 27 32 ?_
   refine pU HT_.out 28 33 ?_
   refine pU HT_.out 29 34 ?_
   refine pU HT_.out 30 35 ?_
   refine pU HT_.out 31 36 ?_
   refine pU HT_.out 32 37 ?_
   refine pA HT_.out 33 38 ?_
   refine pA HT_.out 34 39 ?_
   refine pU HT_.out 35 40 ?_
   refine pU HT_.out 36 41 ?_
   refine pU HT_.out 37 42 ?_
   refine pU HT_.out 38 43 ?_
   refine pU HT_.out 39 44 ?_
   refine pU HT_.out 40 45 ?_
   refine pU HT_.out 41 46 ?_
   refine pU HT_.out 42 47 ?_
   refine pU HT_.out 43 48 ?_
   refine pU HT_.out 44 49 ?_
   refine pU HT_.out 45 50 ?_
   refine pU HT_.out 46 51 ?_
   refine pU HT_.out 47 52 ?_
   refine pU HT_.out 48 53 ?_
   refine pU HT_.out 49 54 ?_
   refine pU HT_.out 50 55 ?_
   refine pU HT_.out 51 56 ?_
   refine pA HT_.out 52 57 ?_
   refine pA HT_.out 53 4 ?_
   refine done_ (done_of HT_.out (by kernel_rfl)) ?_
   try go_wp2
   go_ret
   exact ⟨by first | rfl | (simp [errW_none, errW_some] <;> rfl) | (simp [*, errW_none, errW_some] <;> rfl), eB2 HB GE277 GE278⟩
 ·replace c4 := Bool.eq_false_iff.mpr c4
  subst c4
  have H1 : (some false) = some r := by rw [if_neg (show ¬ (false = true) by decide)] at H; exact H
  clear H
  have H := H1
  clear H1
  obtain rfl := Option.some.inj H
  go_enter Try.func32, Try.ntmps32
  try go_wp2_with (first | ((with_reducible refine gate_dst (N := 2) rfl ?_); refine box_event ?hg (N := 2) ?hd (cs := #[.int .i64 a0_0, .int .i64 a0_1, .int .i64 a0_2, .int .i64 a0_3]) (t := 27) ?hr ?_; (case hd => rfl); (case hg => rfl); (case hr => first | (go_simp; done) | (go_simp; rfl)); intro gb277 hg w39 hbox hb; have BK277 := Aside0.mk (hbox); have GW277 := zB0 HB hg; have GE277 := zB0 HB hg; replace HB := sB0 HB hb; clear hb hbox hg) | ((with_reducible refine gate_dst (N := 3) rfl ?_); refine box_event ?hg (N := 3) ?hd (cs := #[.int .i64 a1_0, .int .i64 a1_1]) (t := 25) ?hr ?_; (case hd => rfl); (case hg => rfl); (case hr => first | (go_simp; done) | (go_simp; rfl)); intro gb278 hg w40 hbox hb; have BK278 := Aside0.mk (hbox); have GW278 := zB1 HB hg GE277; have GE278 := zB1 HB hg GE277; have NB277_278 := nL BK277 hg; have NB278_277 := nG BK277 hg; replace BK277 := mB BK277 hb; replace HB := sB1 HB hb GE277; clear hb hbox hg))
  replace BK277 := Aside0.mk (blk_drew BK277.out)
  replace BK278 := Aside0.mk (blk_drew BK278.out)
  replace HB := Aside0.mk (below_drew1 HB.out)
  refine start_ (n := 54) (S := fun w' => w'.cell? ⟨gb277, 0, none⟩ = some (.int .i64 a0_0) ∧ w'.cell? ⟨gb277, 1, none⟩ = some (.int .i64 a0_1) ∧ w'.cell? ⟨gb277, 2, none⟩ = some (.int .i64 a0_2) ∧ w'.cell? ⟨gb277, 3, none⟩ = some (.int .i64 a0_3)) (ds := []) #[false, false, false, false, false, false, false, false, false, false, false, false, false, false, false, false, false, false, false, false, false, false, false, false, false, false, false, false, false, false, false, false, false, false, false, false, false, false, false, false, false, false, false, false, false, false, false, false, false, false, false, false, false, false] (by kernel_rfl) rfl rfl ⟨(blk_cell BK277.out 0).trans rfl, (blk_cell BK277.out 1).trans rfl, (blk_cell BK277.out 2).trans rfl, (blk_cell BK277.out 3).trans rfl⟩ (fun hHeld => ?_); refine with_tabW spec_IsOn.tab1 spec_IsOn.bits1 (fun HT_ HW_ => ?_)
  generalize w40.drew = w41 at BK277 BK278 HB hHeld ⊢
  refine tA4 HT_.out HW_.out 0 5 hHeld ?_
  refine one_ (i := 1) (N := some 6) #[true, true, false, false, false, false, false, false, false, false, false, false, false, false, false, false, false, false, false, false, false, false, false, false, false, false, false, false, false, false, false, false, false, false, false, false, false, false, false, false, false, false, false, false, false, false, false, false, false, false, false, false, false, false] rfl rfl (one_of HT_.out (by kernel_rfl)) (by decide) (fun K hK => ?_)
  refine gS Try.func19 #[.agg #[.int .i64 a0_0, .int .i64 a0_1, .int .i64 a0_2, .int .i64 a0_3]] ?_
  with_reducible refine (spec_IsSegment.calls a0_0 a0_1 a0_2 a0_3 false _ A3.out).mono ?_
  rintro e w42 ⟨rfl, hb⟩
  refine ⟨_, rfl, ?_⟩
  replace BK277 := mB BK277 hb
  replace BK278 := mB BK278 hb
  replace HB := sB2 HB hb GE277 GE278
  (try clear hb)
  (try clear hb2)
  (try clear hk)
  (try clear hi)
  refine hK.out _ _ ⟨(blk_cell BK277.out 0).trans rfl, (blk_cell BK277.out 1).trans rfl, (blk_cell BK277.out 2).trans rfl, (blk_cell BK277.out 3).trans rfl⟩ (fun hHeld => ?_)
  clear hK K
  refine norm_ (a' := ?_) ?_ ?_
  rotate_left
  ·show Act.put _ (some 6) _ = _
   simp only [Act.put, List.setIfInBounds_toArray, List.set_cons_zero, List.set_cons_succ, i64_w, i32_w]
   rfl
  refine pA HT_.out 2 7 ?_
  refine pU HT_.out 3 8 ?_
  refine pU HT_.out 4 9 ?_
  refine pA HT_.out 5 10 ?_
  refine pA HT_.out 6 11 ?_
  refine pU HT_.out 7 12 ?_
  refine pU HT_.out 8 13 ?_
  refine pU HT_.out 9 14 ?_
  refine pU HT_.out 10 15 ?_
  refine pU HT_.out 11 16 ?_
  refine pU HT_.out 12 17 ?_
  refine pU HT_.out 13 18 ?_
  refine pA HT_.out 14 19 ?_
  refine pA HT_.out 15 20 ?_
  refine pU HT_.out 16 21 ?_
  refine pU HT_.out 17 22 ?_
  refine pU HT_.out 18 23 ?_
  refine pU HT_.out 19 24 ?_
  refine pU HT_.out 20 25 ?_
  refine pU HT_.out 21 26 ?_
  refine pU HT_.out 22 27 ?_
  refine pU HT_.out 23 28 ?_
  refine pU HT_.out 24 29 ?_
  refine pU HT_.out 25 30 ?_
  refine pU HT_.out 26 31 ?_
  refine pU HT_.out 27 32 ?_
  refine pU HT_.out 28 33 ?_
  refine pU HT_.out 29 34 ?_
  refine pU HT_.out 30 35 ?_
  refine pU HT_.out 31 36 ?_
  refine pU HT_.out 32 37 ?_
  refine pA HT_.out 33 38 ?_
  refine pA HT_.out 34 39 ?_
  refine pU HT_.out 35 40 ?_
  refine pU HT_.out 36 41 ?_
  refine pU HT_.out 37 42 ?_
  refine pU HT_.out 38 43 ?_
  refine pU HT_.out 39 44 ?_
  refine pU HT_.out 40 45 ?_
  refine pU HT_.out 41 46 ?_
  refine pU HT_.out 42 47 ?_
  refine pU HT_.out 43 48 ?_
  refine pU HT_.out 44 49 ?_
  refine pU HT_.out 45 50 ?_
  refine pU HT_.out 46 51 ?_
  refine pU HT_.out 47 52 ?_
  refine pU HT_.out 48 53 ?_
  refine pU HT_.out 49 54 ?_
  refine pU HT_.out 50 55 ?_
  refine pU HT_.out 51 56 ?_
  refine pA HT_.out 52 57 ?_
  refine pA HT_.out 53 4 ?_
  refine done_ (done_of HT_.out (by kernel_rfl)) ?_
  try go_wp2
  go_ret
  exact ⟨by first | rfl | (simp [errW_none, errW_some] <;> rfl) | (simp [*, errW_none, errW_some] <;> rfl), eB2 HB GE277 GE278⟩

end Go.Proofs.Ytokhmgfjgpcmdaa.PFnSegments
