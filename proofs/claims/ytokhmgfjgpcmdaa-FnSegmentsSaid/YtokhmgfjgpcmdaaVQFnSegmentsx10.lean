/- What the functions of FnSegments compute, each with its proof: this session's own text. -/
import Derived.Test.YtokhmgfjgpcmdaaVQFnSegmentsx0
import Derived.Test.YtokhmgfjgpcmdaaVQFnSegmentsx7
namespace Go.Proofs.Ytokhmgfjgpcmdaa.PFnSegments
open Go.RowKit Go.Proofs.YtokhmgfjgpcmdaaW.PrintWords Go.Proofs.YtokhmgfjgpcmdaaW.PrintLast Go.Proofs.YtokhmgfjgpcmdaaW.PrintMore Go.Proofs.Ytokhmgfjgpcmdaa.Sh
attribute [local go_sem] max2_int min2_int max_two min_two max_three min_three max_four min_four   -- for this text's walks alone
set_option linter.unusedVariables false
set_option linter.unusedSimpArgs false

/-! ### spec_SideOf: function 23 -/
def spec_SideOf.j0 : Nat → Bool → Int → Int → Int → Int → Int → Int → Option (Int)
 | 0, _, _, _, _, _, _, _ => none
 | k + 1, x20, x309000, x309001, x310000, x310001, x311000, x311001 => if x20 = true then (some 0) else ((spec_l4Cross.f x309000 x309001 x310000 x310001 x311000 x311001).bind fun t314 => (if t314 > 0 then (some 1) else (if t314 < 0 then (some (-1)) else (some 0))))
def spec_SideOf.f (k : Nat) (a0_0 : Int) (a0_1 : Int) (a1_0 : Int) (a1_1 : Int) (a2_0 : Int) (a2_1 : Int) : Option (Int) := (spec_IsPoint.f a0_0 a0_1).bind fun t311 => (if t311 = true then ((spec_IsPoint.f a1_0 a1_1).bind fun t312 => (if t312 = true then ((spec_IsPoint.f a2_0 a2_1).bind fun t313 => (spec_SideOf.j0 k (!t313) a0_0 a0_1 a1_0 a1_1 a2_0 a2_1)) else (spec_SideOf.j0 k true a0_0 a0_1 a1_0 a1_1 a2_0 a2_1))) else (spec_SideOf.j0 k true a0_0 a0_1 a1_0 a1_1 a2_0 a2_1))
theorem spec_SideOf.mono_l : ∀ k, (∀ y0 y1 y2 y3 y4 y5 y6, LeO (spec_SideOf.j0 k y0 y1 y2 y3 y4 y5 y6) (spec_SideOf.j0 (k + 1) y0 y1 y2 y3 y4 y5 y6))
 | 0 => fun _ _ _ _ _ _ _ r h => by simp [spec_SideOf.j0] at h
 | k + 1 => by
  have ih0 := spec_SideOf.mono_l k
  ·intro y0 y1 y2 y3 y4 y5 y6
   unfold spec_SideOf.j0
   repeat' first
   | (with_reducible exact ih0 _ _ _ _ _ _ _)
   | (with_reducible exact LeO.refl _)
   | (with_reducible exact LeO.none _)
   | (with_reducible refine LeO.ite ?_ ?_)
   | (with_reducible refine LeO.bind ?_ (fun _ => ?_))
   | exact ih0 _ _ _ _ _ _ _
   | exact LeO.none _
   | refine LeO.ite ?_ ?_
   | refine LeO.bind ?_ (fun _ => ?_)
theorem spec_SideOf.mono : ∀ a0 a1 a2 a3 a4 a5 k, LeO (spec_SideOf.f k a0 a1 a2 a3 a4 a5) (spec_SideOf.f (k + 1) a0 a1 a2 a3 a4 a5) := by
 intro a0 a1 a2 a3 a4 a5 k
 have ih0 := spec_SideOf.mono_l k
 unfold spec_SideOf.f
 repeat' first
   | (with_reducible exact ih0 _ _ _ _ _ _ _)
   | (with_reducible exact LeO.refl _)
   | (with_reducible exact LeO.none _)
   | (with_reducible refine LeO.ite ?_ ?_)
   | (with_reducible refine LeO.bind ?_ (fun _ => ?_))
   | exact ih0 _ _ _ _ _ _ _
   | exact LeO.none _
   | refine LeO.ite ?_ ?_
   | refine LeO.bind ?_ (fun _ => ?_)
set_option maxHeartbeats 8000000 in
set_option maxRecDepth 100000 in
theorem spec_SideOf.calls (k : Nat) (a0_0 : Int) (a0_1 : Int) (a1_0 : Int) (a1_1 : Int) (a2_0 : Int) (a2_1 : Int) (r : Int) (w : World) (h : spec_SideOf.f k a0_0 a0_1 a1_0 a1_1 a2_0 a2_1 = some r) :
  Calls Try.prog 23 #[.agg #[.int .i64 a0_0, .int .i64 a0_1], .agg #[.int .i64 a1_0, .int .i64 a1_1], .agg #[.int .i64 a2_0, .int .i64 a2_1]] w fun e w' => e = .returned (.int .i64 r) ∧ Below w.heap.size w w' := by
 have hu25 := Try.underlying25
 have HB := Aside0.mk (Below.refl w.heap.size w)
 have H : ((spec_IsPoint.f a0_0 a0_1).bind fun t311 => (if t311 = true then ((spec_IsPoint.f a1_0 a1_1).bind fun t312 => (if t312 = true then ((spec_IsPoint.f a2_0 a2_1).bind fun t313 => (spec_SideOf.j0 k (!t313) a0_0 a0_1 a1_0 a1_1 a2_0 a2_1)) else (spec_SideOf.j0 k true a0_0 a0_1 a1_0 a1_1 a2_0 a2_1))) else (spec_SideOf.j0 k true a0_0 a0_1 a1_0 a1_1 a2_0 a2_1))) = some r := h
 clear h
 have HC4 := Aside0.mk H
 clear H
 go_enter Try.func23, Try.ntmps23
 go_upto_region 1 with (first | ((with_reducible refine gate_dst (N := 3) rfl ?_); refine box_event ?hg (N := 3) ?hd (cs := #[.int .i64 a0_0, .int .i64 a0_1]) (t := 25) ?hr ?_; (case hd => rfl); (case hg => rfl); (case hr => first | (go_simp; done) | (go_simp; rfl)); intro gb308 hg w5 hbox hb; have BK308 := Aside0.mk (hbox); have GW308 := zB0 HB hg; have GE308 := zB0 HB hg; replace HB := sB0 HB hb; clear hb hbox hg) | ((with_reducible refine gate_dst (N := 4) rfl ?_); refine box_event ?hg (N := 4) ?hd (cs := #[.int .i64 a1_0, .int .i64 a1_1]) (t := 25) ?hr ?_; (case hd => rfl); (case hg => rfl); (case hr => first | (go_simp; done) | (go_simp; rfl)); intro gb309 hg w6 hbox hb; have BK309 := Aside0.mk (hbox); have GW309 := zB1 HB hg GE308; have GE309 := zB1 HB hg GE308; have NB308_309 := nL BK308 hg; have NB309_308 := nG BK308 hg; replace BK308 := mB BK308 hb; replace HB := sB1 HB hb GE308; clear hb hbox hg) | ((with_reducible refine gate_dst (N := 5) rfl ?_); refine box_event ?hg (N := 5) ?hd (cs := #[.int .i64 a2_0, .int .i64 a2_1]) (t := 25) ?hr ?_; (case hd => rfl); (case hg => rfl); (case hr => first | (go_simp; done) | (go_simp; rfl)); intro gb310 hg w7 hbox hb; have BK310 := Aside0.mk (hbox); have GW310 := zB2 HB hg GE308 GE309; have GE310 := zB2 HB hg GE308 GE309; have NB308_310 := nL BK308 hg; have NB310_308 := nG BK308 hg; have NB309_310 := nL BK309 hg; have NB310_309 := nG BK309 hg; replace BK308 := mB BK308 hb; replace BK309 := mB BK309 hb; replace HB := sB2 HB hb GE308 GE309; clear hb hbox hg))
 (try simp only [Act.put, List.setIfInBounds_toArray, List.set_cons_zero, List.set_cons_succ])
 go_cut [20] (fun v20 wc => ∃ (kq : Nat) (x20_3 : Bool), v20 = .bool x20_3 ∧ Aside0 (spec_SideOf.j0 kq x20_3 a0_0 a0_1 a1_0 a1_1 a2_0 a2_1 = some r) ∧ Aside0 (kq ≤ k) ∧ Aside0 (wc.heap[gb308]? = some (.cells #[.int .i64 a0_0, .int .i64 a0_1] 25 (0, 0))) ∧ Aside0 (wc.heap[gb309]? = some (.cells #[.int .i64 a1_0, .int .i64 a1_1] 25 (0, 0))) ∧ Aside0 (wc.heap[gb310]? = some (.cells #[.int .i64 a2_0, .int .i64 a2_1] 25 (0, 0))) ∧ Aside0 (Below w.heap.size w wc))
 case first =>
  have H := HC4.out
  clear HC4
  replace H := Option.bind_eq_some_iff.mp H
  obtain ⟨t311, A80, H⟩ := H
  replace H : (if t311 = true then ((spec_IsPoint.f a1_0 a1_1).bind fun t312 => (if t312 = true then ((spec_IsPoint.f a2_0 a2_1).bind fun t313 => (spec_SideOf.j0 k (!t313) a0_0 a0_1 a1_0 a1_1 a2_0 a2_1)) else (spec_SideOf.j0 k true a0_0 a0_1 a1_0 a1_1 a2_0 a2_1))) else (spec_SideOf.j0 k true a0_0 a0_1 a1_0 a1_1 a2_0 a2_1)) = some r := H
  have A8 := Aside0.mk A80
  clear A80
  by_cases c9 : t311 = true
  ·subst c9
   have H1 : ((spec_IsPoint.f a1_0 a1_1).bind fun t312 => (if t312 = true then ((spec_IsPoint.f a2_0 a2_1).bind fun t313 => (spec_SideOf.j0 k (!t313) a0_0 a0_1 a1_0 a1_1 a2_0 a2_1)) else (spec_SideOf.j0 k true a0_0 a0_1 a1_0 a1_1 a2_0 a2_1))) = some r := by rw [if_pos rfl] at H; exact H
   clear H
   have H := H1
   clear H1
   replace H := Option.bind_eq_some_iff.mp H
   obtain ⟨t312, A100, H⟩ := H
   replace H : (if t312 = true then ((spec_IsPoint.f a2_0 a2_1).bind fun t313 => (spec_SideOf.j0 k (!t313) a0_0 a0_1 a1_0 a1_1 a2_0 a2_1)) else (spec_SideOf.j0 k true a0_0 a0_1 a1_0 a1_1 a2_0 a2_1)) = some r := H
   have A10 := Aside0.mk A100
   clear A100
   by_cases c11 : t312 = true
   ·subst c11
    have H1 : ((spec_IsPoint.f a2_0 a2_1).bind fun t313 => (spec_SideOf.j0 k (!t313) a0_0 a0_1 a1_0 a1_1 a2_0 a2_1)) = some r := by rw [if_pos rfl] at H; exact H
    clear H
    have H := H1
    clear H1
    replace H := Option.bind_eq_some_iff.mp H
    obtain ⟨t313, A120, H⟩ := H
    replace H : (spec_SideOf.j0 k (!t313) a0_0 a0_1 a1_0 a1_1 a2_0 a2_1) = some r := H
    have A12 := Aside0.mk A120
    clear A120
    have H' := Aside0.mk H
    clear H
    have hnb13 := NB308_309.out
    have hnc13 := NB309_308.out
    have hnb14 := NB308_310.out
    have hnc14 := NB310_308.out
    have hcz15_0 := bC BK308 0 (.int .i64 a0_0)
    have hcz15_1 := bC BK308 1 (.int .i64 a0_1)
    have hfz15_0 := blk_frozen BK308.out 0
    have hfz15_1 := blk_frozen BK308.out 1
    go_wp2_with (first | ((with_reducible refine gate_callee (f := 31) rfl ?_); refine gL (some 9) Try.func31 #[.agg #[.int .i64 a0_0, .int .i64 a0_1]] ?_; (with_reducible refine (spec_IsPoint.calls a0_0 a0_1 true _ A8.out).mono ?_); rintro e w16 ⟨rfl, hb⟩; refine ⟨_, rfl, ?_⟩; replace BK308 := mB BK308 hb; replace BK309 := mB BK309 hb; replace BK310 := mB BK310 hb; replace HB := sB3 HB hb GE308 GE309 GE310; (try clear hb); have hnb17 := NB309_310.out; have hnc17 := NB310_309.out; have hcz18_0 := bC BK309 0 (.int .i64 a1_0); have hcz18_1 := bC BK309 1 (.int .i64 a1_1); have hfz18_0 := blk_frozen BK309.out 0; have hfz18_1 := blk_frozen BK309.out 1) | (go_at_call 31; (with_reducible refine (spec_IsPoint.calls a1_0 a1_1 true _ A10.out).mono ?_); rintro e w19 ⟨rfl, hb⟩; replace BK308 := mB BK308 hb; replace BK309 := mB BK309 hb; replace BK310 := mB BK310 hb; replace HB := sB3 HB hb GE308 GE309 GE310; (try clear hb); have hcz20_0 := bC BK310 0 (.int .i64 a2_0); have hcz20_1 := bC BK310 1 (.int .i64 a2_1); have hfz20_0 := blk_frozen BK310.out 0; have hfz20_1 := blk_frozen BK310.out 1) | (go_at_call 31; (with_reducible refine (spec_IsPoint.calls a2_0 a2_1 t313 _ A12.out).mono ?_); rintro e w21 ⟨rfl, hb⟩; replace BK308 := mB BK308 hb; replace BK309 := mB BK309 hb; replace BK310 := mB BK310 hb; replace HB := sB3 HB hb GE308 GE309 GE310; (try clear hb)))
    go_meet
    case rel => exact ⟨_, (!t313), (by first | rfl | (simp; done) | (simp [*]; done)), H', ⟨by first | omega | exact Nat.le_refl _⟩, ⟨by (with_reducible repeat (first | refine blk_drewN ?_ _ | refine blk_drew ?_ | refine blk_alloc ?_ _)); exact BK308.out⟩, ⟨by (with_reducible repeat (first | refine blk_drewN ?_ _ | refine blk_drew ?_ | refine blk_alloc ?_ _)); exact BK309.out⟩, ⟨by (with_reducible repeat (first | refine blk_drewN ?_ _ | refine blk_drew ?_ | refine blk_alloc ?_ _)); exact BK310.out⟩, ⟨eB3 HB GE308 GE309 GE310⟩⟩
   ·replace c11 := Bool.eq_false_iff.mpr c11
    subst c11
    have H1 : (spec_SideOf.j0 k true a0_0 a0_1 a1_0 a1_1 a2_0 a2_1) = some r := by rw [if_neg (show ¬ (false = true) by decide)] at H; exact H
    clear H
    have H := H1
    clear H1
    have H' := Aside0.mk H
    clear H
    have hnb22 := NB308_309.out
    have hnc22 := NB309_308.out
    have hnb23 := NB308_310.out
    have hnc23 := NB310_308.out
    have hcz24_0 := bC BK308 0 (.int .i64 a0_0)
    have hcz24_1 := bC BK308 1 (.int .i64 a0_1)
    have hfz24_0 := blk_frozen BK308.out 0
    have hfz24_1 := blk_frozen BK308.out 1
    go_wp2_with (first | ((with_reducible refine gate_callee (f := 31) rfl ?_); refine gL (some 9) Try.func31 #[.agg #[.int .i64 a0_0, .int .i64 a0_1]] ?_; (with_reducible refine (spec_IsPoint.calls a0_0 a0_1 true _ A8.out).mono ?_); rintro e w25 ⟨rfl, hb⟩; refine ⟨_, rfl, ?_⟩; replace BK308 := mB BK308 hb; replace BK309 := mB BK309 hb; replace BK310 := mB BK310 hb; replace HB := sB3 HB hb GE308 GE309 GE310; (try clear hb); have hnb26 := NB309_310.out; have hnc26 := NB310_309.out; have hcz27_0 := bC BK309 0 (.int .i64 a1_0); have hcz27_1 := bC BK309 1 (.int .i64 a1_1); have hfz27_0 := blk_frozen BK309.out 0; have hfz27_1 := blk_frozen BK309.out 1) | (go_at_call 31; (with_reducible refine (spec_IsPoint.calls a1_0 a1_1 false _ A10.out).mono ?_); rintro e w28 ⟨rfl, hb⟩; replace BK308 := mB BK308 hb; replace BK309 := mB BK309 hb; replace BK310 := mB BK310 hb; replace HB := sB3 HB hb GE308 GE309 GE310; (try clear hb)))
    go_meet
    case rel => exact ⟨_, (true), (by first | rfl | (simp; done) | (simp [*]; done)), H', ⟨by first | omega | exact Nat.le_refl _⟩, ⟨by (with_reducible repeat (first | refine blk_drewN ?_ _ | refine blk_drew ?_ | refine blk_alloc ?_ _)); exact BK308.out⟩, ⟨by (with_reducible repeat (first | refine blk_drewN ?_ _ | refine blk_drew ?_ | refine blk_alloc ?_ _)); exact BK309.out⟩, ⟨by (with_reducible repeat (first | refine blk_drewN ?_ _ | refine blk_drew ?_ | refine blk_alloc ?_ _)); exact BK310.out⟩, ⟨eB3 HB GE308 GE309 GE310⟩⟩
  ·replace c9 := Bool.eq_false_iff.mpr c9
   subst c9
   have H1 : (spec_SideOf.j0 k true a0_0 a0_1 a1_0 a1_1 a2_0 a2_1) = some r := by rw [if_neg (show ¬ (false = true) by decide)] at H; exact H
   clear H
   have H := H1
   clear H1
   have H' := Aside0.mk H
   clear H
   have hnb29 := NB308_309.out
   have hnc29 := NB309_308.out
   have hnb30 := NB308_310.out
   have hnc30 := NB310_308.out
   have hcz31_0 := bC BK308 0 (.int .i64 a0_0)
   have hcz31_1 := bC BK308 1 (.int .i64 a0_1)
   have hfz31_0 := blk_frozen BK308.out 0
   have hfz31_1 := blk_frozen BK308.out 1
   go_wp2_with (first | ((with_reducible refine gate_callee (f := 31) rfl ?_); refine gL (some 9) Try.func31 #[.agg #[.int .i64 a0_0, .int .i64 a0_1]] ?_; (with_reducible refine (spec_IsPoint.calls a0_0 a0_1 false _ A8.out).mono ?_); rintro e w32 ⟨rfl, hb⟩; refine ⟨_, rfl, ?_⟩; replace BK308 := mB BK308 hb; replace BK309 := mB BK309 hb; replace BK310 := mB BK310 hb; replace HB := sB3 HB hb GE308 GE309 GE310; (try clear hb)))
   go_meet
   case rel => exact ⟨_, (true), (by first | rfl | (simp; done) | (simp [*]; done)), H', ⟨by first | omega | exact Nat.le_refl _⟩, ⟨by (with_reducible repeat (first | refine blk_drewN ?_ _ | refine blk_drew ?_ | refine blk_alloc ?_ _)); exact BK308.out⟩, ⟨by (with_reducible repeat (first | refine blk_drewN ?_ _ | refine blk_drew ?_ | refine blk_alloc ?_ _)); exact BK309.out⟩, ⟨by (with_reducible repeat (first | refine blk_drewN ?_ _ | refine blk_drew ?_ | refine blk_alloc ?_ _)); exact BK310.out⟩, ⟨eB3 HB GE308 GE309 GE310⟩⟩
 case rest =>
  clear HC4
  try clear c1
  try clear c2
  try clear p2
  try clear c3
  try clear c9
  try clear c11
  try clear c13
  try clear c14
  try clear c17
  try clear c22
  try clear c23
  try clear c26
  try clear c29
  try clear c30
  try clear c31
  obtain ⟨kq, x20_3, rfl, HA, HJ3, BK308, BK309, BK310, HB⟩ := hcut
  cases kq with
  | zero => exact absurd HA.out (by simp [spec_SideOf.j0])
  | succ kj3 =>
   have H := HA.out
   clear HA
   simp only [spec_SideOf.j0] at H
   by_cases c33 : x20_3 = true
   ·subst c33
    have H1 : (some 0) = some r := by rw [if_pos rfl] at H; exact H
    clear H
    have H := H1
    clear H1
    obtain rfl := Option.some.inj H
    go_wp2
    go_ret
    exact ⟨by first | rfl | (simp [errW_none, errW_some] <;> rfl) | (simp [*, errW_none, errW_some] <;> rfl), eB3 HB GE308 GE309 GE310⟩
   ·replace c33 := Bool.eq_false_iff.mpr c33
    subst c33
    have H1 : ((spec_l4Cross.f a0_0 a0_1 a1_0 a1_1 a2_0 a2_1).bind fun t314 => (if t314 > 0 then (some 1) else (if t314 < 0 then (some (-1)) else (some 0)))) = some r := by rw [if_neg (show ¬ (false = true) by decide)] at H; exact H
    clear H
    have H := H1
    clear H1
    replace H := Option.bind_eq_some_iff.mp H
    obtain ⟨t314, A340, H⟩ := H
    replace H : (if t314 > 0 then (some 1) else (if t314 < 0 then (some (-1)) else (some 0))) = some r := H
    have A34 := Aside0.mk A340
    clear A340
    by_cases c35 : t314 > 0
    ·rw [if_pos c35] at H
     have c35b0 : decide (0 < t314) = true := decide_eq_true c35
     clear c35
     obtain rfl := Option.some.inj H
     have hnb36 := NB308_309.out
     have hnc36 := NB309_308.out
     have hnb37 := NB308_310.out
     have hnc37 := NB310_308.out
     have hcz38_0 := bC BK308 0 (.int .i64 a0_0)
     have hcz38_1 := bC BK308 1 (.int .i64 a0_1)
     have hfz38_0 := blk_frozen BK308.out 0
     have hfz38_1 := blk_frozen BK308.out 1
     have hnb39 := NB309_310.out
     have hnc39 := NB310_309.out
     have hcz40_0 := bC BK309 0 (.int .i64 a1_0)
     have hcz40_1 := bC BK309 1 (.int .i64 a1_1)
     have hfz40_0 := blk_frozen BK309.out 0
     have hfz40_1 := blk_frozen BK309.out 1
     have hcz41_0 := bC BK310 0 (.int .i64 a2_0)
     have hcz41_1 := bC BK310 1 (.int .i64 a2_1)
     have hfz41_0 := blk_frozen BK310.out 0
     have hfz41_1 := blk_frozen BK310.out 1
     go_wp2_with (first | ((with_reducible refine gate_callee (f := 33) rfl ?_); refine gL (some 24) Try.func33 #[.agg #[.int .i64 a0_0, .int .i64 a0_1], .agg #[.int .i64 a1_0, .int .i64 a1_1], .agg #[.int .i64 a2_0, .int .i64 a2_1]] ?_; (with_reducible refine (spec_l4Cross.calls a0_0 a0_1 a1_0 a1_1 a2_0 a2_1 t314 _ A34.out).mono ?_); rintro e w42 ⟨rfl, hb⟩; refine ⟨_, rfl, ?_⟩; replace BK308 := mB BK308 hb; replace BK309 := mB BK309 hb; replace BK310 := mB BK310 hb; replace HB := sB3 HB hb GE308 GE309 GE310; (try clear hb)))
     go_ret
     exact ⟨by first | rfl | (simp [errW_none, errW_some] <;> rfl) | (simp [*, errW_none, errW_some] <;> rfl), eB3 HB GE308 GE309 GE310⟩
    ·rw [if_neg c35] at H
     have c35b0 : decide (0 < t314) = false := decide_eq_false c35
     clear c35
     by_cases c43 : t314 < 0
     ·rw [if_pos c43] at H
      have c43b0 : decide (t314 < 0) = true := decide_eq_true c43
      clear c43
      obtain rfl := Option.some.inj H
      have hnb44 := NB308_309.out
      have hnc44 := NB309_308.out
      have hnb45 := NB308_310.out
      have hnc45 := NB310_308.out
      have hcz46_0 := bC BK308 0 (.int .i64 a0_0)
      have hcz46_1 := bC BK308 1 (.int .i64 a0_1)
      have hfz46_0 := blk_frozen BK308.out 0
      have hfz46_1 := blk_frozen BK308.out 1
      have hnb47 := NB309_310.out
      have hnc47 := NB310_309.out
      have hcz48_0 := bC BK309 0 (.int .i64 a1_0)
      have hcz48_1 := bC BK309 1 (.int .i64 a1_1)
      have hfz48_0 := blk_frozen BK309.out 0
      have hfz48_1 := blk_frozen BK309.out 1
      have hcz49_0 := bC BK310 0 (.int .i64 a2_0)
      have hcz49_1 := bC BK310 1 (.int .i64 a2_1)
      have hfz49_0 := blk_frozen BK310.out 0
      have hfz49_1 := blk_frozen BK310.out 1
      go_wp2_with (first | ((with_reducible refine gate_callee (f := 33) rfl ?_); refine gL (some 24) Try.func33 #[.agg #[.int .i64 a0_0, .int .i64 a0_1], .agg #[.int .i64 a1_0, .int .i64 a1_1], .agg #[.int .i64 a2_0, .int .i64 a2_1]] ?_; (with_reducible refine (spec_l4Cross.calls a0_0 a0_1 a1_0 a1_1 a2_0 a2_1 t314 _ A34.out).mono ?_); rintro e w50 ⟨rfl, hb⟩; refine ⟨_, rfl, ?_⟩; replace BK308 := mB BK308 hb; replace BK309 := mB BK309 hb; replace BK310 := mB BK310 hb; replace HB := sB3 HB hb GE308 GE309 GE310; (try clear hb)))
      go_ret
      exact ⟨by first | rfl | (simp [errW_none, errW_some] <;> rfl) | (simp [*, errW_none, errW_some] <;> rfl), eB3 HB GE308 GE309 GE310⟩
     ·rw [if_neg c43] at H
      have c43b0 : decide (t314 < 0) = false := decide_eq_false c43
      clear c43
      obtain rfl := Option.some.inj H
      have hnb51 := NB308_309.out
      have hnc51 := NB309_308.out
      have hnb52 := NB308_310.out
      have hnc52 := NB310_308.out
      have hcz53_0 := bC BK308 0 (.int .i64 a0_0)
      have hcz53_1 := bC BK308 1 (.int .i64 a0_1)
      have hfz53_0 := blk_frozen BK308.out 0
      have hfz53_1 := blk_frozen BK308.out 1
      have hnb54 := NB309_310.out
      have hnc54 := NB310_309.out
      have hcz55_0 := bC BK309 0 (.int .i64 a1_0)
      have hcz55_1 := bC BK309 1 (.int .i64 a1_1)
      have hfz55_0 := blk_frozen BK309.out 0
      have hfz55_1 := blk_frozen BK309.out 1
      have hcz56_0 := bC BK310 0 (.int .i64 a2_0)
      have hcz56_1 := bC BK310 1 (.int .i64 a2_1)
      have hfz56_0 := blk_frozen BK310.out 0
      have hfz56_1 := blk_frozen BK310.out 1
      go_wp2_with (first | ((with_reducible refine gate_callee (f := 33) rfl ?_); refine gL (some 24) Try.func33 #[.agg #[.int .i64 a0_0, .int .i64 a0_1], .agg #[.int .i64 a1_0, .int .i64 a1_1], .agg #[.int .i64 a2_0, .int .i64 a2_1]] ?_; (with_reducible refine (spec_l4Cross.calls a0_0 a0_1 a1_0 a1_1 a2_0 a2_1 t314 _ A34.out).mono ?_); rintro e w57 ⟨rfl, hb⟩; refine ⟨_, rfl, ?_⟩; replace BK308 := mB BK308 hb; replace BK309 := mB BK309 hb; replace BK310 := mB BK310 hb; replace HB := sB3 HB hb GE308 GE309 GE310; (try clear hb)))
      go_ret
      exact ⟨by first | rfl | (simp [errW_none, errW_some] <;> rfl) | (simp [*, errW_none, errW_some] <;> rfl), eB3 HB GE308 GE309 GE310⟩

end Go.Proofs.Ytokhmgfjgpcmdaa.PFnSegments
