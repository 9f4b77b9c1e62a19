/- What the functions of FnExactIsSimple compute, each with its proof: this session's own text. -/
import Derived.Test.YtomkdfpcckgajaaQFnExactIsSimplex0
import Derived.Test.YtomkdfpcckgajaaQFnExactIsSimplex12
import Derived.Test.YtomkdfpcckgajaaQFnExactIsSimplex13
import Derived.Test.YtomkdfpcckgajaaQFnExactIsSimplex14
namespace Go.Proofs.Ytomkdfpcckgajaa.PFnExactIsSimple
open Go.RowKit Go.Proofs.YtomkdfpcckgajaaW.PrintWords Go.Proofs.YtomkdfpcckgajaaW.PrintLast Go.Proofs.YtomkdfpcckgajaaW.PrintMore Go.Proofs.Ytomkdfpcckgajaa.Sh
attribute [local go_sem] max2_int min2_int max_two min_two max_three min_three max_four min_four   -- for this text's walks alone
set_option linter.unusedVariables false
set_option linter.unusedSimpArgs false

/-! ### spec_IsSimple: function 35 -/
mutual
def spec_IsSimple.l0 : Nat → List (S36) → List (S38) → Int → Option (Bool)
 | 0, _, _, _ => none
 | k + 1, x0, x3, x4 => if x4 < (x3.length : Int) then (spec_IsSimple.l1 k x0 x3 x4 0) else ((spec_IsLine.f k x0).bind fun t282 => (some t282))
def spec_IsSimple.l1 : Nat → List (S36) → List (S38) → Int → Int → Option (Bool)
 | 0, _, _, _, _ => none
 | k + 1, x0, x3, x4, x5 => if x5 < x4 then (if (wrap64 (x5 + 1)) = x4 then (if 0 ≤ x4 then (if x4 < (x3.length : Int) then (if 0 ≤ x5 then (if x5 < (x3.length : Int) then ((spec_HowMeet.f k ((rd_T38 x3 x4).f0.f0) ((rd_T38 x3 x4).f0.f1) ((rd_T38 x3 x4).f1.f0) ((rd_T38 x3 x4).f1.f1) ((rd_T38 x3 x5).f0.f0) ((rd_T38 x3 x5).f0.f1) ((rd_T38 x3 x5).f1.f0) ((rd_T38 x3 x5).f1.f1)).bind fun t285 => (if t285 = 1 then (spec_IsSimple.l1 k x0 x3 x4 (wrap64 (x5 + 1))) else (some false))) else (none)) else (none)) else (none)) else (none)) else (if 0 ≤ x4 then (if x4 < (x3.length : Int) then (if 0 ≤ x5 then (if x5 < (x3.length : Int) then ((spec_HowMeet.f k ((rd_T38 x3 x4).f0.f0) ((rd_T38 x3 x4).f0.f1) ((rd_T38 x3 x4).f1.f0) ((rd_T38 x3 x4).f1.f1) ((rd_T38 x3 x5).f0.f0) ((rd_T38 x3 x5).f0.f1) ((rd_T38 x3 x5).f1.f0) ((rd_T38 x3 x5).f1.f1)).bind fun t288 => (if t288 = 0 then (spec_IsSimple.l1 k x0 x3 x4 (wrap64 (x5 + 1))) else (some false))) else (none)) else (none)) else (none)) else (none))) else (spec_IsSimple.l0 k x0 x3 (wrap64 (x4 + 1)))
end
def spec_IsSimple.f (k : Nat) (l0 : List (S36)) : Option (Bool) := (spec_SegmentsOf.f k l0).bind fun t279 => (spec_IsSimple.l0 k l0 t279 0)
theorem spec_IsSimple.mono_l : ∀ k, (∀ y0 y1 y2, LeO (spec_IsSimple.l0 k y0 y1 y2) (spec_IsSimple.l0 (k + 1) y0 y1 y2)) ∧ (∀ y0 y1 y2 y3, LeO (spec_IsSimple.l1 k y0 y1 y2 y3) (spec_IsSimple.l1 (k + 1) y0 y1 y2 y3))
 | 0 => ⟨fun _ _ _ r h => by simp [spec_IsSimple.l0] at h, fun _ _ _ _ r h => by simp [spec_IsSimple.l1] at h⟩
 | k + 1 => by
  obtain ⟨ih0, ih1⟩ := spec_IsSimple.mono_l k
  refine ⟨?_, ?_⟩
  ·intro y0 y1 y2
   unfold spec_IsSimple.l0
   repeat' first
   | (with_reducible exact ih0 _ _ _)
   | (with_reducible exact ih1 _ _ _ _)
   | (with_reducible exact spec_HowMeet.mono _ _ _ _ _ _ _ _ _)
   | (with_reducible exact spec_IsLine.mono _ _)
   | (with_reducible exact spec_SegmentsOf.mono _ _)
   | (with_reducible exact LeO.refl _)
   | (with_reducible exact LeO.none _)
   | (with_reducible refine LeO.ite ?_ ?_)
   | (with_reducible refine LeO.bind ?_ (fun _ => ?_))
   | exact ih0 _ _ _
   | exact ih1 _ _ _ _
   | exact spec_HowMeet.mono _ _ _ _ _ _ _ _ _
   | exact spec_IsLine.mono _ _
   | exact spec_SegmentsOf.mono _ _
   | exact LeO.none _
   | refine LeO.ite ?_ ?_
   | refine LeO.bind ?_ (fun _ => ?_)
  ·intro y0 y1 y2 y3
   unfold spec_IsSimple.l1
   repeat' first
   | (with_reducible exact ih0 _ _ _)
   | (with_reducible exact ih1 _ _ _ _)
   | (with_reducible exact spec_HowMeet.mono _ _ _ _ _ _ _ _ _)
   | (with_reducible exact spec_IsLine.mono _ _)
   | (with_reducible exact spec_SegmentsOf.mono _ _)
   | (with_reducible exact LeO.refl _)
   | (with_reducible exact LeO.none _)
   | (with_reducible refine LeO.ite ?_ ?_)
   | (with_reducible refine LeO.bind ?_ (fun _ => ?_))
   | exact ih0 _ _ _
   | exact ih1 _ _ _ _
   | exact spec_HowMeet.mono _ _ _ _ _ _ _ _ _
   | exact spec_IsLine.mono _ _
   | exact spec_SegmentsOf.mono _ _
   | exact LeO.none _
   | refine LeO.ite ?_ ?_
   | refine LeO.bind ?_ (fun _ => ?_)
theorem spec_IsSimple.mono : ∀ a0 k, LeO (spec_IsSimple.f k a0) (spec_IsSimple.f (k + 1) a0) := by
 intro a0 k
 obtain ⟨ih0, ih1⟩ := spec_IsSimple.mono_l k
 unfold spec_IsSimple.f
 repeat' first
   | (with_reducible exact ih0 _ _ _)
   | (with_reducible exact ih1 _ _ _ _)
   | (with_reducible exact spec_HowMeet.mono _ _ _ _ _ _ _ _ _)
   | (with_reducible exact spec_IsLine.mono _ _)
   | (with_reducible exact spec_SegmentsOf.mono _ _)
   | (with_reducible exact LeO.refl _)
   | (with_reducible exact LeO.none _)
   | (with_reducible refine LeO.ite ?_ ?_)
   | (with_reducible refine LeO.bind ?_ (fun _ => ?_))
   | exact ih0 _ _ _
   | exact ih1 _ _ _ _
   | exact spec_HowMeet.mono _ _ _ _ _ _ _ _ _
   | exact spec_IsLine.mono _ _
   | exact spec_SegmentsOf.mono _ _
   | exact LeO.none _
   | refine LeO.ite ?_ ?_
   | refine LeO.bind ?_ (fun _ => ?_)
def spec_IsSimple.T11 : Bool × List (List Nat × List Nat) := (true, [([], []), ([], []), ([0, 1], [0, 1]), ([2], [2]), ([], []), ([], []), ([4, 5], [4, 5]), ([6], [6]), ([3, 7], [3, 7]), ([], []), ([8, 9], [8, 9])])
def spec_IsSimple.B11 : List Nat := [0, 0, 3, 7, 0, 0, 48, 112, 255, 0, 1023]
theorem spec_IsSimple.tab11 : rtab .any (opsOf Try.f35 11) = spec_IsSimple.T11 := by kernel_rfl
theorem spec_IsSimple.bits11 : waitsOk spec_IsSimple.T11.2 spec_IsSimple.B11 = true := by kernel_rfl
set_option maxHeartbeats 8000000 in
set_option maxRecDepth 100000 in
theorem spec_IsSimple.calls (k : Nat) (A0 : Option Addr) (c0 : Nat) (l0 : List (S36)) (r : Bool) (w : World) (hr0 : Kd.C k36 w A0 l0.length l0) (hc0 : l0.length ≤ c0) (h : spec_IsSimple.f k l0 = some r) :
  Calls Try.prog 35 #[.slice A0 l0.length c0] w fun e w' => e = .returned (.bool r) ∧ Below w.heap.size w w' := by
 have hu38 := Try.underlying38
 have HR0 := Aside0.mk hr0
 have HC0 := Aside0.mk hc0
 clear hr0 hc0
 have HB := Aside0.mk (Below.refl w.heap.size w)
 have H : ((spec_SegmentsOf.f k l0).bind fun t279 => (spec_IsSimple.l0 k l0 t279 0)) = some r := h
 clear h
 replace H := Option.bind_eq_some_iff.mp H
 obtain ⟨t279, A20, H⟩ := H
 replace H : (spec_IsSimple.l0 k l0 t279 0) = some r := H
 have A2 := Aside0.mk A20
 clear A20
 have H' := Aside0.mk H
 clear H
 go_enter Try.func35, Try.ntmps35
 go_wp2_with (first | ((with_reducible refine gate_callee (f := 62) rfl ?_); refine gL (some 8) Try.func62 #[.slice A0 l0.length c0] ?_; (with_reducible refine (spec_SegmentsOf.calls k _ _ l0 t279 _ ?side1 ?side2 A2.out).mono ?_); (case side1 => repeat (first | exact HR0.out | (with_reducible refine Kd.C_alloc ?_ _) | (with_reducible refine Kd.C_drewN ?_ _) | (with_reducible refine Kd.C_drew ?_))); (case side2 => exact HC0.out); rintro e w3 ⟨v280, rfl, ho0, hb⟩; refine ⟨_, rfl, ?_⟩; have HO281 := Aside0.mk (Kd.R_lower ho0 (below_size (by repeat (first | (with_reducible first | exact HB.out | apply below_alloc | apply pw_below_drewN | apply below_drew1) | exact HB.out)))); replace HB := sB0 HB hb; (try clear hb); (try clear ho0)))
 go_loopg [4] k (fun kq v4 w' => ∃ (x4_1 : Int), v4 = .int .i64 x4_1 ∧ Aside0 (spec_IsSimple.l0 kq l0 t279 x4_1 = some r) ∧ Aside0 (kq ≤ k) ∧ Aside0 (Kd.R k38 38 w' w.heap.size (fun _ => True) v280 t279) ∧ Aside0 (Below w.heap.size w w'))
 case atStart => exact ⟨(0), (by first | rfl | (simp; done) | (simp [*]; done)), H', ⟨Nat.le_refl _⟩, ⟨by (with_reducible repeat (first | apply Kd.R_alloc | apply Kd.R_drewN | apply Kd.R_drew)); exact HO281.out⟩, ⟨by repeat (first | (with_reducible first | exact HB.out | apply below_alloc | apply pw_below_drewN | apply below_drew1) | exact HB.out)⟩⟩
 case round =>
  clear H'
  try clear p2
  try clear c3
  obtain ⟨x4_1, rfl, HA, HK1, HO_3, HB⟩ := hrel
  cases gk with
  | zero => exact absurd HA.out (by simp [spec_IsSimple.l0])
  | succ k1 =>
   have H := HA.out
   clear HA
   simp only [spec_IsSimple.l0] at H
   by_cases c4 : x4_1 < (t279.length : Int)
   ·rw [if_pos c4] at H
    have c4b0 : decide (x4_1 < (t279.length : Int)) = true := decide_eq_true c4
    clear c4
    have H' := Aside0.mk H
    clear H
    obtain ⟨Ao5, co5, eo5⟩ := Kd.R_slice HO_3.out
    subst eo5
    go_wp2
    go_loopg [5] k1 (fun kq v5 w' => ∃ (x5_2 : Int), v5 = .int .i64 x5_2 ∧ Aside0 (spec_IsSimple.l1 kq l0 t279 x4_1 x5_2 = some r) ∧ Aside0 (kq ≤ k1) ∧ Aside0 (Kd.R k38 38 w' w.heap.size (fun _ => True) (.slice Ao5 t279.length co5) t279) ∧ Aside0 (Below w.heap.size w w'))
    case atStart => exact ⟨(0), (by first | rfl | (simp; done) | (simp [*]; done)), H', ⟨Nat.le_refl _⟩, ⟨by (with_reducible repeat (first | apply Kd.R_alloc | apply Kd.R_drewN | apply Kd.R_drew)); exact HO_3.out⟩, ⟨by repeat (first | (with_reducible first | exact HB.out | apply below_alloc | apply pw_below_drewN | apply below_drew1) | exact HB.out)⟩⟩
    case round =>
     clear H'
     try clear p2
     try clear c3
     try clear c4
     try clear c4b0
     try clear p2
     obtain ⟨x5_2, rfl, HA, HK2, HO_3, HB⟩ := hrel
     cases gk with
     | zero => exact absurd HA.out (by simp [spec_IsSimple.l1])
     | succ k2 =>
      have H := HA.out
      clear HA
      simp only [spec_IsSimple.l1] at H
      by_cases c6 : x5_2 < x4_1
      ·rw [if_pos c6] at H
       have c6b0 : decide (x5_2 < x4_1) = true := decide_eq_true c6
       clear c6
       by_cases c7 : (wrap64 (x5_2 + 1)) = x4_1
       ·rw [if_pos c7] at H
        have c7b0 : ((wrap64 (x5_2 + 1)) == x4_1) = true := beq_iff_eq.mpr c7
        have c7b1 : ((wrap64 (x5_2 + 1)) != x4_1) = false := bne_eq_false_iff_eq.mpr c7
        clear c7
        by_cases c8 : 0 ≤ x4_1
        ·rw [if_pos c8] at H
         have c8b0 : decide (0 ≤ x4_1) = true := decide_eq_true c8
         clear c8
         by_cases c9 : x4_1 < (t279.length : Int)
         ·rw [if_pos c9] at H
          have c9b0 : decide (x4_1 < (t279.length : Int)) = true := decide_eq_true c9
          clear c9
          by_cases c10 : 0 ≤ x5_2
          ·rw [if_pos c10] at H
           have c10b0 : decide (0 ≤ x5_2) = true := decide_eq_true c10
           clear c10
           by_cases c11 : x5_2 < (t279.length : Int)
           ·rw [if_pos c11] at H
            have c11b0 : decide (x5_2 < (t279.length : Int)) = true := decide_eq_true c11
            clear c11
            replace H := Option.bind_eq_some_iff.mp H
            obtain ⟨t285, A120, H⟩ := H
            replace H : (if t285 = 1 then (spec_IsSimple.l1 k2 l0 t279 x4_1 (wrap64 (x5_2 + 1))) else (some false)) = some r := H
            have A12 := Aside0.mk A120
            clear A120
            by_cases c13 : t285 = 1
            ·rw [if_pos c13] at H
             have c13b0 : (t285 == 1) = true := beq_iff_eq.mpr c13
             have c13b1 : (t285 != 1) = false := bne_eq_false_iff_eq.mpr c13
             clear c13
             have H' := Aside0.mk H
             clear H
             try go_wp2
             replace HO_3 := Aside0.mk (Kd.R_drew HO_3.out)
             replace HB := Aside0.mk (below_drew1 HB.out)
             have p283 : 0 ≤ (x4_1 : Int) := of_decide_eq_true (by first | (with_reducible assumption) | assumption)
             have q283 : x4_1 < (t279.length : Int) := of_decide_eq_true (by first | (with_reducible assumption) | assumption)
             obtain ⟨ad283, e283, hx283_0, hx283_1, hx283_2, hx283_3⟩ := at_T38 (Kd.R_reads' HO_3.out).2.2 x4_1 p283 q283
             cases e283
             replace p283 := eq_true p283
             replace q283 := eq_true q283
             have p284 : 0 ≤ (x5_2 : Int) := of_decide_eq_true (by first | (with_reducible assumption) | assumption)
             have q284 : x5_2 < (t279.length : Int) := of_decide_eq_true (by first | (with_reducible assumption) | assumption)
             obtain ⟨ad284, e284, hx284_0, hx284_1, hx284_2, hx284_3⟩ := at_T38 (Kd.R_reads' HO_3.out).2.2 x5_2 p284 q284
             obtain rfl : ad283 = ad284 := (by injection e284)
             replace p284 := eq_true p284
             replace q284 := eq_true q284
             refine start_ (n := 11) (S := fun w' => w'.cell? (ad283.add ((x4_1).toNat * 4)) = some (.int .i64 ((rd_T38 t279 x4_1).f0.f0)) ∧ w'.cell? ⟨(ad283.add ((x4_1).toNat * 4)).block, (ad283.add ((x4_1).toNat * 4)).off + 1, none⟩ = some (.int .i64 ((rd_T38 t279 x4_1).f0.f1)) ∧ w'.cell? ⟨(ad283.add ((x4_1).toNat * 4)).block, (ad283.add ((x4_1).toNat * 4)).off + 2, none⟩ = some (.int .i64 ((rd_T38 t279 x4_1).f1.f0)) ∧ w'.cell? ⟨(ad283.add ((x4_1).toNat * 4)).block, (ad283.add ((x4_1).toNat * 4)).off + 3, none⟩ = some (.int .i64 ((rd_T38 t279 x4_1).f1.f1)) ∧ w'.cell? (ad283.add ((x5_2).toNat * 4)) = some (.int .i64 ((rd_T38 t279 x5_2).f0.f0)) ∧ w'.cell? ⟨(ad283.add ((x5_2).toNat * 4)).block, (ad283.add ((x5_2).toNat * 4)).off + 1, none⟩ = some (.int .i64 ((rd_T38 t279 x5_2).f0.f1)) ∧ w'.cell? ⟨(ad283.add ((x5_2).toNat * 4)).block, (ad283.add ((x5_2).toNat * 4)).off + 2, none⟩ = some (.int .i64 ((rd_T38 t279 x5_2).f1.f0)) ∧ w'.cell? ⟨(ad283.add ((x5_2).toNat * 4)).block, (ad283.add ((x5_2).toNat * 4)).off + 3, none⟩ = some (.int .i64 ((rd_T38 t279 x5_2).f1.f1))) (ds := []) #[false, false, false, false, false, false, false, false, false, false, false] (by kernel_rfl) rfl rfl ⟨hx283_0, hx283_1, hx283_2, hx283_3, hx284_0, hx284_1, hx284_2, hx284_3⟩ (fun hHeld => ?_); refine with_tabW spec_IsSimple.tab11 spec_IsSimple.bits11 (fun HT_ HW_ => ?_)
             generalize wr.drew = w14 at HO_3 HB hx283_0 hx283_1 hx283_2 hx283_3 hx284_0 hx284_1 hx284_2 hx284_3 hHeld ⊢
             refine pA HT_.out 0 24 ?_
             refine pA HT_.out 1 25 ?_
             refine pA HT_.out 2 26 ?_
             refine pA HT_.out 4 28 ?_
             refine pA HT_.out 5 29 ?_
             refine pA HT_.out 6 30 ?_
             refine pA HT_.out 9 33 ?_
             refine tA8 HT_.out HW_.out 3 27 hHeld ?_
             refine tA8 HT_.out HW_.out 7 31 hHeld ?_
             refine one_ (i := 8) (N := some 32) #[true, true, true, true, true, true, true, true, true, true, false] rfl rfl (one_of HT_.out (by kernel_rfl)) (by decide) (fun K hK => ?_)
             refine gS Try.func26 #[.agg #[.int .i64 ((rd_T38 t279 x4_1).f0.f0), .int .i64 ((rd_T38 t279 x4_1).f0.f1), .int .i64 ((rd_T38 t279 x4_1).f1.f0), .int .i64 ((rd_T38 t279 x4_1).f1.f1)], .agg #[.int .i64 ((rd_T38 t279 x5_2).f0.f0), .int .i64 ((rd_T38 t279 x5_2).f0.f1), .int .i64 ((rd_T38 t279 x5_2).f1.f0), .int .i64 ((rd_T38 t279 x5_2).f1.f1)]] ?_
             with_reducible refine (spec_HowMeet.calls k2 ((rd_T38 t279 x4_1).f0.f0) ((rd_T38 t279 x4_1).f0.f1) ((rd_T38 t279 x4_1).f1.f0) ((rd_T38 t279 x4_1).f1.f1) ((rd_T38 t279 x5_2).f0.f0) ((rd_T38 t279 x5_2).f0.f1) ((rd_T38 t279 x5_2).f1.f0) ((rd_T38 t279 x5_2).f1.f1) t285 _ A12.out).mono ?_
             rintro e w15 ⟨rfl, hb⟩
             have HS0_ := (hb.cell (World.block_lt_of_cell? _ _ (hHeld.1))).trans (hHeld.1)
             have HS1_ := (hb.cell (World.block_lt_of_cell? _ _ (hHeld.2.1))).trans (hHeld.2.1)
             have HS2_ := (hb.cell (World.block_lt_of_cell? _ _ (hHeld.2.2.1))).trans (hHeld.2.2.1)
             have HS3_ := (hb.cell (World.block_lt_of_cell? _ _ (hHeld.2.2.2.1))).trans (hHeld.2.2.2.1)
             have HS4_ := (hb.cell (World.block_lt_of_cell? _ _ (hHeld.2.2.2.2.1))).trans (hHeld.2.2.2.2.1)
             have HS5_ := (hb.cell (World.block_lt_of_cell? _ _ (hHeld.2.2.2.2.2.1))).trans (hHeld.2.2.2.2.2.1)
             have HS6_ := (hb.cell (World.block_lt_of_cell? _ _ (hHeld.2.2.2.2.2.2.1))).trans (hHeld.2.2.2.2.2.2.1)
             have HS7_ := (hb.cell (World.block_lt_of_cell? _ _ (hHeld.2.2.2.2.2.2.2))).trans (hHeld.2.2.2.2.2.2.2)
             refine ⟨_, rfl, ?_⟩
             replace HO_3 := Aside0.mk (Kd.R_below (by (with_reducible repeat (first | apply Kd.R_alloc | apply Kd.R_drewN | apply Kd.R_drew)); exact HO_3.out) hb)
             replace HB := sB0 HB hb
             (try clear hb)
             (try clear hb2)
             (try clear hk)
             (try clear hi)
             refine hK.out _ _ ⟨HS0_, HS1_, HS2_, HS3_, HS4_, HS5_, HS6_, HS7_⟩ (fun hHeld => ?_)
             clear hK K
             refine norm_ (a' := ?_) ?_ ?_
             rotate_left
             ·show Act.put _ (some 32) _ = _
              simp only [Act.put, List.setIfInBounds_toArray, List.set_cons_zero, List.set_cons_succ, i64_w, i32_w]
              rfl
             refine pA HT_.out 10 34 ?_
             refine done_ (done_of HT_.out (by kernel_rfl)) ?_
             try go_wp2
             go_roundg k2
             case measure => have := HK1.out; have := HK2.out; omega
             case rel => exact ⟨(wrap64 (x5_2 + 1)), (by first | rfl | (simp; done) | (simp [*]; done)), H', ⟨by have := HK1.out; have := HK2.out; omega⟩, ⟨by (with_reducible repeat (first | apply Kd.R_alloc | apply Kd.R_drewN | apply Kd.R_drew)); exact HO_3.out⟩, ⟨by repeat (first | (with_reducible first | exact HB.out | apply below_alloc | apply pw_below_drewN | apply below_drew1) | exact HB.out)⟩⟩
            ·rw [if_neg c13] at H
             have c13b0 : (t285 == 1) = false := beq_eq_false_iff_ne.mpr c13
             have c13b1 : (t285 != 1) = true := bne_iff_ne.mpr c13
             obtain rfl := Option.some.inj H
             try go_wp2
             replace HO_3 := Aside0.mk (Kd.R_drew HO_3.out)
             replace HB := Aside0.mk (below_drew1 HB.out)
             have p283 : 0 ≤ (x4_1 : Int) := of_decide_eq_true (by first | (with_reducible assumption) | assumption)
             have q283 : x4_1 < (t279.length : Int) := of_decide_eq_true (by first | (with_reducible assumption) | assumption)
             obtain ⟨ad283, e283, hx283_0, hx283_1, hx283_2, hx283_3⟩ := at_T38 (Kd.R_reads' HO_3.out).2.2 x4_1 p283 q283
             cases e283
             replace p283 := eq_true p283
             replace q283 := eq_true q283
             have p284 : 0 ≤ (x5_2 : Int) := of_decide_eq_true (by first | (with_reducible assumption) | assumption)
             have q284 : x5_2 < (t279.length : Int) := of_decide_eq_true (by first | (with_reducible assumption) | assumption)
             obtain ⟨ad284, e284, hx284_0, hx284_1, hx284_2, hx284_3⟩ := at_T38 (Kd.R_reads' HO_3.out).2.2 x5_2 p284 q284
             obtain rfl : ad283 = ad284 := (by injection e284)
             replace p284 := eq_true p284
             replace q284 := eq_true q284
             refine start_ (n := 11) (S := fun w' => w'.cell? (ad283.add ((x4_1).toNat * 4)) = some (.int .i64 ((rd_T38 t279 x4_1).f0.f0)) ∧ w'.cell? ⟨(ad283.add ((x4_1).toNat * 4)).block, (ad283.add ((x4_1).toNat * 4)).off + 1, none⟩ = some (.int .i64 ((rd_T38 t279 x4_1).f0.f1)) ∧ w'.cell? ⟨(ad283.add ((x4_1).toNat * 4)).block, (ad283.add ((x4_1).toNat * 4)).off + 2, none⟩ = some (.int .i64 ((rd_T38 t279 x4_1).f1.f0)) ∧ w'.cell? ⟨(ad283.add ((x4_1).toNat * 4)).block, (ad283.add ((x4_1).toNat * 4)).off + 3, none⟩ = some (.int .i64 ((rd_T38 t279 x4_1).f1.f1)) ∧ w'.cell? (ad283.add ((x5_2).toNat * 4)) = some (.int .i64 ((rd_T38 t279 x5_2).f0.f0)) ∧ w'.cell? ⟨(ad283.add ((x5_2).toNat * 4)).block, (ad283.add ((x5_2).toNat * 4)).off + 1, none⟩ = some (.int .i64 ((rd_T38 t279 x5_2).f0.f1)) ∧ w'.cell? ⟨(ad283.add ((x5_2).toNat * 4)).block, (ad283.add ((x5_2).toNat * 4)).off + 2, none⟩ = some (.int .i64 ((rd_T38 t279 x5_2).f1.f0)) ∧ w'.cell? ⟨(ad283.add ((x5_2).toNat * 4)).block, (ad283.add ((x5_2).toNat * 4)).off + 3, none⟩ = some (.int .i64 ((rd_T38 t279 x5_2).f1.f1))) (ds := []) #[false, false, false, false, false, false, false, false, false, false, false] (by kernel_rfl) rfl rfl ⟨hx283_0, hx283_1, hx283_2, hx283_3, hx284_0, hx284_1, hx284_2, hx284_3⟩ (fun hHeld => ?_); refine with_tabW spec_IsSimple.tab11 spec_IsSimple.bits11 (fun HT_ HW_ => ?_)
             generalize wr.drew = w16 at HO_3 HB hx283_0 hx283_1 hx283_2 hx283_3 hx284_0 hx284_1 hx284_2 hx284_3 hHeld ⊢
             refine pA HT_.out 0 24 ?_
             refine pA HT_.out 1 25 ?_
             refine pA HT_.out 2 26 ?_
             refine pA HT_.out 4 28 ?_
             refine pA HT_.out 5 29 ?_
             refine pA HT_.out 6 30 ?_
             refine pA HT_.out 9 33 ?_
             refine tA8 HT_.out HW_.out 3 27 hHeld ?_
             refine tA8 HT_.out HW_.out 7 31 hHeld ?_
             refine one_ (i := 8) (N := some 32) #[true, true, true, true, true, true, true, true, true, true, false] rfl rfl (one_of HT_.out (by kernel_rfl)) (by decide) (fun K hK => ?_)
             refine gS Try.func26 #[.agg #[.int .i64 ((rd_T38 t279 x4_1).f0.f0), .int .i64 ((rd_T38 t279 x4_1).f0.f1), .int .i64 ((rd_T38 t279 x4_1).f1.f0), .int .i64 ((rd_T38 t279 x4_1).f1.f1)], .agg #[.int .i64 ((rd_T38 t279 x5_2).f0.f0), .int .i64 ((rd_T38 t279 x5_2).f0.f1), .int .i64 ((rd_T38 t279 x5_2).f1.f0), .int .i64 ((rd_T38 t279 x5_2).f1.f1)]] ?_
             with_reducible refine (spec_HowMeet.calls k2 ((rd_T38 t279 x4_1).f0.f0) ((rd_T38 t279 x4_1).f0.f1) ((rd_T38 t279 x4_1).f1.f0) ((rd_T38 t279 x4_1).f1.f1) ((rd_T38 t279 x5_2).f0.f0) ((rd_T38 t279 x5_2).f0.f1) ((rd_T38 t279 x5_2).f1.f0) ((rd_T38 t279 x5_2).f1.f1) t285 _ A12.out).mono ?_
             rintro e w17 ⟨rfl, hb⟩
             have HS0_ := (hb.cell (World.block_lt_of_cell? _ _ (hHeld.1))).trans (hHeld.1)
             have HS1_ := (hb.cell (World.block_lt_of_cell? _ _ (hHeld.2.1))).trans (hHeld.2.1)
             have HS2_ := (hb.cell (World.block_lt_of_cell? _ _ (hHeld.2.2.1))).trans (hHeld.2.2.1)
             have HS3_ := (hb.cell (World.block_lt_of_cell? _ _ (hHeld.2.2.2.1))).trans (hHeld.2.2.2.1)
             have HS4_ := (hb.cell (World.block_lt_of_cell? _ _ (hHeld.2.2.2.2.1))).trans (hHeld.2.2.2.2.1)
             have HS5_ := (hb.cell (World.block_lt_of_cell? _ _ (hHeld.2.2.2.2.2.1))).trans (hHeld.2.2.2.2.2.1)
             have HS6_ := (hb.cell (World.block_lt_of_cell? _ _ (hHeld.2.2.2.2.2.2.1))).trans (hHeld.2.2.2.2.2.2.1)
             have HS7_ := (hb.cell (World.block_lt_of_cell? _ _ (hHeld.2.2.2.2.2.2.2))).trans (hHeld.2.2.2.2.2.2.2)
             refine ⟨_, rfl, ?_⟩
             replace HO_3 := Aside0.mk (Kd.R_below (by (with_reducible repeat (first | apply Kd.R_alloc | apply Kd.R_drewN | apply Kd.R_drew)); exact HO_3.out) hb)
             replace HB := sB0 HB hb
             (try clear hb)
             (try clear hb2)
             (try clear hk)
             (try clear hi)
             refine hK.out _ _ ⟨HS0_, HS1_, HS2_, HS3_, HS4_, HS5_, HS6_, HS7_⟩ (fun hHeld => ?_)
             clear hK K
             refine norm_ (a' := ?_) ?_ ?_
             rotate_left
             ·show Act.put _ (some 32) _ = _
              simp only [Act.put, List.setIfInBounds_toArray, List.set_cons_zero, List.set_cons_succ, i64_w, i32_w]
              rfl
             refine pA HT_.out 10 34 ?_
             refine done_ (done_of HT_.out (by kernel_rfl)) ?_
             try go_wp2
             go_ret
             exact ⟨by first | rfl | (simp [errW_none, errW_some] <;> rfl) | (simp [*, errW_none, errW_some] <;> rfl), by repeat (first | (with_reducible first | exact HB.out | apply below_alloc | apply pw_below_drewN | apply below_drew1) | exact HB.out)⟩
           ·rw [if_neg c11] at H
            exact absurd H (by simp)
          ·rw [if_neg c10] at H
           exact absurd H (by simp)
         ·rw [if_neg c9] at H
          exact absurd H (by simp)
        ·rw [if_neg c8] at H
         exact absurd H (by simp)
       ·rw [if_neg c7] at H
        have c7b0 : ((wrap64 (x5_2 + 1)) == x4_1) = false := beq_eq_false_iff_ne.mpr c7
        have c7b1 : ((wrap64 (x5_2 + 1)) != x4_1) = true := bne_iff_ne.mpr c7
        by_cases c18 : 0 ≤ x4_1
        ·rw [if_pos c18] at H
         have c18b0 : decide (0 ≤ x4_1) = true := decide_eq_true c18
         clear c18
         by_cases c19 : x4_1 < (t279.length : Int)
         ·rw [if_pos c19] at H
          have c19b0 : decide (x4_1 < (t279.length : Int)) = true := decide_eq_true c19
          clear c19
          by_cases c20 : 0 ≤ x5_2
          ·rw [if_pos c20] at H
           have c20b0 : decide (0 ≤ x5_2) = true := decide_eq_true c20
           clear c20
           by_cases c21 : x5_2 < (t279.length : Int)
           ·rw [if_pos c21] at H
            have c21b0 : decide (x5_2 < (t279.length : Int)) = true := decide_eq_true c21
            clear c21
            replace H := Option.bind_eq_some_iff.mp H
            obtain ⟨t288, A220, H⟩ := H
            replace H : (if t288 = 0 then (spec_IsSimple.l1 k2 l0 t279 x4_1 (wrap64 (x5_2 + 1))) else (some false)) = some r := H
            have A22 := Aside0.mk A220
            clear A220
            by_cases c23 : t288 = 0
            ·rw [if_pos c23] at H
             have c23b0 : (t288 == 0) = true := beq_iff_eq.mpr c23
             have c23b1 : (t288 != 0) = false := bne_eq_false_iff_eq.mpr c23
             clear c23
             have H' := Aside0.mk H
             clear H
             try go_wp2
             replace HO_3 := Aside0.mk (Kd.R_drew HO_3.out)
             replace HB := Aside0.mk (below_drew1 HB.out)
             have p286 : 0 ≤ (x4_1 : Int) := of_decide_eq_true (by first | (with_reducible assumption) | assumption)
             have q286 : x4_1 < (t279.length : Int) := of_decide_eq_true (by first | (with_reducible assumption) | assumption)
             obtain ⟨ad286, e286, hx286_0, hx286_1, hx286_2, hx286_3⟩ := at_T38 (Kd.R_reads' HO_3.out).2.2 x4_1 p286 q286
             cases e286
             replace p286 := eq_true p286
             replace q286 := eq_true q286
             have p287 : 0 ≤ (x5_2 : Int) := of_decide_eq_true (by first | (with_reducible assumption) | assumption)
             have q287 : x5_2 < (t279.length : Int) := of_decide_eq_true (by first | (with_reducible assumption) | assumption)
             obtain ⟨ad287, e287, hx287_0, hx287_1, hx287_2, hx287_3⟩ := at_T38 (Kd.R_reads' HO_3.out).2.2 x5_2 p287 q287
             obtain rfl : ad286 = ad287 := (by injection e287)
             replace p287 := eq_true p287
             replace q287 := eq_true q287
             refine start_ (n := 11) (S := fun w' => w'.cell? (ad286.add ((x4_1).toNat * 4)) = some (.int .i64 ((rd_T38 t279 x4_1).f0.f0)) ∧ w'.cell? ⟨(ad286.add ((x4_1).toNat * 4)).block, (ad286.add ((x4_1).toNat * 4)).off + 1, none⟩ = some (.int .i64 ((rd_T38 t279 x4_1).f0.f1)) ∧ w'.cell? ⟨(ad286.add ((x4_1).toNat * 4)).block, (ad286.add ((x4_1).toNat * 4)).off + 2, none⟩ = some (.int .i64 ((rd_T38 t279 x4_1).f1.f0)) ∧ w'.cell? ⟨(ad286.add ((x4_1).toNat * 4)).block, (ad286.add ((x4_1).toNat * 4)).off + 3, none⟩ = some (.int .i64 ((rd_T38 t279 x4_1).f1.f1)) ∧ w'.cell? (ad286.add ((x5_2).toNat * 4)) = some (.int .i64 ((rd_T38 t279 x5_2).f0.f0)) ∧ w'.cell? ⟨(ad286.add ((x5_2).toNat * 4)).block, (ad286.add ((x5_2).toNat * 4)).off + 1, none⟩ = some (.int .i64 ((rd_T38 t279 x5_2).f0.f1)) ∧ w'.cell? ⟨(ad286.add ((x5_2).toNat * 4)).block, (ad286.add ((x5_2).toNat * 4)).off + 2, none⟩ = some (.int .i64 ((rd_T38 t279 x5_2).f1.f0)) ∧ w'.cell? ⟨(ad286.add ((x5_2).toNat * 4)).block, (ad286.add ((x5_2).toNat * 4)).off + 3, none⟩ = some (.int .i64 ((rd_T38 t279 x5_2).f1.f1))) (ds := []) #[false, false, false, false, false, false, false, false, false, false, false] (by kernel_rfl) rfl rfl ⟨hx286_0, hx286_1, hx286_2, hx286_3, hx287_0, hx287_1, hx287_2, hx287_3⟩ (fun hHeld => ?_); refine with_tabW spec_IsSimple.tab11 spec_IsSimple.bits11 (fun HT_ HW_ => ?_)
             generalize wr.drew = w24 at HO_3 HB hx286_0 hx286_1 hx286_2 hx286_3 hx287_0 hx287_1 hx287_2 hx287_3 hHeld ⊢
             refine pA HT_.out 0 24 ?_
             refine pA HT_.out 1 25 ?_
             refine pA HT_.out 2 26 ?_
             refine pA HT_.out 4 28 ?_
             refine pA HT_.out 5 29 ?_
             refine pA HT_.out 6 30 ?_
             refine pA HT_.out 9 33 ?_
             refine tA8 HT_.out HW_.out 3 27 hHeld ?_
             refine tA8 HT_.out HW_.out 7 31 hHeld ?_
             refine one_ (i := 8) (N := some 32) #[true, true, true, true, true, true, true, true, true, true, false] rfl rfl (one_of HT_.out (by kernel_rfl)) (by decide) (fun K hK => ?_)
             refine gS Try.func26 #[.agg #[.int .i64 ((rd_T38 t279 x4_1).f0.f0), .int .i64 ((rd_T38 t279 x4_1).f0.f1), .int .i64 ((rd_T38 t279 x4_1).f1.f0), .int .i64 ((rd_T38 t279 x4_1).f1.f1)], .agg #[.int .i64 ((rd_T38 t279 x5_2).f0.f0), .int .i64 ((rd_T38 t279 x5_2).f0.f1), .int .i64 ((rd_T38 t279 x5_2).f1.f0), .int .i64 ((rd_T38 t279 x5_2).f1.f1)]] ?_
             with_reducible refine (spec_HowMeet.calls k2 ((rd_T38 t279 x4_1).f0.f0) ((rd_T38 t279 x4_1).f0.f1) ((rd_T38 t279 x4_1).f1.f0) ((rd_T38 t279 x4_1).f1.f1) ((rd_T38 t279 x5_2).f0.f0) ((rd_T38 t279 x5_2).f0.f1) ((rd_T38 t279 x5_2).f1.f0) ((rd_T38 t279 x5_2).f1.f1) t288 _ A22.out).mono ?_
             rintro e w25 ⟨rfl, hb⟩
             have HS0_ := (hb.cell (World.block_lt_of_cell? _ _ (hHeld.1))).trans (hHeld.1)
             have HS1_ := (hb.cell (World.block_lt_of_cell? _ _ (hHeld.2.1))).trans (hHeld.2.1)
             have HS2_ := (hb.cell (World.block_lt_of_cell? _ _ (hHeld.2.2.1))).trans (hHeld.2.2.1)
             have HS3_ := (hb.cell (World.block_lt_of_cell? _ _ (hHeld.2.2.2.1))).trans (hHeld.2.2.2.1)
             have HS4_ := (hb.cell (World.block_lt_of_cell? _ _ (hHeld.2.2.2.2.1))).trans (hHeld.2.2.2.2.1)
             have HS5_ := (hb.cell (World.block_lt_of_cell? _ _ (hHeld.2.2.2.2.2.1))).trans (hHeld.2.2.2.2.2.1)
             have HS6_ := (hb.cell (World.block_lt_of_cell? _ _ (hHeld.2.2.2.2.2.2.1))).trans (hHeld.2.2.2.2.2.2.1)
             have HS7_ := (hb.cell (World.block_lt_of_cell? _ _ (hHeld.2.2.2.2.2.2.2))).trans (hHeld.2.2.2.2.2.2.2)
             refine ⟨_, rfl, ?_⟩
             replace HO_3 := Aside0.mk (Kd.R_below (by (with_reducible repeat (first | apply Kd.R_alloc | apply Kd.R_drewN | apply Kd.R_drew)); exact HO_3.out) hb)
             replace HB := sB0 HB hb
             (try clear hb)
             (try clear hb2)
             (try clear hk)
             (try clear hi)
             refine hK.out _ _ ⟨HS0_, HS1_, HS2_, HS3_, HS4_, HS5_, HS6_, HS7_⟩ (fun hHeld => ?_)
             clear hK K
             refine norm_ (a' := ?_) ?_ ?_
             rotate_left
             ·show Act.put _ (some 32) _ = _
              simp only [Act.put, List.setIfInBounds_toArray, List.set_cons_zero, List.set_cons_succ, i64_w, i32_w]
              rfl
             refine pA HT_.out 10 34 ?_
             refine done_ (done_of HT_.out (by kernel_rfl)) ?_
             try go_wp2
             go_roundg k2
             case measure => have := HK1.out; have := HK2.out; omega
             case rel => exact ⟨(wrap64 (x5_2 + 1)), (by first | rfl | (simp; done) | (simp [*]; done)), H', ⟨by have := HK1.out; have := HK2.out; omega⟩, ⟨by (with_reducible repeat (first | apply Kd.R_alloc | apply Kd.R_drewN | apply Kd.R_drew)); exact HO_3.out⟩, ⟨by repeat (first | (with_reducible first | exact HB.out | apply below_alloc | apply pw_below_drewN | apply below_drew1) | exact HB.out)⟩⟩
            ·rw [if_neg c23] at H
             have c23b0 : (t288 == 0) = false := beq_eq_false_iff_ne.mpr c23
             have c23b1 : (t288 != 0) = true := bne_iff_ne.mpr c23
             obtain rfl := Option.some.inj H
             try go_wp2
             replace HO_3 := Aside0.mk (Kd.R_drew HO_3.out)
             replace HB := Aside0.mk (below_drew1 HB.out)
             have p286 : 0 ≤ (x4_1 : Int) := of_decide_eq_true (by first | (with_reducible assumption) | assumption)
             have q286 : x4_1 < (t279.length : Int) := of_decide_eq_true (by first | (with_reducible assumption) | assumption)
             obtain ⟨ad286, e286, hx286_0, hx286_1, hx286_2, hx286_3⟩ := at_T38 (Kd.R_reads' HO_3.out).2.2 x4_1 p286 q286
             cases e286
             replace p286 := eq_true p286
             replace q286 := eq_true q286
             have p287 : 0 ≤ (x5_2 : Int) := of_decide_eq_true (by first | (with_reducible assumption) | assumption)
             have q287 : x5_2 < (t279.length : Int) := of_decide_eq_true (by first | (with_reducible assumption) | assumption)
             obtain ⟨ad287, e287, hx287_0, hx287_1, hx287_2, hx287_3⟩ := at_T38 (Kd.R_reads' HO_3.out).2.2 x5_2 p287 q287
             obtain rfl : ad286 = ad287 := (by injection e287)
             replace p287 := eq_true p287
             replace q287 := eq_true q287
             refine start_ (n := 11) (S := fun w' => w'.cell? (ad286.add ((x4_1).toNat * 4)) = some (.int .i64 ((rd_T38 t279 x4_1).f0.f0)) ∧ w'.cell? ⟨(ad286.add ((x4_1).toNat * 4)).block, (ad286.add ((x4_1).toNat * 4)).off + 1, none⟩ = some (.int .i64 ((rd_T38 t279 x4_1).f0.f1)) ∧ w'.cell? ⟨(ad286.add ((x4_1).toNat * 4)).block, (ad286.add ((x4_1).toNat * 4)).off + 2, none⟩ = some (.int .i64 ((rd_T38 t279 x4_1).f1.f0)) ∧ w'.cell? ⟨(ad286.add ((x4_1).toNat * 4)).block, (ad286.add ((x4_1).toNat * 4)).off + 3, none⟩ = some (.int .i64 ((rd_T38 t279 x4_1).f1.f1)) ∧ w'.cell? (ad286.add ((x5_2).toNat * 4)) = some (.int .i64 ((rd_T38 t279 x5_2).f0.f0)) ∧ w'.cell? ⟨(ad286.add ((x5_2).toNat * 4)).block, (ad286.add ((x5_2).toNat * 4)).off + 1, none⟩ = some (.int .i64 ((rd_T38 t279 x5_2).f0.f1)) ∧ w'.cell? ⟨(ad286.add ((x5_2).toNat * 4)).block, (ad286.add ((x5_2).toNat * 4)).off + 2, none⟩ = some (.int .i64 ((rd_T38 t279 x5_2).f1.f0)) ∧ w'.cell? ⟨(ad286.add ((x5_2).toNat * 4)).block, (ad286.add ((x5_2).toNat * 4)).off + 3, none⟩ = some (.int .i64 ((rd_T38 t279 x5_2).f1.f1))) (ds := []) #[false, false, false, false, false, false, false, false, false, false, false] (by kernel_rfl) rfl rfl ⟨hx286_0, hx286_1, hx286_2, hx286_3, hx287_0, hx287_1, hx287_2, hx287_3⟩ (fun hHeld => ?_); refine with_tabW spec_IsSimple.tab11 spec_IsSimple.bits11 (fun HT_ HW_ => ?_)
             generalize wr.drew = w26 at HO_3 HB hx286_0 hx286_1 hx286_2 hx286_3 hx287_0 hx287_1 hx287_2 hx287_3 hHeld ⊢
             refine pA HT_.out 0 24 ?_
             refine pA HT_.out 1 25 ?_
             refine pA HT_.out 2 26 ?_
             refine pA HT_.out 4 28 ?_
             refine pA HT_.out 5 29 ?_
             refine pA HT_.out 6 30 ?_
             refine pA HT_.out 9 33 ?_
             refine tA8 HT_.out HW_.out 3 27 hHeld ?_
             refine tA8 HT_.out HW_.out 7 31 hHeld ?_
             refine one_ (i := 8) (N := some 32) #[true, true, true, true, true, true, true, true, true, true, false] rfl rfl (one_of HT_.out (by kernel_rfl)) (by decide) (fun K hK => ?_)
             refine gS Try.func26 #[.agg #[.int .i64 ((rd_T38 t279 x4_1).f0.f0), .int .i64 ((rd_T38 t279 x4_1).f0.f1), .int .i64 ((rd_T38 t279 x4_1).f1.f0), .int .i64 ((rd_T38 t279 x4_1).f1.f1)], .agg #[.int .i64 ((rd_T38 t279 x5_2).f0.f0), .int .i64 ((rd_T38 t279 x5_2).f0.f1), .int .i64 ((rd_T38 t279 x5_2).f1.f0), .int .i64 ((rd_T38 t279 x5_2).f1.f1)]] ?_
             with_reducible refine (spec_HowMeet.calls k2 ((rd_T38 t279 x4_1).f0.f0) ((rd_T38 t279 x4_1).f0.f1) ((rd_T38 t279 x4_1).f1.f0) ((rd_T38 t279 x4_1).f1.f1) ((rd_T38 t279 x5_2).f0.f0) ((rd_T38 t279 x5_2).f0.f1) ((rd_T38 t279 x5_2).f1.f0) ((rd_T38 t279 x5_2).f1.f1) t288 _ A22.out).mono ?_
             rintro e w27 ⟨rfl, hb⟩
             have HS0_ := (hb.cell (World.block_lt_of_cell? _ _ (hHeld.1))).trans (hHeld.1)
             have HS1_ := (hb.cell (World.block_lt_of_cell? _ _ (hHeld.2.1))).trans (hHeld.2.1)
             have HS2_ := (hb.cell (World.block_lt_of_cell? _ _ (hHeld.2.2.1))).trans (hHeld.2.2.1)
             have HS3_ := (hb.cell (World.block_lt_of_cell? _ _ (hHeld.2.2.2.1))).trans (hHeld.2.2.2.1)
             have HS4_ := (hb.cell (World.block_lt_of_cell? _ _ (hHeld.2.2.2.2.1))).trans (hHeld.2.2.2.2.1)
             have HS5_ := (hb.cell (World.block_lt_of_cell? _ _ (hHeld.2.2.2.2.2.1))).trans (hHeld.2.2.2.2.2.1)
             have HS6_ := (hb.cell (World.block_lt_of_cell? _ _ (hHeld.2.2.2.2.2.2.1))).trans (hHeld.2.2.2.2.2.2.1)
             have HS7_ := (hb.cell (World.block_lt_of_cell? _ _ (hHeld.2.2.2.2.2.2.2))).trans (hHeld.2.2.2.2.2.2.2)
             refine ⟨_, rfl, ?_⟩
             replace HO_3 := Aside0.mk (Kd.R_below (by (with_reducible repeat (first | apply Kd.R_alloc | apply Kd.R_drewN | apply Kd.R_drew)); exact HO_3.out) hb)
             replace HB := sB0 HB hb
             (try clear hb)
             (try clear hb2)
             (try clear hk)
             (try clear hi)
             refine hK.out _ _ ⟨HS0_, HS1_, HS2_, HS3_, HS4_, HS5_, HS6_, HS7_⟩ (fun hHeld => ?_)
             clear hK K
             refine norm_ (a' := ?_) ?_ ?_
             rotate_left
             ·show Act.put _ (some 32) _ = _
              simp only [Act.put, List.setIfInBounds_toArray, List.set_cons_zero, List.set_cons_succ, i64_w, i32_w]
              rfl
             refine pA HT_.out 10 34 ?_
             refine done_ (done_of HT_.out (by kernel_rfl)) ?_
             try go_wp2
             go_ret
             exact ⟨by first | rfl | (simp [errW_none, errW_some] <;> rfl) | (simp [*, errW_none, errW_some] <;> rfl), by repeat (first | (with_reducible first | exact HB.out | apply below_alloc | apply pw_below_drewN | apply below_drew1) | exact HB.out)⟩
           ·rw [if_neg c21] at H
            exact absurd H (by simp)
          ·rw [if_neg c20] at H
           exact absurd H (by simp)
         ·rw [if_neg c19] at H
          exact absurd H (by simp)
        ·rw [if_neg c18] at H
         exact absurd H (by simp)
      ·rw [if_neg c6] at H
       have c6b0 : decide (x5_2 < x4_1) = false := decide_eq_false c6
       clear c6
       have H' := Aside0.mk H
       clear H
       go_wp2
       go_roundg k2
       case measure => have := HK1.out; have := HK2.out; omega
       case rel => exact ⟨(wrap64 (x4_1 + 1)), (by first | rfl | (simp; done) | (simp [*]; done)), H', ⟨by have := HK1.out; have := HK2.out; omega⟩, ⟨by (with_reducible repeat (first | apply Kd.R_alloc | apply Kd.R_drewN | apply Kd.R_drew)); exact HO_3.out⟩, ⟨by repeat (first | (with_reducible first | exact HB.out | apply below_alloc | apply pw_below_drewN | apply below_drew1) | exact HB.out)⟩⟩
   ·rw [if_neg c4] at H
    have c4b0 : decide (x4_1 < (t279.length : Int)) = false := decide_eq_false c4
    clear c4
    replace H := Option.bind_eq_some_iff.mp H
    obtain ⟨t282, A280, H⟩ := H
    replace H : (some t282) = some r := H
    have A28 := Aside0.mk A280
    clear A280
    obtain rfl := Option.some.inj H
    obtain ⟨Ao29, co29, eo29⟩ := Kd.R_slice HO_3.out
    subst eo29
    go_wp2_with (first | ((with_reducible refine gate_callee (f := 63) rfl ?_); refine gL (some 36) Try.func63 #[.slice A0 l0.length c0] ?_; (with_reducible refine (spec_IsLine.calls k1 _ _ l0 t282 _ ?side1 ?side2 A28.out).mono ?_); (case side1 => repeat (first | exact (Kd.C_below HR0.out HB.out) | (with_reducible refine Kd.C_alloc ?_ _) | (with_reducible refine Kd.C_drewN ?_ _) | (with_reducible refine Kd.C_drew ?_))); (case side2 => exact HC0.out); rintro e w30 ⟨rfl, hb⟩; refine ⟨_, rfl, ?_⟩; replace HO_3 := Aside0.mk (Kd.R_below (by (with_reducible repeat (first | apply Kd.R_alloc | apply Kd.R_drewN | apply Kd.R_drew)); exact HO_3.out) hb); replace HB := sB0 HB hb; (try clear hb)))
    go_ret
    exact ⟨by first | rfl | (simp [errW_none, errW_some] <;> rfl) | (simp [*, errW_none, errW_some] <;> rfl), by repeat (first | (with_reducible first | exact HB.out | apply below_alloc | apply pw_below_drewN | apply below_drew1) | exact HB.out)⟩

end Go.Proofs.Ytomkdfpcckgajaa.PFnExactIsSimple
