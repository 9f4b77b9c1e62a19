/- What the functions of FnExactIsSimple compute, each with its proof: this session's own text. -/
import Derived.Test.YtomkdfpcckgajaaQFnExactIsSimplex0
import Derived.Test.YtomkdfpcckgajaaQFnExactIsSimplex3
import Derived.Test.YtomkdfpcckgajaaQFnExactIsSimplex4
import Derived.Test.YtomkdfpcckgajaaQFnExactIsSimplex6
namespace Go.Proofs.Ytomkdfpcckgajaa.PFnExactIsSimple
open Go.RowKit Go.Proofs.YtomkdfpcckgajaaW.PrintWords Go.Proofs.YtomkdfpcckgajaaW.PrintLast Go.Proofs.YtomkdfpcckgajaaW.PrintMore Go.Proofs.Ytomkdfpcckgajaa.Sh
attribute [local go_sem] max2_int min2_int max_two min_two max_three min_three max_four min_four   -- for this text's walks alone
set_option linter.unusedVariables false
set_option linter.unusedSimpArgs false

/-! ### impl_IsSimple: function 13 -/
mutual
def impl_IsSimple.l0 : Nat → List (S38) → Int → Int → Option (Bool)
 | 0, _, _, _ => none
 | k + 1, x3, x13, x14 => if x14 < x13 then (impl_IsSimple.l1 k x3 x14 x13 x14 x14 0) else (some true)
def impl_IsSimple.l1 : Nat → List (S38) → Int → Int → Int → Int → Int → Option (Bool)
 | 0, _, _, _, _, _, _ => none
 | k + 1, x3, x4, x13, x14, x17, x18 => if x18 < x17 then (if x18 = (wrap64 (x4 - 1)) then (if 0 ≤ x4 then (if x4 < (x3.length : Int) then (if 0 ≤ x18 then (if x18 < (x3.length : Int) then ((impl_HowMeet.f k ((rd_T38 x3 x4).f0.f0) ((rd_T38 x3 x4).f0.f1) ((rd_T38 x3 x4).f1.f0) ((rd_T38 x3 x4).f1.f1) ((rd_T38 x3 x18).f0.f0) ((rd_T38 x3 x18).f0.f1) ((rd_T38 x3 x18).f1.f0) ((rd_T38 x3 x18).f1.f1)).bind fun t182 => (if t182 = 1 then (impl_IsSimple.l1 k x3 x4 x13 x14 x17 (wrap64 (x18 + 1))) else (some false))) else (none)) else (none)) else (none)) else (none)) else (if 0 ≤ x4 then (if x4 < (x3.length : Int) then (if 0 ≤ x18 then (if x18 < (x3.length : Int) then ((impl_HowMeet.f k ((rd_T38 x3 x4).f0.f0) ((rd_T38 x3 x4).f0.f1) ((rd_T38 x3 x4).f1.f0) ((rd_T38 x3 x4).f1.f1) ((rd_T38 x3 x18).f0.f0) ((rd_T38 x3 x18).f0.f1) ((rd_T38 x3 x18).f1.f0) ((rd_T38 x3 x18).f1.f1)).bind fun t185 => (if t185 = 0 then (impl_IsSimple.l1 k x3 x4 x13 x14 x17 (wrap64 (x18 + 1))) else (some false))) else (none)) else (none)) else (none)) else (none))) else (impl_IsSimple.l0 k x3 x13 (wrap64 (x14 + 1)))
end
def impl_IsSimple.f (k : Nat) (l0 : List (S36)) : Option (Bool) := (impl_IsLine.f k l0).bind fun t176 => (if t176 = true then ((impl_SegmentsOf.f k l0).bind fun t177 => (impl_IsSimple.l0 k t177 (t177.length : Int) 0)) else (some false))
theorem impl_IsSimple.mono_l : ∀ k, (∀ y0 y1 y2, LeO (impl_IsSimple.l0 k y0 y1 y2) (impl_IsSimple.l0 (k + 1) y0 y1 y2)) ∧ (∀ y0 y1 y2 y3 y4 y5, LeO (impl_IsSimple.l1 k y0 y1 y2 y3 y4 y5) (impl_IsSimple.l1 (k + 1) y0 y1 y2 y3 y4 y5))
 | 0 => ⟨fun _ _ _ r h => by simp [impl_IsSimple.l0] at h, fun _ _ _ _ _ _ r h => by simp [impl_IsSimple.l1] at h⟩
 | k + 1 => by
  obtain ⟨ih0, ih1⟩ := impl_IsSimple.mono_l k
  refine ⟨?_, ?_⟩
  ·intro y0 y1 y2
   unfold impl_IsSimple.l0
   repeat' first
   | (with_reducible exact ih0 _ _ _)
   | (with_reducible exact ih1 _ _ _ _ _ _)
   | (with_reducible exact impl_HowMeet.mono _ _ _ _ _ _ _ _ _)
   | (with_reducible exact impl_IsLine.mono _ _)
   | (with_reducible exact impl_SegmentsOf.mono _ _)
   | (with_reducible exact LeO.refl _)
   | (with_reducible exact LeO.none _)
   | (with_reducible refine LeO.ite ?_ ?_)
   | (with_reducible refine LeO.bind ?_ (fun _ => ?_))
   | exact ih0 _ _ _
   | exact ih1 _ _ _ _ _ _
   | exact impl_HowMeet.mono _ _ _ _ _ _ _ _ _
   | exact impl_IsLine.mono _ _
   | exact impl_SegmentsOf.mono _ _
   | exact LeO.none _
   | refine LeO.ite ?_ ?_
   | refine LeO.bind ?_ (fun _ => ?_)
  ·intro y0 y1 y2 y3 y4 y5
   unfold impl_IsSimple.l1
   repeat' first
   | (with_reducible exact ih0 _ _ _)
   | (with_reducible exact ih1 _ _ _ _ _ _)
   | (with_reducible exact impl_HowMeet.mono _ _ _ _ _ _ _ _ _)
   | (with_reducible exact impl_IsLine.mono _ _)
   | (with_reducible exact impl_SegmentsOf.mono _ _)
   | (with_reducible exact LeO.refl _)
   | (with_reducible exact LeO.none _)
   | (with_reducible refine LeO.ite ?_ ?_)
   | (with_reducible refine LeO.bind ?_ (fun _ => ?_))
   | exact ih0 _ _ _
   | exact ih1 _ _ _ _ _ _
   | exact impl_HowMeet.mono _ _ _ _ _ _ _ _ _
   | exact impl_IsLine.mono _ _
   | exact impl_SegmentsOf.mono _ _
   | exact LeO.none _
   | refine LeO.ite ?_ ?_
   | refine LeO.bind ?_ (fun _ => ?_)
theorem impl_IsSimple.mono : ∀ a0 k, LeO (impl_IsSimple.f k a0) (impl_IsSimple.f (k + 1) a0) := by
 intro a0 k
 obtain ⟨ih0, ih1⟩ := impl_IsSimple.mono_l k
 unfold impl_IsSimple.f
 repeat' first
   | (with_reducible exact ih0 _ _ _)
   | (with_reducible exact ih1 _ _ _ _ _ _)
   | (with_reducible exact impl_HowMeet.mono _ _ _ _ _ _ _ _ _)
   | (with_reducible exact impl_IsLine.mono _ _)
   | (with_reducible exact impl_SegmentsOf.mono _ _)
   | (with_reducible exact LeO.refl _)
   | (with_reducible exact LeO.none _)
   | (with_reducible refine LeO.ite ?_ ?_)
   | (with_reducible refine LeO.bind ?_ (fun _ => ?_))
   | exact ih0 _ _ _
   | exact ih1 _ _ _ _ _ _
   | exact impl_HowMeet.mono _ _ _ _ _ _ _ _ _
   | exact impl_IsLine.mono _ _
   | exact impl_SegmentsOf.mono _ _
   | exact LeO.none _
   | refine LeO.ite ?_ ?_
   | refine LeO.bind ?_ (fun _ => ?_)
def impl_IsSimple.T13 : Bool × List (List Nat × List Nat) := (true, [([], []), ([], []), ([0, 1], [0, 1]), ([2], [2]), ([], []), ([], []), ([4, 5], [4, 5]), ([6], [6]), ([3, 7], [3, 7]), ([], []), ([8, 9], [8, 9])])
def impl_IsSimple.B13 : List Nat := [0, 0, 3, 7, 0, 0, 48, 112, 255, 0, 1023]
theorem impl_IsSimple.tab13 : rtab .any (opsOf Try.f13 13) = impl_IsSimple.T13 := by kernel_rfl
theorem impl_IsSimple.bits13 : waitsOk impl_IsSimple.T13.2 impl_IsSimple.B13 = true := by kernel_rfl
set_option maxHeartbeats 8000000 in
set_option maxRecDepth 100000 in
theorem impl_IsSimple.calls (k : Nat) (A0 : Option Addr) (c0 : Nat) (l0 : List (S36)) (r : Bool) (w : World) (hr0 : Kd.C k36 w A0 l0.length l0) (hc0 : l0.length ≤ c0) (h : impl_IsSimple.f k l0 = some r) :
  Calls Try.prog 13 #[.slice A0 l0.length c0] w fun e w' => e = .returned (.bool r) ∧ Below w.heap.size w w' := by
 have hu38 := Try.underlying38
 have HR0 := Aside0.mk hr0
 have HC0 := Aside0.mk hc0
 clear hr0 hc0
 have HB := Aside0.mk (Below.refl w.heap.size w)
 have H : ((impl_IsLine.f k l0).bind fun t176 => (if t176 = true then ((impl_SegmentsOf.f k l0).bind fun t177 => (impl_IsSimple.l0 k t177 (t177.length : Int) 0)) else (some false))) = some r := h
 clear h
 replace H := Option.bind_eq_some_iff.mp H
 obtain ⟨t176, A20, H⟩ := H
 replace H : (if t176 = true then ((impl_SegmentsOf.f k l0).bind fun t177 => (impl_IsSimple.l0 k t177 (t177.length : Int) 0)) else (some false)) = some r := H
 have A2 := Aside0.mk A20
 clear A20
 by_cases c3 : t176 = true
 ·subst c3
  have H1 : ((impl_SegmentsOf.f k l0).bind fun t177 => (impl_IsSimple.l0 k t177 (t177.length : Int) 0)) = some r := by rw [if_pos rfl] at H; exact H
  clear H
  have H := H1
  clear H1
  replace H := Option.bind_eq_some_iff.mp H
  obtain ⟨t177, A40, H⟩ := H
  replace H : (impl_IsSimple.l0 k t177 (t177.length : Int) 0) = some r := H
  have A4 := Aside0.mk A40
  clear A40
  have H' := Aside0.mk H
  clear H
  go_enter Try.func13, Try.ntmps13
  go_wp2_with (first | ((with_reducible refine gate_callee (f := 12) rfl ?_); refine gL (some 8) Try.func12 #[.slice A0 l0.length c0] ?_; (with_reducible refine (impl_IsLine.calls k _ _ l0 true _ ?side1 ?side2 A2.out).mono ?_); (case side1 => repeat (first | exact HR0.out | (with_reducible refine Kd.C_alloc ?_ _) | (with_reducible refine Kd.C_drewN ?_ _) | (with_reducible refine Kd.C_drew ?_))); (case side2 => exact HC0.out); rintro e w5 ⟨rfl, hb⟩; refine ⟨_, rfl, ?_⟩; replace HB := sB0 HB hb; (try clear hb)) | ((with_reducible refine gate_callee (f := 18) rfl ?_); refine gL (some 11) Try.func18 #[.slice A0 l0.length c0] ?_; (with_reducible refine (impl_SegmentsOf.calls k _ _ l0 t177 _ ?side1 ?side2 A4.out).mono ?_); (case side1 => repeat (first | exact (Kd.C_below HR0.out HB.out) | (with_reducible refine Kd.C_alloc ?_ _) | (with_reducible refine Kd.C_drewN ?_ _) | (with_reducible refine Kd.C_drew ?_))); (case side2 => exact HC0.out); rintro e w6 ⟨v178, rfl, ho0, hb⟩; refine ⟨_, rfl, ?_⟩; have HO179 := Aside0.mk (Kd.R_lower ho0 (below_size (by repeat (first | (with_reducible first | exact HB.out | apply below_alloc | apply pw_below_drewN | apply below_drew1) | exact HB.out)))); replace HB := sB0 HB hb; (try clear hb); (try clear ho0); obtain ⟨Ao7, co7, eo7⟩ := Kd.R_slice HO179.out; subst eo7))
  go_loopg [14] k (fun kq v14 w' => ∃ (x14_1 : Int), v14 = .int .i64 x14_1 ∧ Aside0 (impl_IsSimple.l0 kq t177 (t177.length : Int) x14_1 = some r) ∧ Aside0 (kq ≤ k) ∧ Aside0 (Kd.R k38 38 w' w.heap.size (fun _ => True) (.slice Ao7 t177.length co7) t177) ∧ Aside0 (Below w.heap.size w w'))
  case atStart => exact ⟨(0), (by first | rfl | (simp; done) | (simp [*]; done)), H', ⟨Nat.le_refl _⟩, ⟨by (with_reducible repeat (first | apply Kd.R_alloc | apply Kd.R_drewN | apply Kd.R_drew)); exact HO179.out⟩, ⟨by repeat (first | (with_reducible first | exact HB.out | apply below_alloc | apply pw_below_drewN | apply below_drew1) | exact HB.out)⟩⟩
  case round =>
   clear H'
   try clear c1
   try clear p2
   try clear c3
   obtain ⟨x14_1, rfl, HA, HK1, HO_3, HB⟩ := hrel
   cases gk with
   | zero => exact absurd HA.out (by simp [impl_IsSimple.l0])
   | succ k1 =>
    have H := HA.out
    clear HA
    simp only [impl_IsSimple.l0] at H
    by_cases c8 : x14_1 < (t177.length : Int)
    ·rw [if_pos c8] at H
     have c8b0 : decide (x14_1 < (t177.length : Int)) = true := decide_eq_true c8
     clear c8
     have H' := Aside0.mk H
     clear H
     go_wp2
     go_loopg [18] k1 (fun kq v18 w' => ∃ (x18_2 : Int), v18 = .int .i64 x18_2 ∧ Aside0 (impl_IsSimple.l1 kq t177 x14_1 (t177.length : Int) x14_1 x14_1 x18_2 = some r) ∧ Aside0 (kq ≤ k1) ∧ Aside0 (Kd.R k38 38 w' w.heap.size (fun _ => True) (.slice Ao7 t177.length co7) t177) ∧ Aside0 (Below w.heap.size w w'))
     case atStart => exact ⟨(0), (by first | rfl | (simp; done) | (simp [*]; done)), H', ⟨Nat.le_refl _⟩, ⟨by (with_reducible repeat (first | apply Kd.R_alloc | apply Kd.R_drewN | apply Kd.R_drew)); exact HO_3.out⟩, ⟨by repeat (first | (with_reducible first | exact HB.out | apply below_alloc | apply pw_below_drewN | apply below_drew1) | exact HB.out)⟩⟩
     case round =>
      clear H'
      try clear c1
      try clear p2
      try clear c3
      try clear c8
      try clear c8b0
      try clear p2
      obtain ⟨x18_2, rfl, HA, HK2, HO_3, HB⟩ := hrel
      cases gk with
      | zero => exact absurd HA.out (by simp [impl_IsSimple.l1])
      | succ k2 =>
       have H := HA.out
       clear HA
       simp only [impl_IsSimple.l1] at H
       by_cases c9 : x18_2 < x14_1
       ·rw [if_pos c9] at H
        have c9b0 : decide (x18_2 < x14_1) = true := decide_eq_true c9
        clear c9
        by_cases c10 : x18_2 = (wrap64 (x14_1 - 1))
        ·rw [if_pos c10] at H
         have c10b0 : (x18_2 == (wrap64 (x14_1 - 1))) = true := beq_iff_eq.mpr c10
         have c10b1 : (x18_2 != (wrap64 (x14_1 - 1))) = false := bne_eq_false_iff_eq.mpr c10
         clear c10
         by_cases c11 : 0 ≤ x14_1
         ·rw [if_pos c11] at H
          have c11b0 : decide (0 ≤ x14_1) = true := decide_eq_true c11
          clear c11
          by_cases c12 : x14_1 < (t177.length : Int)
          ·rw [if_pos c12] at H
           have c12b0 : decide (x14_1 < (t177.length : Int)) = true := decide_eq_true c12
           clear c12
           by_cases c13 : 0 ≤ x18_2
           ·rw [if_pos c13] at H
            have c13b0 : decide (0 ≤ x18_2) = true := decide_eq_true c13
            clear c13
            by_cases c14 : x18_2 < (t177.length : Int)
            ·rw [if_pos c14] at H
             have c14b0 : decide (x18_2 < (t177.length : Int)) = true := decide_eq_true c14
             clear c14
             replace H := Option.bind_eq_some_iff.mp H
             obtain ⟨t182, A150, H⟩ := H
             replace H : (if t182 = 1 then (impl_IsSimple.l1 k2 t177 x14_1 (t177.length : Int) x14_1 x14_1 (wrap64 (x18_2 + 1))) else (some false)) = some r := H
             have A15 := Aside0.mk A150
             clear A150
             by_cases c16 : t182 = 1
             ·rw [if_pos c16] at H
              have c16b0 : (t182 == 1) = true := beq_iff_eq.mpr c16
              have c16b1 : (t182 != 1) = false := bne_eq_false_iff_eq.mpr c16
              clear c16
              have H' := Aside0.mk H
              clear H
              try go_wp2
              replace HO_3 := Aside0.mk (Kd.R_drew HO_3.out)
              replace HB := Aside0.mk (below_drew1 HB.out)
              have p180 : 0 ≤ (x14_1 : Int) := of_decide_eq_true (by first | (with_reducible assumption) | assumption)
              have q180 : x14_1 < (t177.length : Int) := of_decide_eq_true (by first | (with_reducible assumption) | assumption)
              obtain ⟨ad180, e180, hx180_0, hx180_1, hx180_2, hx180_3⟩ := at_T38 (Kd.R_reads' HO_3.out).2.2 x14_1 p180 q180
              cases e180
              replace p180 := eq_true p180
              replace q180 := eq_true q180
              have p181 : 0 ≤ (x18_2 : Int) := of_decide_eq_true (by first | (with_reducible assumption) | assumption)
              have q181 : x18_2 < (t177.length : Int) := of_decide_eq_true (by first | (with_reducible assumption) | assumption)
              obtain ⟨ad181, e181, hx181_0, hx181_1, hx181_2, hx181_3⟩ := at_T38 (Kd.R_reads' HO_3.out).2.2 x18_2 p181 q181
              obtain rfl : ad180 = ad181 := (by injection e181)
              replace p181 := eq_true p181
              replace q181 := eq_true q181
              refine start_ (n := 11) (S := fun w' => w'.cell? (ad180.add ((x14_1).toNat * 4)) = some (.int .i64 ((rd_T38 t177 x14_1).f0.f0)) ∧ w'.cell? ⟨(ad180.add ((x14_1).toNat * 4)).block, (ad180.add ((x14_1).toNat * 4)).off + 1, none⟩ = some (.int .i64 ((rd_T38 t177 x14_1).f0.f1)) ∧ w'.cell? ⟨(ad180.add ((x14_1).toNat * 4)).block, (ad180.add ((x14_1).toNat * 4)).off + 2, none⟩ = some (.int .i64 ((rd_T38 t177 x14_1).f1.f0)) ∧ w'.cell? ⟨(ad180.add ((x14_1).toNat * 4)).block, (ad180.add ((x14_1).toNat * 4)).off + 3, none⟩ = some (.int .i64 ((rd_T38 t177 x14_1).f1.f1)) ∧ w'.cell? (ad180.add ((x18_2).toNat * 4)) = some (.int .i64 ((rd_T38 t177 x18_2).f0.f0)) ∧ w'.cell? ⟨(ad180.add ((x18_2).toNat * 4)).block, (ad180.add ((x18_2).toNat * 4)).off + 1, none⟩ = some (.int .i64 ((rd_T38 t177 x18_2).f0.f1)) ∧ w'.cell? ⟨(ad180.add ((x18_2).toNat * 4)).block, (ad180.add ((x18_2).toNat * 4)).off + 2, none⟩ = some (.int .i64 ((rd_T38 t177 x18_2).f1.f0)) ∧ w'.cell? ⟨(ad180.add ((x18_2).toNat * 4)).block, (ad180.add ((x18_2).toNat * 4)).off + 3, none⟩ = some (.int .i64 ((rd_T38 t177 x18_2).f1.f1))) (ds := []) #[false, false, false, false, false, false, false, false, false, false, false] (by kernel_rfl) rfl rfl ⟨hx180_0, hx180_1, hx180_2, hx180_3, hx181_0, hx181_1, hx181_2, hx181_3⟩ (fun hHeld => ?_); refine with_tabW impl_IsSimple.tab13 impl_IsSimple.bits13 (fun HT_ HW_ => ?_)
              generalize wr.drew = w17 at HO_3 HB hx180_0 hx180_1 hx180_2 hx180_3 hx181_0 hx181_1 hx181_2 hx181_3 hHeld ⊢
              refine pA HT_.out 0 25 ?_
              refine pA HT_.out 1 26 ?_
              refine pA HT_.out 2 27 ?_
              refine pA HT_.out 4 29 ?_
              refine pA HT_.out 5 30 ?_
              refine pA HT_.out 6 31 ?_
              refine pA HT_.out 9 34 ?_
              refine tA8 HT_.out HW_.out 3 28 hHeld ?_
              refine tA8 HT_.out HW_.out 7 32 hHeld ?_
              refine one_ (i := 8) (N := some 33) #[true, true, true, true, true, true, true, true, true, true, false] rfl rfl (one_of HT_.out (by kernel_rfl)) (by decide) (fun K hK => ?_)
              refine gS Try.func25 #[.agg #[.int .i64 ((rd_T38 t177 x14_1).f0.f0), .int .i64 ((rd_T38 t177 x14_1).f0.f1), .int .i64 ((rd_T38 t177 x14_1).f1.f0), .int .i64 ((rd_T38 t177 x14_1).f1.f1)], .agg #[.int .i64 ((rd_T38 t177 x18_2).f0.f0), .int .i64 ((rd_T38 t177 x18_2).f0.f1), .int .i64 ((rd_T38 t177 x18_2).f1.f0), .int .i64 ((rd_T38 t177 x18_2).f1.f1)]] ?_
              with_reducible refine (impl_HowMeet.calls k2 ((rd_T38 t177 x14_1).f0.f0) ((rd_T38 t177 x14_1).f0.f1) ((rd_T38 t177 x14_1).f1.f0) ((rd_T38 t177 x14_1).f1.f1) ((rd_T38 t177 x18_2).f0.f0) ((rd_T38 t177 x18_2).f0.f1) ((rd_T38 t177 x18_2).f1.f0) ((rd_T38 t177 x18_2).f1.f1) t182 _ A15.out).mono ?_
              rintro e w18 ⟨rfl, hb⟩
              have HS0_ := (hb.cell (World.block_lt_of_cell? _ _ (hHeld.1))).trans (hHeld.1)
              have HS1_ := (hb.cell (World.block_lt_of_cell? _ _ (hHeld.2.1))).trans (hHeld.2.1)
              have HS2_ := (hb.cell (World.block_lt_of_cell? _ _ (hHeld.2.2.1))).trans (hHeld.2.2.1)
              have HS3_ := (hb.cell (World.block_lt_of_cell? _ _ (hHeld.2.2.2.1))).trans (hHeld.2.2.2.1)
              have HS4_ := (hb.cell (World.block_lt_of_cell? _ _ (hHeld.2.2.2.2.1))).trans (hHeld.2.2.2.2.1)
              have HS5_ := (hb.cell (World.block_lt_of_cell? _ _ (hHeld.2.2.2.2.2.1))).trans (hHeld.2.2.2.2.2.1)
              have HS6_ := (hb.cell (World.block_lt_of_cell? _ _ (hHeld.2.2.2.2.2.2.1))).trans (hHeld.2.2.2.2.2.2.1)
              have HS7_ := (hb.cell (World.block_lt_of_cell? _ _ (hHeld.2.2.2.2.2.2.2))).trans (hHeld.2.2.2.2.2.2.2)
              refine ⟨_, rfl, ?_⟩
              replace HO_3 := Aside0.mk (Kd.R_below (by (with_reducible repeat (first | apply Kd.R_alloc | apply Kd.R_drewN | apply Kd.R_drew)); exact HO_3.out) hb)
              replace HB := sB0 HB hb
              (try clear hb)
              (try clear hb2)
              (try clear hk)
              (try clear hi)
              refine hK.out _ _ ⟨HS0_, HS1_, HS2_, HS3_, HS4_, HS5_, HS6_, HS7_⟩ (fun hHeld => ?_)
              clear hK K
              refine norm_ (a' := ?_) ?_ ?_
              rotate_left
              ·show Act.put _ (some 33) _ = _
               simp only [Act.put, List.setIfInBounds_toArray, List.set_cons_zero, List.set_cons_succ, i64_w, i32_w]
               rfl
              refine pA HT_.out 10 35 ?_
              refine done_ (done_of HT_.out (by kernel_rfl)) ?_
              try go_wp2
              go_roundg k2
              case measure => have := HK1.out; have := HK2.out; omega
              case rel => exact ⟨(wrap64 (x18_2 + 1)), (by first | rfl | (simp; done) | (simp [*]; done)), H', ⟨by have := HK1.out; have := HK2.out; omega⟩, ⟨by (with_reducible repeat (first | apply Kd.R_alloc | apply Kd.R_drewN | apply Kd.R_drew)); exact HO_3.out⟩, ⟨by repeat (first | (with_reducible first | exact HB.out | apply below_alloc | apply pw_below_drewN | apply below_drew1) | exact HB.out)⟩⟩
             ·rw [if_neg c16] at H
              have c16b0 : (t182 == 1) = false := beq_eq_false_iff_ne.mpr c16
              have c16b1 : (t182 != 1) = true := bne_iff_ne.mpr c16
              obtain rfl := Option.some.inj H
              try go_wp2
              replace HO_3 := Aside0.mk (Kd.R_drew HO_3.out)
              replace HB := Aside0.mk (below_drew1 HB.out)
              have p180 : 0 ≤ (x14_1 : Int) := of_decide_eq_true (by first | (with_reducible assumption) | assumption)
              have q180 : x14_1 < (t177.length : Int) := of_decide_eq_true (by first | (with_reducible assumption) | assumption)
              obtain ⟨ad180, e180, hx180_0, hx180_1, hx180_2, hx180_3⟩ := at_T38 (Kd.R_reads' HO_3.out).2.2 x14_1 p180 q180
              cases e180
              replace p180 := eq_true p180
              replace q180 := eq_true q180
              have p181 : 0 ≤ (x18_2 : Int) := of_decide_eq_true (by first | (with_reducible assumption) | assumption)
              have q181 : x18_2 < (t177.length : Int) := of_decide_eq_true (by first | (with_reducible assumption) | assumption)
              obtain ⟨ad181, e181, hx181_0, hx181_1, hx181_2, hx181_3⟩ := at_T38 (Kd.R_reads' HO_3.out).2.2 x18_2 p181 q181
              obtain rfl : ad180 = ad181 := (by injection e181)
              replace p181 := eq_true p181
              replace q181 := eq_true q181
              refine start_ (n := 11) (S := fun w' => w'.cell? (ad180.add ((x14_1).toNat * 4)) = some (.int .i64 ((rd_T38 t177 x14_1).f0.f0)) ∧ w'.cell? ⟨(ad180.add ((x14_1).toNat * 4)).block, (ad180.add ((x14_1).toNat * 4)).off + 1, none⟩ = some (.int .i64 ((rd_T38 t177 x14_1).f0.f1)) ∧ w'.cell? ⟨(ad180.add ((x14_1).toNat * 4)).block, (ad180.add ((x14_1).toNat * 4)).off + 2, none⟩ = some (.int .i64 ((rd_T38 t177 x14_1).f1.f0)) ∧ w'.cell? ⟨(ad180.add ((x14_1).toNat * 4)).block, (ad180.add ((x14_1).toNat * 4)).off + 3, none⟩ = some (.int .i64 ((rd_T38 t177 x14_1).f1.f1)) ∧ w'.cell? (ad180.add ((x18_2).toNat * 4)) = some (.int .i64 ((rd_T38 t177 x18_2).f0.f0)) ∧ w'.cell? ⟨(ad180.add ((x18_2).toNat * 4)).block, (ad180.add ((x18_2).toNat * 4)).off + 1, none⟩ = some (.int .i64 ((rd_T38 t177 x18_2).f0.f1)) ∧ w'.cell? ⟨(ad180.add ((x18_2).toNat * 4)).block, (ad180.add ((x18_2).toNat * 4)).off + 2, none⟩ = some (.int .i64 ((rd_T38 t177 x18_2).f1.f0)) ∧ w'.cell? ⟨(ad180.add ((x18_2).toNat * 4)).block, (ad180.add ((x18_2).toNat * 4)).off + 3, none⟩ = some (.int .i64 ((rd_T38 t177 x18_2).f1.f1))) (ds := []) #[false, false, false, false, false, false, false, false, false, false, false] (by kernel_rfl) rfl rfl ⟨hx180_0, hx180_1, hx180_2, hx180_3, hx181_0, hx181_1, hx181_2, hx181_3⟩ (fun hHeld => ?_); refine with_tabW impl_IsSimple.tab13 impl_IsSimple.bits13 (fun HT_ HW_ => ?_)
              generalize wr.drew = w19 at HO_3 HB hx180_0 hx180_1 hx180_2 hx180_3 hx181_0 hx181_1 hx181_2 hx181_3 hHeld ⊢
              refine pA HT_.out 0 25 ?_
              refine pA HT_.out 1 26 ?_
              refine pA HT_.out 2 27 ?_
              refine pA HT_.out 4 29 ?_
              refine pA HT_.out 5 30 ?_
              refine pA HT_.out 6 31 ?_
              refine pA HT_.out 9 34 ?_
              refine tA8 HT_.out HW_.out 3 28 hHeld ?_
              refine tA8 HT_.out HW_.out 7 32 hHeld ?_
              refine one_ (i := 8) (N := some 33) #[true, true, true, true, true, true, true, true, true, true, false] rfl rfl (one_of HT_.out (by kernel_rfl)) (by decide) (fun K hK => ?_)
              refine gS Try.func25 #[.agg #[.int .i64 ((rd_T38 t177 x14_1).f0.f0), .int .i64 ((rd_T38 t177 x14_1).f0.f1), .int .i64 ((rd_T38 t177 x14_1).f1.f0), .int .i64 ((rd_T38 t177 x14_1).f1.f1)], .agg #[.int .i64 ((rd_T38 t177 x18_2).f0.f0), .int .i64 ((rd_T38 t177 x18_2).f0.f1), .int .i64 ((rd_T38 t177 x18_2).f1.f0), .int .i64 ((rd_T38 t177 x18_2).f1.f1)]] ?_
              with_reducible refine (impl_HowMeet.calls k2 ((rd_T38 t177 x14_1).f0.f0) ((rd_T38 t177 x14_1).f0.f1) ((rd_T38 t177 x14_1).f1.f0) ((rd_T38 t177 x14_1).f1.f1) ((rd_T38 t177 x18_2).f0.f0) ((rd_T38 t177 x18_2).f0.f1) ((rd_T38 t177 x18_2).f1.f0) ((rd_T38 t177 x18_2).f1.f1) t182 _ A15.out).mono ?_
              rintro e w20 ⟨rfl, hb⟩
              have HS0_ := (hb.cell (World.block_lt_of_cell? _ _ (hHeld.1))).trans (hHeld.1)
              have HS1_ := (hb.cell (World.block_lt_of_cell? _ _ (hHeld.2.1))).trans (hHeld.2.1)
              have HS2_ := (hb.cell (World.block_lt_of_cell? _ _ (hHeld.2.2.1))).trans (hHeld.2.2.1)
              have HS3_ := (hb.cell (World.block_lt_of_cell? _ _ (hHeld.2.2.2.1))).trans (hHeld.2.2.2.1)
              have HS4_ := (hb.cell (World.block_lt_of_cell? _ _ (hHeld.2.2.2.2.1))).trans (hHeld.2.2.2.2.1)
              have HS5_ := (hb.cell (World.block_lt_of_cell? _ _ (hHeld.2.2.2.2.2.1))).trans (hHeld.2.2.2.2.2.1)
              have HS6_ := (hb.cell (World.block_lt_of_cell? _ _ (hHeld.2.2.2.2.2.2.1))).trans (hHeld.2.2.2.2.2.2.1)
              have HS7_ := (hb.cell (World.block_lt_of_cell? _ _ (hHeld.2.2.2.2.2.2.2))).trans (hHeld.2.2.2.2.2.2.2)
              refine ⟨_, rfl, ?_⟩
              replace HO_3 := Aside0.mk (Kd.R_below (by (with_reducible repeat (first | apply Kd.R_alloc | apply Kd.R_drewN | apply Kd.R_drew)); exact HO_3.out) hb)
              replace HB := sB0 HB hb
              (try clear hb)
              (try clear hb2)
              (try clear hk)
              (try clear hi)
              refine hK.out _ _ ⟨HS0_, HS1_, HS2_, HS3_, HS4_, HS5_, HS6_, HS7_⟩ (fun hHeld => ?_)
              clear hK K
              refine norm_ (a' := ?_) ?_ ?_
              rotate_left
              ·show Act.put _ (some 33) _ = _
               simp only [Act.put, List.setIfInBounds_toArray, List.set_cons_zero, List.set_cons_succ, i64_w, i32_w]
               rfl
              refine pA HT_.out 10 35 ?_
              refine done_ (done_of HT_.out (by kernel_rfl)) ?_
              try go_wp2
              go_ret
              exact ⟨by first | rfl | (simp [errW_none, errW_some] <;> rfl) | (simp [*, errW_none, errW_some] <;> rfl), by repeat (first | (with_reducible first | exact HB.out | apply below_alloc | apply pw_below_drewN | apply below_drew1) | exact HB.out)⟩
            ·rw [if_neg c14] at H
             exact absurd H (by simp)
           ·rw [if_neg c13] at H
            exact absurd H (by simp)
          ·rw [if_neg c12] at H
           exact absurd H (by simp)
         ·rw [if_neg c11] at H
          exact absurd H (by simp)
        ·rw [if_neg c10] at H
         have c10b0 : (x18_2 == (wrap64 (x14_1 - 1))) = false := beq_eq_false_iff_ne.mpr c10
         have c10b1 : (x18_2 != (wrap64 (x14_1 - 1))) = true := bne_iff_ne.mpr c10
         by_cases c21 : 0 ≤ x14_1
         ·rw [if_pos c21] at H
          have c21b0 : decide (0 ≤ x14_1) = true := decide_eq_true c21
          clear c21
          by_cases c22 : x14_1 < (t177.length : Int)
          ·rw [if_pos c22] at H
           have c22b0 : decide (x14_1 < (t177.length : Int)) = true := decide_eq_true c22
           clear c22
           by_cases c23 : 0 ≤ x18_2
           ·rw [if_pos c23] at H
            have c23b0 : decide (0 ≤ x18_2) = true := decide_eq_true c23
            clear c23
            by_cases c24 : x18_2 < (t177.length : Int)
            ·rw [if_pos c24] at H
             have c24b0 : decide (x18_2 < (t177.length : Int)) = true := decide_eq_true c24
             clear c24
             replace H := Option.bind_eq_some_iff.mp H
             obtain ⟨t185, A250, H⟩ := H
             replace H : (if t185 = 0 then (impl_IsSimple.l1 k2 t177 x14_1 (t177.length : Int) x14_1 x14_1 (wrap64 (x18_2 + 1))) else (some false)) = some r := H
             have A25 := Aside0.mk A250
             clear A250
             by_cases c26 : t185 = 0
             ·rw [if_pos c26] at H
              have c26b0 : (t185 == 0) = true := beq_iff_eq.mpr c26
              have c26b1 : (t185 != 0) = false := bne_eq_false_iff_eq.mpr c26
              clear c26
              have H' := Aside0.mk H
              clear H
              try go_wp2
              replace HO_3 := Aside0.mk (Kd.R_drew HO_3.out)
              replace HB := Aside0.mk (below_drew1 HB.out)
              have p183 : 0 ≤ (x14_1 : Int) := of_decide_eq_true (by first | (with_reducible assumption) | assumption)
              have q183 : x14_1 < (t177.length : Int) := of_decide_eq_true (by first | (with_reducible assumption) | assumption)
              obtain ⟨ad183, e183, hx183_0, hx183_1, hx183_2, hx183_3⟩ := at_T38 (Kd.R_reads' HO_3.out).2.2 x14_1 p183 q183
              cases e183
              replace p183 := eq_true p183
              replace q183 := eq_true q183
              have p184 : 0 ≤ (x18_2 : Int) := of_decide_eq_true (by first | (with_reducible assumption) | assumption)
              have q184 : x18_2 < (t177.length : Int) := of_decide_eq_true (by first | (with_reducible assumption) | assumption)
              obtain ⟨ad184, e184, hx184_0, hx184_1, hx184_2, hx184_3⟩ := at_T38 (Kd.R_reads' HO_3.out).2.2 x18_2 p184 q184
              obtain rfl : ad183 = ad184 := (by injection e184)
              replace p184 := eq_true p184
              replace q184 := eq_true q184
              refine start_ (n := 11) (S := fun w' => w'.cell? (ad183.add ((x14_1).toNat * 4)) = some (.int .i64 ((rd_T38 t177 x14_1).f0.f0)) ∧ w'.cell? ⟨(ad183.add ((x14_1).toNat * 4)).block, (ad183.add ((x14_1).toNat * 4)).off + 1, none⟩ = some (.int .i64 ((rd_T38 t177 x14_1).f0.f1)) ∧ w'.cell? ⟨(ad183.add ((x14_1).toNat * 4)).block, (ad183.add ((x14_1).toNat * 4)).off + 2, none⟩ = some (.int .i64 ((rd_T38 t177 x14_1).f1.f0)) ∧ w'.cell? ⟨(ad183.add ((x14_1).toNat * 4)).block, (ad183.add ((x14_1).toNat * 4)).off + 3, none⟩ = some (.int .i64 ((rd_T38 t177 x14_1).f1.f1)) ∧ w'.cell? (ad183.add ((x18_2).toNat * 4)) = some (.int .i64 ((rd_T38 t177 x18_2).f0.f0)) ∧ w'.cell? ⟨(ad183.add ((x18_2).toNat * 4)).block, (ad183.add ((x18_2).toNat * 4)).off + 1, none⟩ = some (.int .i64 ((rd_T38 t177 x18_2).f0.f1)) ∧ w'.cell? ⟨(ad183.add ((x18_2).toNat * 4)).block, (ad183.add ((x18_2).toNat * 4)).off + 2, none⟩ = some (.int .i64 ((rd_T38 t177 x18_2).f1.f0)) ∧ w'.cell? ⟨(ad183.add ((x18_2).toNat * 4)).block, (ad183.add ((x18_2).toNat * 4)).off + 3, none⟩ = some (.int .i64 ((rd_T38 t177 x18_2).f1.f1))) (ds := []) #[false, false, false, false, false, false, false, false, false, false, false] (by kernel_rfl) rfl rfl ⟨hx183_0, hx183_1, hx183_2, hx183_3, hx184_0, hx184_1, hx184_2, hx184_3⟩ (fun hHeld => ?_); refine with_tabW impl_IsSimple.tab13 impl_IsSimple.bits13 (fun HT_ HW_ => ?_)
              generalize wr.drew = w27 at HO_3 HB hx183_0 hx183_1 hx183_2 hx183_3 hx184_0 hx184_1 hx184_2 hx184_3 hHeld ⊢
              refine pA HT_.out 0 25 ?_
              refine pA HT_.out 1 26 ?_
              refine pA HT_.out 2 27 ?_
              refine pA HT_.out 4 29 ?_
              refine pA HT_.out 5 30 ?_
              refine pA HT_.out 6 31 ?_
              refine pA HT_.out 9 34 ?_
              refine tA8 HT_.out HW_.out 3 28 hHeld ?_
              refine tA8 HT_.out HW_.out 7 32 hHeld ?_
              refine one_ (i := 8) (N := some 33) #[true, true, true, true, true, true, true, true, true, true, false] rfl rfl (one_of HT_.out (by kernel_rfl)) (by decide) (fun K hK => ?_)
              refine gS Try.func25 #[.agg #[.int .i64 ((rd_T38 t177 x14_1).f0.f0), .int .i64 ((rd_T38 t177 x14_1).f0.f1), .int .i64 ((rd_T38 t177 x14_1).f1.f0), .int .i64 ((rd_T38 t177 x14_1).f1.f1)], .agg #[.int .i64 ((rd_T38 t177 x18_2).f0.f0), .int .i64 ((rd_T38 t177 x18_2).f0.f1), .int .i64 ((rd_T38 t177 x18_2).f1.f0), .int .i64 ((rd_T38 t177 x18_2).f1.f1)]] ?_
              with_reducible refine (impl_HowMeet.calls k2 ((rd_T38 t177 x14_1).f0.f0) ((rd_T38 t177 x14_1).f0.f1) ((rd_T38 t177 x14_1).f1.f0) ((rd_T38 t177 x14_1).f1.f1) ((rd_T38 t177 x18_2).f0.f0) ((rd_T38 t177 x18_2).f0.f1) ((rd_T38 t177 x18_2).f1.f0) ((rd_T38 t177 x18_2).f1.f1) t185 _ A25.out).mono ?_
              rintro e w28 ⟨rfl, hb⟩
              have HS0_ := (hb.cell (World.block_lt_of_cell? _ _ (hHeld.1))).trans (hHeld.1)
              have HS1_ := (hb.cell (World.block_lt_of_cell? _ _ (hHeld.2.1))).trans (hHeld.2.1)
              have HS2_ := (hb.cell (World.block_lt_of_cell? _ _ (hHeld.2.2.1))).trans (hHeld.2.2.1)
              have HS3_ := (hb.cell (World.block_lt_of_cell? _ _ (hHeld.2.2.2.1))).trans (hHeld.2.2.2.1)
              have HS4_ := (hb.cell (World.block_lt_of_cell? _ _ (hHeld.2.2.2.2.1))).trans (hHeld.2.2.2.2.1)
              have HS5_ := (hb.cell (World.block_lt_of_cell? _ _ (hHeld.2.2.2.2.2.1))).trans (hHeld.2.2.2.2.2.1)
              have HS6_ := (hb.cell (World.block_lt_of_cell? _ _ (hHeld.2.2.2.2.2.2.1))).trans (hHeld.2.2.2.2.2.2.1)
              have HS7_ := (hb.cell (World.block_lt_of_cell? _ _ (hHeld.2.2.2.2.2.2.2))).trans (hHeld.2.2.2.2.2.2.2)
              refine ⟨_, rfl, ?_⟩
              replace HO_3 := Aside0.mk (Kd.R_below (by (with_reducible repeat (first | apply Kd.R_alloc | apply Kd.R_drewN | apply Kd.R_drew)); exact HO_3.out) hb)
              replace HB := sB0 HB hb
              (try clear hb)
              (try clear hb2)
              (try clear hk)
              (try clear hi)
              refine hK.out _ _ ⟨HS0_, HS1_, HS2_, HS3_, HS4_, HS5_, HS6_, HS7_⟩ (fun hHeld => ?_)
              clear hK K
              refine norm_ (a' := ?_) ?_ ?_
              rotate_left
              ·show Act.put _ (some 33) _ = _
               simp only [Act.put, List.setIfInBounds_toArray, List.set_cons_zero, List.set_cons_succ, i64_w, i32_w]
               rfl
              refine pA HT_.out 10 35 ?_
              refine done_ (done_of HT_.out (by kernel_rfl)) ?_
              try go_wp2
              go_roundg k2
              case measure => have := HK1.out; have := HK2.out; omega
              case rel => exact ⟨(wrap64 (x18_2 + 1)), (by first | rfl | (simp; done) | (simp [*]; done)), H', ⟨by have := HK1.out; have := HK2.out; omega⟩, ⟨by (with_reducible repeat (first | apply Kd.R_alloc | apply Kd.R_drewN | apply Kd.R_drew)); exact HO_3.out⟩, ⟨by repeat (first | (with_reducible first | exact HB.out | apply below_alloc | apply pw_below_drewN | apply below_drew1) | exact HB.out)⟩⟩
             ·rw [if_neg c26] at H
              have c26b0 : (t185 == 0) = false := beq_eq_false_iff_ne.mpr c26
              have c26b1 : (t185 != 0) = true := bne_iff_ne.mpr c26
              obtain rfl := Option.some.inj H
              try go_wp2
              replace HO_3 := Aside0.mk (Kd.R_drew HO_3.out)
              replace HB := Aside0.mk (below_drew1 HB.out)
              have p183 : 0 ≤ (x14_1 : Int) := of_decide_eq_true (by first | (with_reducible assumption) | assumption)
              have q183 : x14_1 < (t177.length : Int) := of_decide_eq_true (by first | (with_reducible assumption) | assumption)
              obtain ⟨ad183, e183, hx183_0, hx183_1, hx183_2, hx183_3⟩ := at_T38 (Kd.R_reads' HO_3.out).2.2 x14_1 p183 q183
              cases e183
              replace p183 := eq_true p183
              replace q183 := eq_true q183
              have p184 : 0 ≤ (x18_2 : Int) := of_decide_eq_true (by first | (with_reducible assumption) | assumption)
              have q184 : x18_2 < (t177.length : Int) := of_decide_eq_true (by first | (with_reducible assumption) | assumption)
              obtain ⟨ad184, e184, hx184_0, hx184_1, hx184_2, hx184_3⟩ := at_T38 (Kd.R_reads' HO_3.out).2.2 x18_2 p184 q184
              obtain rfl : ad183 = ad184 := (by injection e184)
              replace p184 := eq_true p184
              replace q184 := eq_true q184
              refine start_ (n := 11) (S := fun w' => w'.cell? (ad183.add ((x14_1).toNat * 4)) = some (.int .i64 ((rd_T38 t177 x14_1).f0.f0)) ∧ w'.cell? ⟨(ad183.add ((x14_1).toNat * 4)).block, (ad183.add ((x14_1).toNat * 4)).off + 1, none⟩ = some (.int .i64 ((rd_T38 t177 x14_1).f0.f1)) ∧ w'.cell? ⟨(ad183.add ((x14_1).toNat * 4)).block, (ad183.add ((x14_1).toNat * 4)).off + 2, none⟩ = some (.int .i64 ((rd_T38 t177 x14_1).f1.f0)) ∧ w'.cell? ⟨(ad183.add ((x14_1).toNat * 4)).block, (ad183.add ((x14_1).toNat * 4)).off + 3, none⟩ = some (.int .i64 ((rd_T38 t177 x14_1).f1.f1)) ∧ w'.cell? (ad183.add ((x18_2).toNat * 4)) = some (.int .i64 ((rd_T38 t177 x18_2).f0.f0)) ∧ w'.cell? ⟨(ad183.add ((x18_2).toNat * 4)).block, (ad183.add ((x18_2).toNat * 4)).off + 1, none⟩ = some (.int .i64 ((rd_T38 t177 x18_2).f0.f1)) ∧ w'.cell? ⟨(ad183.add ((x18_2).toNat * 4)).block, (ad183.add ((x18_2).toNat * 4)).off + 2, none⟩ = some (.int .i64 ((rd_T38 t177 x18_2).f1.f0)) ∧ w'.cell? ⟨(ad183.add ((x18_2).toNat * 4)).block, (ad183.add ((x18_2).toNat * 4)).off + 3, none⟩ = some (.int .i64 ((rd_T38 t177 x18_2).f1.f1))) (ds := []) #[false, false, false, false, false, false, false, false, false, false, false] (by kernel_rfl) rfl rfl ⟨hx183_0, hx183_1, hx183_2, hx183_3, hx184_0, hx184_1, hx184_2, hx184_3⟩ (fun hHeld => ?_); refine with_tabW impl_IsSimple.tab13 impl_IsSimple.bits13 (fun HT_ HW_ => ?_)
              generalize wr.drew = w29 at HO_3 HB hx183_0 hx183_1 hx183_2 hx183_3 hx184_0 hx184_1 hx184_2 hx184_3 hHeld ⊢
              refine pA HT_.out 0 25 ?_
              refine pA HT_.out 1 26 ?_
              refine pA HT_.out 2 27 ?_
              refine pA HT_.out 4 29 ?_
              refine pA HT_.out 5 30 ?_
              refine pA HT_.out 6 31 ?_
              refine pA HT_.out 9 34 ?_
              refine tA8 HT_.out HW_.out 3 28 hHeld ?_
              refine tA8 HT_.out HW_.out 7 32 hHeld ?_
              refine one_ (i := 8) (N := some 33) #[true, true, true, true, true, true, true, true, true, true, false] rfl rfl (one_of HT_.out (by kernel_rfl)) (by decide) (fun K hK => ?_)
              refine gS Try.func25 #[.agg #[.int .i64 ((rd_T38 t177 x14_1).f0.f0), .int .i64 ((rd_T38 t177 x14_1).f0.f1), .int .i64 ((rd_T38 t177 x14_1).f1.f0), .int .i64 ((rd_T38 t177 x14_1).f1.f1)], .agg #[.int .i64 ((rd_T38 t177 x18_2).f0.f0), .int .i64 ((rd_T38 t177 x18_2).f0.f1), .int .i64 ((rd_T38 t177 x18_2).f1.f0), .int .i64 ((rd_T38 t177 x18_2).f1.f1)]] ?_
              with_reducible refine (impl_HowMeet.calls k2 ((rd_T38 t177 x14_1).f0.f0) ((rd_T38 t177 x14_1).f0.f1) ((rd_T38 t177 x14_1).f1.f0) ((rd_T38 t177 x14_1).f1.f1) ((rd_T38 t177 x18_2).f0.f0) ((rd_T38 t177 x18_2).f0.f1) ((rd_T38 t177 x18_2).f1.f0) ((rd_T38 t177 x18_2).f1.f1) t185 _ A25.out).mono ?_
              rintro e w30 ⟨rfl, hb⟩
              have HS0_ := (hb.cell (World.block_lt_of_cell? _ _ (hHeld.1))).trans (hHeld.1)
              have HS1_ := (hb.cell (World.block_lt_of_cell? _ _ (hHeld.2.1))).trans (hHeld.2.1)
              have HS2_ := (hb.cell (World.block_lt_of_cell? _ _ (hHeld.2.2.1))).trans (hHeld.2.2.1)
              have HS3_ := (hb.cell (World.block_lt_of_cell? _ _ (hHeld.2.2.2.1))).trans (hHeld.2.2.2.1)
              have HS4_ := (hb.cell (World.block_lt_of_cell? _ _ (hHeld.2.2.2.2.1))).trans (hHeld.2.2.2.2.1)
              have HS5_ := (hb.cell (World.block_lt_of_cell? _ _ (hHeld.2.2.2.2.2.1))).trans (hHeld.2.2.2.2.2.1)
              have HS6_ := (hb.cell (World.block_lt_of_cell? _ _ (hHeld.2.2.2.2.2.2.1))).trans (hHeld.2.2.2.2.2.2.1)
              have HS7_ := (hb.cell (World.block_lt_of_cell? _ _ (hHeld.2.2.2.2.2.2.2))).trans (hHeld.2.2.2.2.2.2.2)
              refine ⟨_, rfl, ?_⟩
              replace HO_3 := Aside0.mk (Kd.R_below (by (with_reducible repeat (first | apply Kd.R_alloc | apply Kd.R_drewN | apply Kd.R_drew)); exact HO_3.out) hb)
              replace HB := sB0 HB hb
              (try clear hb)
              (try clear hb2)
              (try clear hk)
              (try clear hi)
              refine hK.out _ _ ⟨HS0_, HS1_, HS2_, HS3_, HS4_, HS5_, HS6_, HS7_⟩ (fun hHeld => ?_)
              clear hK K
              refine norm_ (a' := ?_) ?_ ?_
              rotate_left
              ·show Act.put _ (some 33) _ = _
               simp only [Act.put, List.setIfInBounds_toArray, List.set_cons_zero, List.set_cons_succ, i64_w, i32_w]
               rfl
              refine pA HT_.out 10 35 ?_
              refine done_ (done_of HT_.out (by kernel_rfl)) ?_
              try go_wp2
              go_ret
              exact ⟨by first | rfl | (simp [errW_none, errW_some] <;> rfl) | (simp [*, errW_none, errW_some] <;> rfl), by repeat (first | (with_reducible first | exact HB.out | apply below_alloc | apply pw_below_drewN | apply below_drew1) | exact HB.out)⟩
            ·rw [if_neg c24] at H
             exact absurd H (by simp)
           ·rw [if_neg c23] at H
            exact absurd H (by simp)
          ·rw [if_neg c22] at H
           exact absurd H (by simp)
         ·rw [if_neg c21] at H
          exact absurd H (by simp)
       ·rw [if_neg c9] at H
        have c9b0 : decide (x18_2 < x14_1) = false := decide_eq_false c9
        clear c9
        have H' := Aside0.mk H
        clear H
        go_wp2
        go_roundg k2
        case measure => have := HK1.out; have := HK2.out; omega
        case rel => exact ⟨(wrap64 (x14_1 + 1)), (by first | rfl | (simp; done) | (simp [*]; done)), H', ⟨by have := HK1.out; have := HK2.out; omega⟩, ⟨by (with_reducible repeat (first | apply Kd.R_alloc | apply Kd.R_drewN | apply Kd.R_drew)); exact HO_3.out⟩, ⟨by repeat (first | (with_reducible first | exact HB.out | apply below_alloc | apply pw_below_drewN | apply below_drew1) | exact HB.out)⟩⟩
    ·rw [if_neg c8] at H
     have c8b0 : decide (x14_1 < (t177.length : Int)) = false := decide_eq_false c8
     clear c8
     obtain rfl := Option.some.inj H
     go_wp2
     go_ret
     exact ⟨by first | rfl | (simp [errW_none, errW_some] <;> rfl) | (simp [*, errW_none, errW_some] <;> rfl), by repeat (first | (with_reducible first | exact HB.out | apply below_alloc | apply pw_below_drewN | apply below_drew1) | exact HB.out)⟩
 ·replace c3 := Bool.eq_false_iff.mpr c3
  subst c3
  have H1 : (some false) = some r := by rw [if_neg (show ¬ (false = true) by decide)] at H; exact H
  clear H
  have H := H1
  clear H1
  obtain rfl := Option.some.inj H
  go_enter Try.func13, Try.ntmps13
  go_wp2_with (first | ((with_reducible refine gate_callee (f := 12) rfl ?_); refine gL (some 8) Try.func12 #[.slice A0 l0.length c0] ?_; (with_reducible refine (impl_IsLine.calls k _ _ l0 false _ ?side1 ?side2 A2.out).mono ?_); (case side1 => repeat (first | exact HR0.out | (with_reducible refine Kd.C_alloc ?_ _) | (with_reducible refine Kd.C_drewN ?_ _) | (with_reducible refine Kd.C_drew ?_))); (case side2 => exact HC0.out); rintro e w31 ⟨rfl, hb⟩; refine ⟨_, rfl, ?_⟩; replace HB := sB0 HB hb; (try clear hb)))
  go_ret
  exact ⟨by first | rfl | (simp [errW_none, errW_some] <;> rfl) | (simp [*, errW_none, errW_some] <;> rfl), by repeat (first | (with_reducible first | exact HB.out | apply below_alloc | apply pw_below_drewN | apply below_drew1) | exact HB.out)⟩

/-! ### laws_szPointS: function 19 -/
def laws_szPointS.f (l0 : List (S60)) (a1 : Int) : Option (Int) := if (wrap64 (a1 - (l0.length : Int))) < 0 then (some (-1)) else (some (wrap64 (a1 - (l0.length : Int))))
set_option maxHeartbeats 8000000 in
set_option maxRecDepth 100000 in
theorem laws_szPointS.calls (A0 : Option Addr) (c0 : Nat) (l0 : List (S60)) (a1 : Int) (r : Int) (w : World) (hr0 : Kd.C k60 w A0 l0.length l0) (hc0 : l0.length ≤ c0) (h : laws_szPointS.f l0 a1 = some r) :
  Calls Try.prog 19 #[.slice A0 l0.length c0, .int .i64 a1] w fun e w' => e = .returned (.int .i64 r) ∧ Drawn0 w w' := by
 have HR0 := Aside0.mk hr0
 have HC0 := Aside0.mk hc0
 clear hr0 hc0
 have H : (if (wrap64 (a1 - (l0.length : Int))) < 0 then (some (-1)) else (some (wrap64 (a1 - (l0.length : Int))))) = some r := h
 clear h
 by_cases c3 : (wrap64 (a1 - (l0.length : Int))) < 0
 ·rw [if_pos c3] at H
  have c3b0 : decide ((wrap64 (a1 - (l0.length : Int))) < 0) = true := decide_eq_true c3
  clear c3
  obtain rfl := Option.some.inj H
  go_enter Try.func19, Try.ntmps19
  go_wp2
  go_ret
  exact ⟨by first | rfl | (simp; done) | (simp [*]; done), by repeat (first | exact Drawn0.refl _ | apply Drawn0.step)⟩
 ·rw [if_neg c3] at H
  have c3b0 : decide ((wrap64 (a1 - (l0.length : Int))) < 0) = false := decide_eq_false c3
  clear c3
  obtain rfl := Option.some.inj H
  go_enter Try.func19, Try.ntmps19
  go_wp2
  go_ret
  exact ⟨by first | rfl | (simp; done) | (simp [*]; done), by repeat (first | exact Drawn0.refl _ | apply Drawn0.step)⟩

/-! ### laws_toPoint: function 45 -/
def laws_toPoint.f (a0_0 : Int) (a0_1 : Int) : Option (Int × Int) := some (a0_0, a0_1)
set_option maxHeartbeats 8000000 in
set_option maxRecDepth 100000 in
theorem laws_toPoint.calls (a0_0 : Int) (a0_1 : Int) (r1 : Int) (r2 : Int) (w : World) (h : laws_toPoint.f a0_0 a0_1 = some (r1, r2)) :
  Calls Try.prog 45 #[.agg #[.int .i64 a0_0, .int .i64 a0_1]] w fun e w' => e = .returned (.agg #[.int .i64 r1, .int .i64 r2]) ∧ Below w.heap.size w w' := by
 have hu60 := Try.underlying60
 have hu36 := Try.underlying36
 have HB := Aside0.mk (Below.refl w.heap.size w)
 have H : (some (a0_0, a0_1)) = some (r1, r2) := h
 clear h
 simp only [Option.some.injEq, Prod.mk.injEq] at H
 obtain ⟨rfl, rfl⟩ := H
 go_enter Try.func45, Try.ntmps45
 go_wp2_with (first | ((with_reducible refine gate_dst (N := 1) rfl ?_); refine box_event ?hg (N := 1) ?hd (cs := #[.int .i64 a0_0, .int .i64 a0_1]) (t := 60) ?hr ?_; (case hd => rfl); (case hg => rfl); (case hr => first | (go_simp; done) | (go_simp; rfl)); intro gb186 hg w2 hbox hb; have BK186 := Aside0.mk (hbox); have GW186 := zB0 HB hg; have GE186 := zB0 HB hg; replace HB := sB0 HB hb; clear hb hbox hg) | ((with_reducible refine gate_dst (N := 2) rfl ?_); refine box_event ?hg (N := 2) ?hd (cs := #[.int .i64 0, .int .i64 0]) (t := 36) ?hr ?_; (case hd => rfl); (case hg => rfl); (case hr => first | (go_simp; done) | (go_simp; rfl)); intro gb187 hg w3 hbox hb; have BK187 := Aside0.mk (hbox); have GW187 := zB1 HB hg GE186; have GE187 := zB1 HB hg GE186; have NB186_187 := nL BK186 hg; have NB187_186 := nG BK186 hg; replace BK186 := mB BK186 hb; replace HB := sB1 HB hb GE186; clear hb hbox hg) | ((with_reducible refine gate_dst (N := 3) rfl ?_); refine box_event ?hg (N := 3) ?hd (cs := #[.int .i64 0, .int .i64 0]) (t := 36) ?hr ?_; (case hd => rfl); (case hg => rfl); (case hr => first | (go_simp; done) | (go_simp; rfl)); intro gb188 hg w4 hbox hb; have BK188 := Aside0.mk (hbox); have GW188 := zB2 HB hg GE186 GE187; have GE188 := zB2 HB hg GE186 GE187; have NB186_188 := nL BK186 hg; have NB188_186 := nG BK186 hg; have NB187_188 := nL BK187 hg; have NB188_187 := nG BK187 hg; replace BK186 := mB BK186 hb; replace BK187 := mB BK187 hb; replace HB := sB2 HB hb GE186 GE187; clear hb hbox hg; have hnb5 := NB186_187.out; have hnc5 := NB187_186.out; have hnb6 := NB186_188.out; have hnc6 := NB188_186.out; have hcz7_0 := bC BK186 0 (.int .i64 a0_0); have hcz7_1 := bC BK186 1 (.int .i64 a0_1); have hfz7_0 := blk_frozen BK186.out 0; have hfz7_1 := blk_frozen BK186.out 1; have hnb8 := NB188_187.out; have hnc8 := NB187_188.out; have hcz9_0 := bC BK188 0 (.int .i64 0); have hcz9_1 := bC BK188 1 (.int .i64 0); have hfz9_0 := blk_frozen BK188.out 0; have hfz9_1 := blk_frozen BK188.out 1; have hcz10_0 := bC BK187 0 (.int .i64 0); have hcz10_1 := bC BK187 1 (.int .i64 0); have hfz10_0 := blk_frozen BK187.out 0; have hfz10_1 := blk_frozen BK187.out 1))
 refine bodyPost_ret (results_cell_row rfl _ _ gb187 36 #[.int .i64 a0_0, .int .i64 a0_1] (0, 0) _ rfl (by (with_reducible repeat (first | refine blk_drewN ?_ _ | refine blk_drew ?_ | refine blk_alloc ?_ _)); refine blk_put (cs := #[.int .i64 a0_0, .int .i64 0]) ?_ 1 _ rfl; (with_reducible repeat (first | refine blk_drewN ?_ _ | refine blk_drew ?_ | refine blk_alloc ?_ _)); refine blk_put (cs := #[.int .i64 0, .int .i64 0]) ?_ 0 _ rfl; (with_reducible repeat (first | refine blk_drewN ?_ _ | refine blk_drew ?_ | refine blk_alloc ?_ _)); refine blk_far ?_ NB187_188.out _; (with_reducible repeat (first | refine blk_drewN ?_ _ | refine blk_drew ?_ | refine blk_alloc ?_ _)); refine blk_far ?_ NB187_188.out _; (with_reducible repeat (first | refine blk_drewN ?_ _ | refine blk_drew ?_ | refine blk_alloc ?_ _)); exact BK187.out) Try.underlying36 rfl (by kernel_rfl)) rfl ?_
 exact ⟨by first | rfl | (simp [errW_none, errW_some] <;> rfl) | (simp [*, errW_none, errW_some] <;> rfl), by repeat (first | (with_reducible first | exact HB.out | apply below_alloc | apply pw_below_drewN | apply below_drew1 | refine below_set ?_ GE186.out | refine below_set ?_ GE187.out | refine below_set ?_ GE188.out) | exact HB.out)⟩

end Go.Proofs.Ytomkdfpcckgajaa.PFnExactIsSimple
