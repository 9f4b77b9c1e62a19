/- What the functions of FnLines compute, each with its proof: this session's own text. -/
import Derived.Test.YtomkdfpcckgajaaQFnLinesx0
import Derived.Test.YtomkdfpcckgajaaQFnLinesx4
import Derived.Test.YtomkdfpcckgajaaQFnLinesx5
import Derived.Test.YtomkdfpcckgajaaQFnLinesx6
import Derived.Test.YtomkdfpcckgajaaQFnLinesx8
namespace Go.Proofs.Ytomkdfpcckgajaa.PFnLines
open Go.RowKit Go.Proofs.YtomkdfpcckgajaaW.PrintWords Go.Proofs.YtomkdfpcckgajaaW.PrintLast Go.Proofs.YtomkdfpcckgajaaW.PrintMore Go.Proofs.Ytomkdfpcckgajaa.Sh
attribute [local go_sem] max2_int min2_int max_two min_two max_three min_three max_four min_four   -- for this text's walks alone
set_option linter.unusedVariables false
set_option linter.unusedSimpArgs false

/-! ### impl_IsSimple: function 13 -/
mutual
def impl_IsSimple.l0 : Nat → List (S38) → Int → Int → Option (Bool)
 | 0, _, _, _ => none
 | k + 1, x3, x13, x14 => if x14 < x13 then (impl_IsSimple.l1 k x3 x14 x13 x14 x14 0) else (some true)
def impl_IsSimple.l1 : Nat → List (S38) → Int → Int → Int → Int → Int → Option (Bool)
 | 0, _, _, _, _, _, _ => none
 | k + 1, x3, x4, x13, x14, x17, x18 => if x18 < x17 then (if x18 = (wrap64 (x4 - 1)) then (if 0 ≤ x4 then (if x4 < (x3.length : Int) then (if 0 ≤ x18 then (if x18 < (x3.length : Int) then ((impl_HowMeet.f k ((rd_T38 x3 x4).f0.f0) ((rd_T38 x3 x4).f0.f1) ((rd_T38 x3 x4).f1.f0) ((rd_T38 x3 x4).f1.f1) ((rd_T38 x3 x18).f0.f0) ((rd_T38 x3 x18).f0.f1) ((rd_T38 x3 x18).f1.f0) ((rd_T38 x3 x18).f1.f1)).bind fun t302 => (if t302 = 1 then (impl_IsSimple.l1 k x3 x4 x13 x14 x17 (wrap64 (x18 + 1))) else (some false))) else (none)) else (none)) else (none)) else (none)) else (if 0 ≤ x4 then (if x4 < (x3.length : Int) then (if 0 ≤ x18 then (if x18 < (x3.length : Int) then ((impl_HowMeet.f k ((rd_T38 x3 x4).f0.f0) ((rd_T38 x3 x4).f0.f1) ((rd_T38 x3 x4).f1.f0) ((rd_T38 x3 x4).f1.f1) ((rd_T38 x3 x18).f0.f0) ((rd_T38 x3 x18).f0.f1) ((rd_T38 x3 x18).f1.f0) ((rd_T38 x3 x18).f1.f1)).bind fun t305 => (if t305 = 0 then (impl_IsSimple.l1 k x3 x4 x13 x14 x17 (wrap64 (x18 + 1))) else (some false))) else (none)) else (none)) else (none)) else (none))) else (impl_IsSimple.l0 k x3 x13 (wrap64 (x14 + 1)))
end
def impl_IsSimple.f (k : Nat) (l0 : List (S36)) : Option (Bool) := (impl_IsLine.f k l0).bind fun t296 => (if t296 = true then ((impl_SegmentsOf.f k l0).bind fun t297 => (impl_IsSimple.l0 k t297 (t297.length : Int) 0)) else (some false))
theorem impl_IsSimple.mono_l : ∀ k, (∀ y0 y1 y2, LeO (impl_IsSimple.l0 k y0 y1 y2) (impl_IsSimple.l0 (k + 1) y0 y1 y2)) ∧ (∀ y0 y1 y2 y3 y4 y5, LeO (impl_IsSimple.l1 k y0 y1 y2 y3 y4 y5) (impl_IsSimple.l1 (k + 1) y0 y1 y2 y3 y4 y5))
 | 0 => ⟨fun _ _ _ r h => by simp [impl_IsSimple.l0] at h, fun _ _ _ _ _ _ r h => by simp [impl_IsSimple.l1] at h⟩
 | k + 1 => by
  obtain ⟨ih0, ih1⟩ := impl_IsSimple.mono_l k
  refine ⟨?_, ?_⟩
  ·intro y0 y1 y2
   unfold impl_IsSimple.l0
   repeat' first
   | (with_reducible exact ih0 _ _ _)
   | (with_reducible exact ih1 _ _ _ _ _ _)
   | (with_reducible exact impl_HowMeet.mono _ _ _ _ _ _ _ _ _)
   | (with_reducible exact impl_IsLine.mono _ _)
   | (with_reducible exact impl_SegmentsOf.mono _ _)
   | (with_reducible exact LeO.refl _)
   | (with_reducible exact LeO.none _)
   | (with_reducible refine LeO.ite ?_ ?_)
   | (with_reducible refine LeO.bind ?_ (fun _ => ?_))
   | exact ih0 _ _ _
   | exact ih1 _ _ _ _ _ _
   | exact impl_HowMeet.mono _ _ _ _ _ _ _ _ _
   | exact impl_IsLine.mono _ _
   | exact impl_SegmentsOf.mono _ _
   | exact LeO.none _
   | refine LeO.ite ?_ ?_
   | refine LeO.bind ?_ (fun _ => ?_)
  ·intro y0 y1 y2 y3 y4 y5
   unfold impl_IsSimple.l1
   repeat' first
   | (with_reducible exact ih0 _ _ _)
   | (with_reducible exact ih1 _ _ _ _ _ _)
   | (with_reducible exact impl_HowMeet.mono _ _ _ _ _ _ _ _ _)
   | (with_reducible exact impl_IsLine.mono _ _)
   | (with_reducible exact impl_SegmentsOf.mono _ _)
   | (with_reducible exact LeO.refl _)
   | (with_reducible exact LeO.none _)
   | (with_reducible refine LeO.ite ?_ ?_)
   | (with_reducible refine LeO.bind ?_ (fun _ => ?_))
   | exact ih0 _ _ _
   | exact ih1 _ _ _ _ _ _
   | exact impl_HowMeet.mono _ _ _ _ _ _ _ _ _
   | exact impl_IsLine.mono _ _
   | exact impl_SegmentsOf.mono _ _
   | exact LeO.none _
   | refine LeO.ite ?_ ?_
   | refine LeO.bind ?_ (fun _ => ?_)
theorem impl_IsSimple.mono : ∀ a0 k, LeO (impl_IsSimple.f k a0) (impl_IsSimple.f (k + 1) a0) := by
 intro a0 k
 obtain ⟨ih0, ih1⟩ := impl_IsSimple.mono_l k
 unfold impl_IsSimple.f
 repeat' first
   | (with_reducible exact ih0 _ _ _)
   | (with_reducible exact ih1 _ _ _ _ _ _)
   | (with_reducible exact impl_HowMeet.mono _ _ _ _ _ _ _ _ _)
   | (with_reducible exact impl_IsLine.mono _ _)
   | (with_reducible exact impl_SegmentsOf.mono _ _)
   | (with_reducible exact LeO.refl _)
   | (with_reducible exact LeO.none _)
   | (with_reducible refine LeO.ite ?_ ?_)
   | (with_reducible refine LeO.bind ?_ (fun _ => ?_))
   | exact ih0 _ _ _
   | exact ih1 _ _ _ _ _ _
   | exact impl_HowMeet.mono _ _ _ _ _ _ _ _ _
   | exact impl_IsLine.mono _ _
   | exact impl_SegmentsOf.mono _ _
   | exact LeO.none _
   | refine LeO.ite ?_ ?_
   | refine LeO.bind ?_ (fun _ => ?_)
def impl_IsSimple.T13 : Bool × List (List Nat × List Nat) := (true, [([], []), ([], []), ([0, 1], [0, 1]), ([2], [2]), ([], []), ([], []), ([4, 5], [4, 5]), ([6], [6]), ([3, 7], [3, 7]), ([], []), ([8, 9], [8, 9])])
def impl_IsSimple.B13 : List Nat := [0, 0, 3, 7, 0, 0, 48, 112, 255, 0, 1023]
theorem impl_IsSimple.tab13 : rtab .any (opsOf Try.f13 13) = impl_IsSimple.T13 := by kernel_rfl
theorem impl_IsSimple.bits13 : waitsOk impl_IsSimple.T13.2 impl_IsSimple.B13 = true := by kernel_rfl
set_option maxHeartbeats 8000000 in
set_option maxRecDepth 100000 in
theorem impl_IsSimple.calls (k : Nat) (A0 : Option Addr) (c0 : Nat) (l0 : List (S36)) (r : Bool) (w : World) (hr0 : Kd.C k36 w A0 l0.length l0) (hc0 : l0.length ≤ c0) (h : impl_IsSimple.f k l0 = some r) :
  Calls Try.prog 13 #[.slice A0 l0.length c0] w fun e w' => e = .returned (.bool r) ∧ Below w.heap.size w w' := by
 have hu38 := Try.underlying38
 have HR0 := Aside0.mk hr0
 have HC0 := Aside0.mk hc0
 clear hr0 hc0
 have HB := Aside0.mk (Below.refl w.heap.size w)
 have H : ((impl_IsLine.f k l0).bind fun t296 => (if t296 = true then ((impl_SegmentsOf.f k l0).bind fun t297 => (impl_IsSimple.l0 k t297 (t297.length : Int) 0)) else (some false))) = some r := h
 clear h
 replace H := Option.bind_eq_some_iff.mp H
 obtain ⟨t296, A20, H⟩ := H
 replace H : (if t296 = true then ((impl_SegmentsOf.f k l0).bind fun t297 => (impl_IsSimple.l0 k t297 (t297.length : Int) 0)) else (some false)) = some r := H
 have A2 := Aside0.mk A20
 clear A20
 by_cases c3 : t296 = true
 ·subst c3
  have H1 : ((impl_SegmentsOf.f k l0).bind fun t297 => (impl_IsSimple.l0 k t297 (t297.length : Int) 0)) = some r := by rw [if_pos rfl] at H; exact H
  clear H
  have H := H1
  clear H1
  replace H := Option.bind_eq_some_iff.mp H
  obtain ⟨t297, A40, H⟩ := H
  replace H : (impl_IsSimple.l0 k t297 (t297.length : Int) 0) = some r := H
  have A4 := Aside0.mk A40
  clear A40
  have H' := Aside0.mk H
  clear H
  go_enter Try.func13, Try.ntmps13
  go_wp2_with (first | ((with_reducible refine gate_callee (f := 12) rfl ?_); refine gL (some 8) Try.func12 #[.slice A0 l0.length c0] ?_; (with_reducible refine (impl_IsLine.calls k _ _ l0 true _ ?side1 ?side2 A2.out).mono ?_); (case side1 => exact cM HR0.out); (case side2 => exact HC0.out); rintro e w5 ⟨rfl, hb⟩; refine ⟨_, rfl, ?_⟩; replace HB := sB0 HB hb; (try clear hb)) | ((with_reducible refine gate_callee (f := 18) rfl ?_); refine gL (some 11) Try.func18 #[.slice A0 l0.length c0] ?_; (with_reducible refine (impl_SegmentsOf.calls k _ _ l0 t297 _ ?side1 ?side2 A4.out).mono ?_); (case side1 => exact cM (Kd.C_below HR0.out HB.out)); (case side2 => exact HC0.out); rintro e w6 ⟨v298, rfl, ho0, hb⟩; refine ⟨_, rfl, ?_⟩; have HO299 := Aside0.mk (Kd.R_lower ho0 (below_size (eB0 HB))); replace HB := sB0 HB hb; (try clear hb); (try clear ho0); obtain ⟨Ao7, co7, eo7⟩ := Kd.R_slice HO299.out; subst eo7))
  go_loopg [14] k (fun kq v14 w' => ∃ (x14_1 : Int), v14 = .int .i64 x14_1 ∧ Aside0 (impl_IsSimple.l0 kq t297 (t297.length : Int) x14_1 = some r) ∧ Aside0 (kq ≤ k) ∧ Aside0 (Kd.R k38 38 w' w.heap.size (fun _ => True) (.slice Ao7 t297.length co7) t297) ∧ Aside0 (Below w.heap.size w w'))
  case atStart => exact ⟨(0), (by first | rfl | (simp; done) | (simp [*]; done)), H', ⟨Nat.le_refl _⟩, ⟨rM HO299⟩, ⟨eB0 HB⟩⟩
  case round =>
   clear H'
   try clear c1
   try clear p2
   try clear c3
   obtain ⟨x14_1, rfl, HA, HK1, HO_3, HB⟩ := hrel
   cases gk with
   | zero => exact absurd HA.out (by simp [impl_IsSimple.l0])
   | succ k1 =>
    have H := HA.out
    clear HA
    simp only [impl_IsSimple.l0] at H
    by_cases c8 : x14_1 < (t297.length : Int)
    ·rw [if_pos c8] at H
     have c8b0 : decide (x14_1 < (t297.length : Int)) = true := decide_eq_true c8
     clear c8
     have H' := Aside0.mk H
     clear H
     go_wp2
     go_loopg [18] k1 (fun kq v18 w' => ∃ (x18_2 : Int), v18 = .int .i64 x18_2 ∧ Aside0 (impl_IsSimple.l1 kq t297 x14_1 (t297.length : Int) x14_1 x14_1 x18_2 = some r) ∧ Aside0 (kq ≤ k1) ∧ Aside0 (Kd.R k38 38 w' w.heap.size (fun _ => True) (.slice Ao7 t297.length co7) t297) ∧ Aside0 (Below w.heap.size w w'))
     case atStart => exact ⟨(0), (by first | rfl | (simp; done) | (simp [*]; done)), H', ⟨Nat.le_refl _⟩, ⟨rM HO_3⟩, ⟨eB0 HB⟩⟩
     case round =>
      clear H'
      try clear c1
      try clear p2
      try clear c3
      try clear c8
      try clear c8b0
      try clear p2
      obtain ⟨x18_2, rfl, HA, HK2, HO_3, HB⟩ := hrel
      cases gk with
      | zero => exact absurd HA.out (by simp [impl_IsSimple.l1])
      | succ k2 =>
       have H := HA.out
       clear HA
       simp only [impl_IsSimple.l1] at H
       by_cases c9 : x18_2 < x14_1
       ·rw [if_pos c9] at H
        have c9b0 : decide (x18_2 < x14_1) = true := decide_eq_true c9
        clear c9
        by_cases c10 : x18_2 = (wrap64 (x14_1 - 1))
        ·rw [if_pos c10] at H
         have c10b0 : (x18_2 == (wrap64 (x14_1 - 1))) = true := beq_iff_eq.mpr c10
         have c10b1 : (x18_2 != (wrap64 (x14_1 - 1))) = false := bne_eq_false_iff_eq.mpr c10
         clear c10
         by_cases c11 : 0 ≤ x14_1
         ·rw [if_pos c11] at H
          have c11b0 : decide (0 ≤ x14_1) = true := decide_eq_true c11
          clear c11
          by_cases c12 : x14_1 < (t297.length : Int)
          ·rw [if_pos c12] at H
           have c12b0 : decide (x14_1 < (t297.length : Int)) = true := decide_eq_true c12
           clear c12
           by_cases c13 : 0 ≤ x18_2
           ·rw [if_pos c13] at H
            have c13b0 : decide (0 ≤ x18_2) = true := decide_eq_true c13
            clear c13
            by_cases c14 : x18_2 < (t297.length : Int)
            ·rw [if_pos c14] at H
             have c14b0 : decide (x18_2 < (t297.length : Int)) = true := decide_eq_true c14
             clear c14
             replace H := Option.bind_eq_some_iff.mp H
             obtain ⟨t302, A150, H⟩ := H
             replace H : (if t302 = 1 then (impl_IsSimple.l1 k2 t297 x14_1 (t297.length : Int) x14_1 x14_1 (wrap64 (x18_2 + 1))) else (some false)) = some r := H
             have A15 := Aside0.mk A150
             clear A150
             by_cases c16 : t302 = 1
             ·rw [if_pos c16] at H
              have c16b0 : (t302 == 1) = true := beq_iff_eq.mpr c16
              have c16b1 : (t302 != 1) = false := bne_eq_false_iff_eq.mpr c16
              clear c16
              have H' := Aside0.mk H
              clear H
              try go_wp2
              replace HO_3 := Aside0.mk (Kd.R_drew HO_3.out)
              replace HB := Aside0.mk (below_drew1 HB.out)
              have p300 : 0 ≤ (x14_1 : Int) := of_decide_eq_true (by first | (with_reducible assumption) | assumption)
              have q300 : x14_1 < (t297.length : Int) := of_decide_eq_true (by first | (with_reducible assumption) | assumption)
              obtain ⟨ad300, e300, hx300_0, hx300_1, hx300_2, hx300_3⟩ := at_T38 (Kd.R_reads' HO_3.out).2.2 x14_1 p300 q300
              cases e300
              replace p300 := eq_true p300
              replace q300 := eq_true q300
              have p301 : 0 ≤ (x18_2 : Int) := of_decide_eq_true (by first | (with_reducible assumption) | assumption)
              have q301 : x18_2 < (t297.length : Int) := of_decide_eq_true (by first | (with_reducible assumption) | assumption)
              obtain ⟨ad301, e301, hx301_0, hx301_1, hx301_2, hx301_3⟩ := at_T38 (Kd.R_reads' HO_3.out).2.2 x18_2 p301 q301
              obtain rfl : ad300 = ad301 := (by injection e301)
              replace p301 := eq_true p301
              replace q301 := eq_true q301
              refine start_ (n := 11) (S := fun w' => w'.cell? (ad300.add ((x14_1).toNat * 4)) = some (.int .i64 ((rd_T38 t297 x14_1).f0.f0)) ∧ w'.cell? ⟨(ad300.add ((x14_1).toNat * 4)).block, (ad300.add ((x14_1).toNat * 4)).off + 1, none⟩ = some (.int .i64 ((rd_T38 t297 x14_1).f0.f1)) ∧ w'.cell? ⟨(ad300.add ((x14_1).toNat * 4)).block, (ad300.add ((x14_1).toNat * 4)).off + 2, none⟩ = some (.int .i64 ((rd_T38 t297 x14_1).f1.f0)) ∧ w'.cell? ⟨(ad300.add ((x14_1).toNat * 4)).block, (ad300.add ((x14_1).toNat * 4)).off + 3, none⟩ = some (.int .i64 ((rd_T38 t297 x14_1).f1.f1)) ∧ w'.cell? (ad300.add ((x18_2).toNat * 4)) = some (.int .i64 ((rd_T38 t297 x18_2).f0.f0)) ∧ w'.cell? ⟨(ad300.add ((x18_2).toNat * 4)).block, (ad300.add ((x18_2).toNat * 4)).off + 1, none⟩ = some (.int .i64 ((rd_T38 t297 x18_2).f0.f1)) ∧ w'.cell? ⟨(ad300.add ((x18_2).toNat * 4)).block, (ad300.add ((x18_2).toNat * 4)).off + 2, none⟩ = some (.int .i64 ((rd_T38 t297 x18_2).f1.f0)) ∧ w'.cell? ⟨(ad300.add ((x18_2).toNat * 4)).block, (ad300.add ((x18_2).toNat * 4)).off + 3, none⟩ = some (.int .i64 ((rd_T38 t297 x18_2).f1.f1))) (ds := []) #[false, false, false, false, false, false, false, false, false, false, false] (by kernel_rfl) rfl rfl ⟨hx300_0, hx300_1, hx300_2, hx300_3, hx301_0, hx301_1, hx301_2, hx301_3⟩ (fun hHeld => ?_); refine with_tabW impl_IsSimple.tab13 impl_IsSimple.bits13 (fun HT_ HW_ => ?_)
              generalize wr.drew = w17 at HO_3 HB hx300_0 hx300_1 hx300_2 hx300_3 hx301_0 hx301_1 hx301_2 hx301_3 hHeld ⊢
              refine pA HT_.out 0 25 ?_
              refine pA HT_.out 1 26 ?_
              refine pA HT_.out 2 27 ?_
              refine pA HT_.out 4 29 ?_
              refine pA HT_.out 5 30 ?_
              refine pA HT_.out 6 31 ?_
              refine pA HT_.out 9 34 ?_
              refine tA8 HT_.out HW_.out 3 28 hHeld ?_
              refine tA8 HT_.out HW_.out 7 32 hHeld ?_
              refine one_ (i := 8) (N := some 33) #[true, true, true, true, true, true, true, true, true, true, false] rfl rfl (one_of HT_.out (by kernel_rfl)) (by decide) (fun K hK => ?_)
              refine gS Try.func25 #[.agg #[.int .i64 ((rd_T38 t297 x14_1).f0.f0), .int .i64 ((rd_T38 t297 x14_1).f0.f1), .int .i64 ((rd_T38 t297 x14_1).f1.f0), .int .i64 ((rd_T38 t297 x14_1).f1.f1)], .agg #[.int .i64 ((rd_T38 t297 x18_2).f0.f0), .int .i64 ((rd_T38 t297 x18_2).f0.f1), .int .i64 ((rd_T38 t297 x18_2).f1.f0), .int .i64 ((rd_T38 t297 x18_2).f1.f1)]] ?_
              with_reducible refine (impl_HowMeet.calls k2 ((rd_T38 t297 x14_1).f0.f0) ((rd_T38 t297 x14_1).f0.f1) ((rd_T38 t297 x14_1).f1.f0) ((rd_T38 t297 x14_1).f1.f1) ((rd_T38 t297 x18_2).f0.f0) ((rd_T38 t297 x18_2).f0.f1) ((rd_T38 t297 x18_2).f1.f0) ((rd_T38 t297 x18_2).f1.f1) t302 _ A15.out).mono ?_
              rintro e w18 ⟨rfl, hb⟩
              have HS0_ := (hb.cell (World.block_lt_of_cell? _ _ (hHeld.1))).trans (hHeld.1)
              have HS1_ := (hb.cell (World.block_lt_of_cell? _ _ (hHeld.2.1))).trans (hHeld.2.1)
              have HS2_ := (hb.cell (World.block_lt_of_cell? _ _ (hHeld.2.2.1))).trans (hHeld.2.2.1)
              have HS3_ := (hb.cell (World.block_lt_of_cell? _ _ (hHeld.2.2.2.1))).trans (hHeld.2.2.2.1)
              have HS4_ := (hb.cell (World.block_lt_of_cell? _ _ (hHeld.2.2.2.2.1))).trans (hHeld.2.2.2.2.1)
              have HS5_ := (hb.cell (World.block_lt_of_cell? _ _ (hHeld.2.2.2.2.2.1))).trans (hHeld.2.2.2.2.2.1)
              have HS6_ := (hb.cell (World.block_lt_of_cell? _ _ (hHeld.2.2.2.2.2.2.1))).trans (hHeld.2.2.2.2.2.2.1)
              have HS7_ := (hb.cell (World.block_lt_of_cell? _ _ (hHeld.2.2.2.2.2.2.2))).trans (hHeld.2.2.2.2.2.2.2)
              refine ⟨_, rfl, ?_⟩
              replace HO_3 := Aside0.mk (Kd.R_below (rM HO_3) hb)
              replace HB := sB0 HB hb
              (try clear hb)
              (try clear hb2)
              (try clear hk)
              (try clear hi)
              refine hK.out _ _ ⟨HS0_, HS1_, HS2_, HS3_, HS4_, HS5_, HS6_, HS7_⟩ (fun hHeld => ?_)
              clear hK K
              refine norm_ (a' := ?_) ?_ ?_
              rotate_left
              ·show Act.put _ (some 33) _ = _
               simp only [Act.put, List.setIfInBounds_toArray, List.set_cons_zero, List.set_cons_succ, i64_w, i32_w]
               rfl
              refine pA HT_.out 10 35 ?_
              refine done_ (done_of HT_.out (by kernel_rfl)) ?_
              try go_wp2
              go_roundg k2
              case measure => have := HK1.out; have := HK2.out; omega
              case rel => exact ⟨(wrap64 (x18_2 + 1)), (by first | rfl | (simp; done) | (simp [*]; done)), H', ⟨by have := HK1.out; have := HK2.out; omega⟩, ⟨rM HO_3⟩, ⟨eB0 HB⟩⟩
             ·rw [if_neg c16] at H
              have c16b0 : (t302 == 1) = false := beq_eq_false_iff_ne.mpr c16
              have c16b1 : (t302 != 1) = true := bne_iff_ne.mpr c16
              obtain rfl := Option.some.inj H
              try go_wp2
              replace HO_3 := Aside0.mk (Kd.R_drew HO_3.out)
              replace HB := Aside0.mk (below_drew1 HB.out)
              have p300 : 0 ≤ (x14_1 : Int) := of_decide_eq_true (by first | (with_reducible assumption) | assumption)
              have q300 : x14_1 < (t297.length : Int) := of_decide_eq_true (by first | (with_reducible assumption) | assumption)
              obtain ⟨ad300, e300, hx300_0, hx300_1, hx300_2, hx300_3⟩ := at_T38 (Kd.R_reads' HO_3.out).2.2 x14_1 p300 q300
              cases e300
              replace p300 := eq_true p300
              replace q300 := eq_true q300
              have p301 : 0 ≤ (x18_2 : Int) := of_decide_eq_true (by first | (with_reducible assumption) | assumption)
              have q301 : x18_2 < (t297.length : Int) := of_decide_eq_true (by first | (with_reducible assumption) | assumption)
              obtain ⟨ad301, e301, hx301_0, hx301_1, hx301_2, hx301_3⟩ := at_T38 (Kd.R_reads' HO_3.out).2.2 x18_2 p301 q301
              obtain rfl : ad300 = ad301 := (by injection e301)
              replace p301 := eq_true p301
              replace q301 := eq_true q301
              refine start_ (n := 11) (S := fun w' => w'.cell? (ad300.add ((x14_1).toNat * 4)) = some (.int .i64 ((rd_T38 t297 x14_1).f0.f0)) ∧ w'.cell? ⟨(ad300.add ((x14_1).toNat * 4)).block, (ad300.add ((x14_1).toNat * 4)).off + 1, none⟩ = some (.int .i64 ((rd_T38 t297 x14_1).f0.f1)) ∧ w'.cell? ⟨(ad300.add ((x14_1).toNat * 4)).block, (ad300.add ((x14_1).toNat * 4)).off + 2, none⟩ = some (.int .i64 ((rd_T38 t297 x14_1).f1.f0)) ∧ w'.cell? ⟨(ad300.add ((x14_1).toNat * 4)).block, (ad300.add ((x14_1).toNat * 4)).off + 3, none⟩ = some (.int .i64 ((rd_T38 t297 x14_1).f1.f1)) ∧ w'.cell? (ad300.add ((x18_2).toNat * 4)) = some (.int .i64 ((rd_T38 t297 x18_2).f0.f0)) ∧ w'.cell? ⟨(ad300.add ((x18_2).toNat * 4)).block, (ad300.add ((x18_2).toNat * 4)).off + 1, none⟩ = some (.int .i64 ((rd_T38 t297 x18_2).f0.f1)) ∧ w'.cell? ⟨(ad300.add ((x18_2).toNat * 4)).block, (ad300.add ((x18_2).toNat * 4)).off + 2, none⟩ = some (.int .i64 ((rd_T38 t297 x18_2).f1.f0)) ∧ w'.cell? ⟨(ad300.add ((x18_2).toNat * 4)).block, (ad300.add ((x18_2).toNat * 4)).off + 3, none⟩ = some (.int .i64 ((rd_T38 t297 x18_2).f1.f1))) (ds := []) #[false, false, false, false, false, false, false, false, false, false, false] (by kernel_rfl) rfl rfl ⟨hx300_0, hx300_1, hx300_2, hx300_3, hx301_0, hx301_1, hx301_2, hx301_3⟩ (fun hHeld => ?_); refine with_tabW impl_IsSimple.tab13 impl_IsSimple.bits13 (fun HT_ HW_ => ?_)
              generalize wr.drew = w19 at HO_3 HB hx300_0 hx300_1 hx300_2 hx300_3 hx301_0 hx301_1 hx301_2 hx301_3 hHeld ⊢
              refine pA HT_.out 0 25 ?_
              refine pA HT_.out 1 26 ?_
              refine pA HT_.out 2 27 ?_
              refine pA HT_.out 4 29 ?_
              refine pA HT_.out 5 30 ?_
              refine pA HT_.out 6 31 ?_
              refine pA HT_.out 9 34 ?_
              refine tA8 HT_.out HW_.out 3 28 hHeld ?_
              refine tA8 HT_.out HW_.out 7 32 hHeld ?_
              refine one_ (i := 8) (N := some 33) #[true, true, true, true, true, true, true, true, true, true, false] rfl rfl (one_of HT_.out (by kernel_rfl)) (by decide) (fun K hK => ?_)
              refine gS Try.func25 #[.agg #[.int .i64 ((rd_T38 t297 x14_1).f0.f0), .int .i64 ((rd_T38 t297 x14_1).f0.f1), .int .i64 ((rd_T38 t297 x14_1).f1.f0), .int .i64 ((rd_T38 t297 x14_1).f1.f1)], .agg #[.int .i64 ((rd_T38 t297 x18_2).f0.f0), .int .i64 ((rd_T38 t297 x18_2).f0.f1), .int .i64 ((rd_T38 t297 x18_2).f1.f0), .int .i64 ((rd_T38 t297 x18_2).f1.f1)]] ?_
              with_reducible refine (impl_HowMeet.calls k2 ((rd_T38 t297 x14_1).f0.f0) ((rd_T38 t297 x14_1).f0.f1) ((rd_T38 t297 x14_1).f1.f0) ((rd_T38 t297 x14_1).f1.f1) ((rd_T38 t297 x18_2).f0.f0) ((rd_T38 t297 x18_2).f0.f1) ((rd_T38 t297 x18_2).f1.f0) ((rd_T38 t297 x18_2).f1.f1) t302 _ A15.out).mono ?_
              rintro e w20 ⟨rfl, hb⟩
              have HS0_ := (hb.cell (World.block_lt_of_cell? _ _ (hHeld.1))).trans (hHeld.1)
              have HS1_ := (hb.cell (World.block_lt_of_cell? _ _ (hHeld.2.1))).trans (hHeld.2.1)
              have HS2_ := (hb.cell (World.block_lt_of_cell? _ _ (hHeld.2.2.1))).trans (hHeld.2.2.1)
              have HS3_ := (hb.cell (World.block_lt_of_cell? _ _ (hHeld.2.2.2.1))).trans (hHeld.2.2.2.1)
              have HS4_ := (hb.cell (World.block_lt_of_cell? _ _ (hHeld.2.2.2.2.1))).trans (hHeld.2.2.2.2.1)
              have HS5_ := (hb.cell (World.block_lt_of_cell? _ _ (hHeld.2.2.2.2.2.1))).trans (hHeld.2.2.2.2.2.1)
              have HS6_ := (hb.cell (World.block_lt_of_cell? _ _ (hHeld.2.2.2.2.2.2.1))).trans (hHeld.2.2.2.2.2.2.1)
              have HS7_ := (hb.cell (World.block_lt_of_cell? _ _ (hHeld.2.2.2.2.2.2.2))).trans (hHeld.2.2.2.2.2.2.2)
              refine ⟨_, rfl, ?_⟩
              replace HO_3 := Aside0.mk (Kd.R_below (rM HO_3) hb)
              replace HB := sB0 HB hb
              (try clear hb)
              (try clear hb2)
              (try clear hk)
              (try clear hi)
              refine hK.out _ _ ⟨HS0_, HS1_, HS2_, HS3_, HS4_, HS5_, HS6_, HS7_⟩ (fun hHeld => ?_)
              clear hK K
              refine norm_ (a' := ?_) ?_ ?_
              rotate_left
              ·show Act.put _ (some 33) _ = _
               simp only [Act.put, List.setIfInBounds_toArray, List.set_cons_zero, List.set_cons_succ, i64_w, i32_w]
               rfl
              refine pA HT_.out 10 35 ?_
              refine done_ (done_of HT_.out (by kernel_rfl)) ?_
              try go_wp2
              go_ret
              exact ⟨by first | rfl | (simp [errW_none, errW_some] <;> rfl) | (simp [*, errW_none, errW_some] <;> rfl), eB0 HB⟩
            ·rw [if_neg c14] at H
             exact absurd H (by simp)
           ·rw [if_neg c13] at H
            exact absurd H (by simp)
          ·rw [if_neg c12] at H
           exact absurd H (by simp)
         ·rw [if_neg c11] at H
          exact absurd H (by simp)
        ·rw [if_neg c10] at H
         have c10b0 : (x18_2 == (wrap64 (x14_1 - 1))) = false := beq_eq_false_iff_ne.mpr c10
         have c10b1 : (x18_2 != (wrap64 (x14_1 - 1))) = true := bne_iff_ne.mpr c10
         by_cases c21 : 0 ≤ x14_1
         ·rw [if_pos c21] at H
          have c21b0 : decide (0 ≤ x14_1) = true := decide_eq_true c21
          clear c21
          by_cases c22 : x14_1 < (t297.length : Int)
          ·rw [if_pos c22] at H
           have c22b0 : decide (x14_1 < (t297.length : Int)) = true := decide_eq_true c22
           clear c22
           by_cases c23 : 0 ≤ x18_2
           ·rw [if_pos c23] at H
            have c23b0 : decide (0 ≤ x18_2) = true := decide_eq_true c23
            clear c23
            by_cases c24 : x18_2 < (t297.length : Int)
            ·rw [if_pos c24] at H
             have c24b0 : decide (x18_2 < (t297.length : Int)) = true := decide_eq_true c24
             clear c24
             replace H := Option.bind_eq_some_iff.mp H
             obtain ⟨t305, A250, H⟩ := H
             replace H : (if t305 = 0 then (impl_IsSimple.l1 k2 t297 x14_1 (t297.length : Int) x14_1 x14_1 (wrap64 (x18_2 + 1))) else (some false)) = some r := H
             have A25 := Aside0.mk A250
             clear A250
             by_cases c26 : t305 = 0
             ·rw [if_pos c26] at H
              have c26b0 : (t305 == 0) = true := beq_iff_eq.mpr c26
              have c26b1 : (t305 != 0) = false := bne_eq_false_iff_eq.mpr c26
              clear c26
              have H' := Aside0.mk H
              clear H
              try go_wp2
              replace HO_3 := Aside0.mk (Kd.R_drew HO_3.out)
              replace HB := Aside0.mk (below_drew1 HB.out)
              have p303 : 0 ≤ (x14_1 : Int) := of_decide_eq_true (by first | (with_reducible assumption) | assumption)
              have q303 : x14_1 < (t297.length : Int) := of_decide_eq_true (by first | (with_reducible assumption) | assumption)
              obtain ⟨ad303, e303, hx303_0, hx303_1, hx303_2, hx303_3⟩ := at_T38 (Kd.R_reads' HO_3.out).2.2 x14_1 p303 q303
              cases e303
              replace p303 := eq_true p303
              replace q303 := eq_true q303
              have p304 : 0 ≤ (x18_2 : Int) := of_decide_eq_true (by first | (with_reducible assumption) | assumption)
              have q304 : x18_2 < (t297.length : Int) := of_decide_eq_true (by first | (with_reducible assumption) | assumption)
              obtain ⟨ad304, e304, hx304_0, hx304_1, hx304_2, hx304_3⟩ := at_T38 (Kd.R_reads' HO_3.out).2.2 x18_2 p304 q304
              obtain rfl : ad303 = ad304 := (by injection e304)
              replace p304 := eq_true p304
              replace q304 := eq_true q304
              refine start_ (n := 11) (S := fun w' => w'.cell? (ad303.add ((x14_1).toNat * 4)) = some (.int .i64 ((rd_T38 t297 x14_1).f0.f0)) ∧ w'.cell? ⟨(ad303.add ((x14_1).toNat * 4)).block, (ad303.add ((x14_1).toNat * 4)).off + 1, none⟩ = some (.int .i64 ((rd_T38 t297 x14_1).f0.f1)) ∧ w'.cell? ⟨(ad303.add ((x14_1).toNat * 4)).block, (ad303.add ((x14_1).toNat * 4)).off + 2, none⟩ = some (.int .i64 ((rd_T38 t297 x14_1).f1.f0)) ∧ w'.cell? ⟨(ad303.add ((x14_1).toNat * 4)).block, (ad303.add ((x14_1).toNat * 4)).off + 3, none⟩ = some (.int .i64 ((rd_T38 t297 x14_1).f1.f1)) ∧ w'.cell? (ad303.add ((x18_2).toNat * 4)) = some (.int .i64 ((rd_T38 t297 x18_2).f0.f0)) ∧ w'.cell? ⟨(ad303.add ((x18_2).toNat * 4)).block, (ad303.add ((x18_2).toNat * 4)).off + 1, none⟩ = some (.int .i64 ((rd_T38 t297 x18_2).f0.f1)) ∧ w'.cell? ⟨(ad303.add ((x18_2).toNat * 4)).block, (ad303.add ((x18_2).toNat * 4)).off + 2, none⟩ = some (.int .i64 ((rd_T38 t297 x18_2).f1.f0)) ∧ w'.cell? ⟨(ad303.add ((x18_2).toNat * 4)).block, (ad303.add ((x18_2).toNat * 4)).off + 3, none⟩ = some (.int .i64 ((rd_T38 t297 x18_2).f1.f1))) (ds := []) #[false, false, false, false, false, false, false, false, false, false, false] (by kernel_rfl) rfl rfl ⟨hx303_0, hx303_1, hx303_2, hx303_3, hx304_0, hx304_1, hx304_2, hx304_3⟩ (fun hHeld => ?_); refine with_tabW impl_IsSimple.tab13 impl_IsSimple.bits13 (fun HT_ HW_ => ?_)
              generalize wr.drew = w27 at HO_3 HB hx303_0 hx303_1 hx303_2 hx303_3 hx304_0 hx304_1 hx304_2 hx304_3 hHeld ⊢
              refine pA HT_.out 0 25 ?_
              refine pA HT_.out 1 26 ?_
              refine pA HT_.out 2 27 ?_
              refine pA HT_.out 4 29 ?_
              refine pA HT_.out 5 30 ?_
              refine pA HT_.out 6 31 ?_
              refine pA HT_.out 9 34 ?_
              refine tA8 HT_.out HW_.out 3 28 hHeld ?_
              refine tA8 HT_.out HW_.out 7 32 hHeld ?_
              refine one_ (i := 8) (N := some 33) #[true, true, true, true, true, true, true, true, true, true, false] rfl rfl (one_of HT_.out (by kernel_rfl)) (by decide) (fun K hK => ?_)
              refine gS Try.func25 #[.agg #[.int .i64 ((rd_T38 t297 x14_1).f0.f0), .int .i64 ((rd_T38 t297 x14_1).f0.f1), .int .i64 ((rd_T38 t297 x14_1).f1.f0), .int .i64 ((rd_T38 t297 x14_1).f1.f1)], .agg #[.int .i64 ((rd_T38 t297 x18_2).f0.f0), .int .i64 ((rd_T38 t297 x18_2).f0.f1), .int .i64 ((rd_T38 t297 x18_2).f1.f0), .int .i64 ((rd_T38 t297 x18_2).f1.f1)]] ?_
              with_reducible refine (impl_HowMeet.calls k2 ((rd_T38 t297 x14_1).f0.f0) ((rd_T38 t297 x14_1).f0.f1) ((rd_T38 t297 x14_1).f1.f0) ((rd_T38 t297 x14_1).f1.f1) ((rd_T38 t297 x18_2).f0.f0) ((rd_T38 t297 x18_2).f0.f1) ((rd_T38 t297 x18_2).f1.f0) ((rd_T38 t297 x18_2).f1.f1) t305 _ A25.out).mono ?_
              rintro e w28 ⟨rfl, hb⟩
              have HS0_ := (hb.cell (World.block_lt_of_cell? _ _ (hHeld.1))).trans (hHeld.1)
              have HS1_ := (hb.cell (World.block_lt_of_cell? _ _ (hHeld.2.1))).trans (hHeld.2.1)
              have HS2_ := (hb.cell (World.block_lt_of_cell? _ _ (hHeld.2.2.1))).trans (hHeld.2.2.1)
              have HS3_ := (hb.cell (World.block_lt_of_cell? _ _ (hHeld.2.2.2.1))).trans (hHeld.2.2.2.1)
              have HS4_ := (hb.cell (World.block_lt_of_cell? _ _ (hHeld.2.2.2.2.1))).trans (hHeld.2.2.2.2.1)
              have HS5_ := (hb.cell (World.block_lt_of_cell? _ _ (hHeld.2.2.2.2.2.1))).trans (hHeld.2.2.2.2.2.1)
              have HS6_ := (hb.cell (World.block_lt_of_cell? _ _ (hHeld.2.2.2.2.2.2.1))).trans (hHeld.2.2.2.2.2.2.1)
              have HS7_ := (hb.cell (World.block_lt_of_cell? _ _ (hHeld.2.2.2.2.2.2.2))).trans (hHeld.2.2.2.2.2.2.2)
              refine ⟨_, rfl, ?_⟩
              replace HO_3 := Aside0.mk (Kd.R_below (rM HO_3) hb)
              replace HB := sB0 HB hb
              (try clear hb)
              (try clear hb2)
              (try clear hk)
              (try clear hi)
              refine hK.out _ _ ⟨HS0_, HS1_, HS2_, HS3_, HS4_, HS5_, HS6_, HS7_⟩ (fun hHeld => ?_)
              clear hK K
              refine norm_ (a' := ?_) ?_ ?_
              rotate_left
              ·show Act.put _ (some 33) _ = _
               simp only [Act.put, List.setIfInBounds_toArray, List.set_cons_zero, List.set_cons_succ, i64_w, i32_w]
               rfl
              refine pA HT_.out 10 35 ?_
              refine done_ (done_of HT_.out (by kernel_rfl)) ?_
              try go_wp2
              go_roundg k2
              case measure => have := HK1.out; have := HK2.out; omega
              case rel => exact ⟨(wrap64 (x18_2 + 1)), (by first | rfl | (simp; done) | (simp [*]; done)), H', ⟨by have := HK1.out; have := HK2.out; omega⟩, ⟨rM HO_3⟩, ⟨eB0 HB⟩⟩
             ·rw [if_neg c26] at H
              have c26b0 : (t305 == 0) = false := beq_eq_false_iff_ne.mpr c26
              have c26b1 : (t305 != 0) = true := bne_iff_ne.mpr c26
              obtain rfl := Option.some.inj H
              try go_wp2
              replace HO_3 := Aside0.mk (Kd.R_drew HO_3.out)
              replace HB := Aside0.mk (below_drew1 HB.out)
              have p303 : 0 ≤ (x14_1 : Int) := of_decide_eq_true (by first | (with_reducible assumption) | assumption)
              have q303 : x14_1 < (t297.length : Int) := of_decide_eq_true (by first | (with_reducible assumption) | assumption)
              obtain ⟨ad303, e303, hx303_0, hx303_1, hx303_2, hx303_3⟩ := at_T38 (Kd.R_reads' HO_3.out).2.2 x14_1 p303 q303
              cases e303
              replace p303 := eq_true p303
              replace q303 := eq_true q303
              have p304 : 0 ≤ (x18_2 : Int) := of_decide_eq_true (by first | (with_reducible assumption) | assumption)
              have q304 : x18_2 < (t297.length : Int) := of_decide_eq_true (by first | (with_reducible assumption) | assumption)
              obtain ⟨ad304, e304, hx304_0, hx304_1, hx304_2, hx304_3⟩ := at_T38 (Kd.R_reads' HO_3.out).2.2 x18_2 p304 q304
              obtain rfl : ad303 = ad304 := (by injection e304)
              replace p304 := eq_true p304
              replace q304 := eq_true q304
              refine start_ (n := 11) (S := fun w' => w'.cell? (ad303.add ((x14_1).toNat * 4)) = some (.int .i64 ((rd_T38 t297 x14_1).f0.f0)) ∧ w'.cell? ⟨(ad303.add ((x14_1).toNat * 4)).block, (ad303.add ((x14_1).toNat * 4)).off + 1, none⟩ = some (.int .i64 ((rd_T38 t297 x14_1).f0.f1)) ∧ w'.cell? ⟨(ad303.add ((x14_1).toNat * 4)).block, (ad303.add ((x14_1).toNat * 4)).off + 2, none⟩ = some (.int .i64 ((rd_T38 t297 x14_1).f1.f0)) ∧ w'.cell? ⟨(ad303.add ((x14_1).toNat * 4)).block, (ad303.add ((x14_1).toNat * 4)).off + 3, none⟩ = some (.int .i64 ((rd_T38 t297 x14_1).f1.f1)) ∧ w'.cell? (ad303.add ((x18_2).toNat * 4)) = some (.int .i64 ((rd_T38 t297 x18_2).f0.f0)) ∧ w'.cell? ⟨(ad303.add ((x18_2).toNat * 4)).block, (ad303.add ((x18_2).toNat * 4)).off + 1, none⟩ = some (.int .i64 ((rd_T38 t297 x18_2).f0.f1)) ∧ w'.cell? ⟨(ad303.add ((x18_2).toNat * 4)).block, (ad303.add ((x18_2).toNat * 4)).off + 2, none⟩ = some (.int .i64 ((rd_T38 t297 x18_2).f1.f0)) ∧ w'.cell? ⟨(ad303.add ((x18_2).toNat * 4)).block, (ad303.add ((x18_2).toNat * 4)).off + 3, none⟩ = some (.int .i64 ((rd_T38 t297 x18_2).f1.f1))) (ds := []) #[false, false, false, false, false, false, false, false, false, false, false] (by kernel_rfl) rfl rfl ⟨hx303_0, hx303_1, hx303_2, hx303_3, hx304_0, hx304_1, hx304_2, hx304_3⟩ (fun hHeld => ?_); refine with_tabW impl_IsSimple.tab13 impl_IsSimple.bits13 (fun HT_ HW_ => ?_)
              generalize wr.drew = w29 at HO_3 HB hx303_0 hx303_1 hx303_2 hx303_3 hx304_0 hx304_1 hx304_2 hx304_3 hHeld ⊢
              refine pA HT_.out 0 25 ?_
              refine pA HT_.out 1 26 ?_
              refine pA HT_.out 2 27 ?_
              refine pA HT_.out 4 29 ?_
              refine pA HT_.out 5 30 ?_
              refine pA HT_.out 6 31 ?_
              refine pA HT_.out 9 34 ?_
              refine tA8 HT_.out HW_.out 3 28 hHeld ?_
              refine tA8 HT_.out HW_.out 7 32 hHeld ?_
              refine one_ (i := 8) (N := some 33) #[true, true, true, true, true, true, true, true, true, true, false] rfl rfl (one_of HT_.out (by kernel_rfl)) (by decide) (fun K hK => ?_)
              refine gS Try.func25 #[.agg #[.int .i64 ((rd_T38 t297 x14_1).f0.f0), .int .i64 ((rd_T38 t297 x14_1).f0.f1), .int .i64 ((rd_T38 t297 x14_1).f1.f0), .int .i64 ((rd_T38 t297 x14_1).f1.f1)], .agg #[.int .i64 ((rd_T38 t297 x18_2).f0.f0), .int .i64 ((rd_T38 t297 x18_2).f0.f1), .int .i64 ((rd_T38 t297 x18_2).f1.f0), .int .i64 ((rd_T38 t297 x18_2).f1.f1)]] ?_
              with_reducible refine (impl_HowMeet.calls k2 ((rd_T38 t297 x14_1).f0.f0) ((rd_T38 t297 x14_1).f0.f1) ((rd_T38 t297 x14_1).f1.f0) ((rd_T38 t297 x14_1).f1.f1) ((rd_T38 t297 x18_2).f0.f0) ((rd_T38 t297 x18_2).f0.f1) ((rd_T38 t297 x18_2).f1.f0) ((rd_T38 t297 x18_2).f1.f1) t305 _ A25.out).mono ?_
              rintro e w30 ⟨rfl, hb⟩
              have HS0_ := (hb.cell (World.block_lt_of_cell? _ _ (hHeld.1))).trans (hHeld.1)
              have HS1_ := (hb.cell (World.block_lt_of_cell? _ _ (hHeld.2.1))).trans (hHeld.2.1)
              have HS2_ := (hb.cell (World.block_lt_of_cell? _ _ (hHeld.2.2.1))).trans (hHeld.2.2.1)
              have HS3_ := (hb.cell (World.block_lt_of_cell? _ _ (hHeld.2.2.2.1))).trans (hHeld.2.2.2.1)
              have HS4_ := (hb.cell (World.block_lt_of_cell? _ _ (hHeld.2.2.2.2.1))).trans (hHeld.2.2.2.2.1)
              have HS5_ := (hb.cell (World.block_lt_of_cell? _ _ (hHeld.2.2.2.2.2.1))).trans (hHeld.2.2.2.2.2.1)
              have HS6_ := (hb.cell (World.block_lt_of_cell? _ _ (hHeld.2.2.2.2.2.2.1))).trans (hHeld.2.2.2.2.2.2.1)
              have HS7_ := (hb.cell (World.block_lt_of_cell? _ _ (hHeld.2.2.2.2.2.2.2))).trans (hHeld.2.2.2.2.2.2.2)
              refine ⟨_, rfl, ?_⟩
              replace HO_3 := Aside0.mk (Kd.R_below (rM HO_3) hb)
              replace HB := sB0 HB hb
              (try clear hb)
              (try clear hb2)
              (try clear hk)
              (try clear hi)
              refine hK.out _ _ ⟨HS0_, HS1_, HS2_, HS3_, HS4_, HS5_, HS6_, HS7_⟩ (fun hHeld => ?_)
              clear hK K
              refine norm_ (a' := ?_) ?_ ?_
              rotate_left
              ·show Act.put _ (some 33) _ = _
               simp only [Act.put, List.setIfInBounds_toArray, List.set_cons_zero, List.set_cons_succ, i64_w, i32_w]
               rfl
              refine pA HT_.out 10 35 ?_
              refine done_ (done_of HT_.out (by kernel_rfl)) ?_
              try go_wp2
              go_ret
              exact ⟨by first | rfl | (simp [errW_none, errW_some] <;> rfl) | (simp [*, errW_none, errW_some] <;> rfl), eB0 HB⟩
            ·rw [if_neg c24] at H
             exact absurd H (by simp)
           ·rw [if_neg c23] at H
            exact absurd H (by simp)
          ·rw [if_neg c22] at H
           exact absurd H (by simp)
         ·rw [if_neg c21] at H
          exact absurd H (by simp)
       ·rw [if_neg c9] at H
        have c9b0 : decide (x18_2 < x14_1) = false := decide_eq_false c9
        clear c9
        have H' := Aside0.mk H
        clear H
        go_wp2
        go_roundg k2
        case measure => have := HK1.out; have := HK2.out; omega
        case rel => exact ⟨(wrap64 (x14_1 + 1)), (by first | rfl | (simp; done) | (simp [*]; done)), H', ⟨by have := HK1.out; have := HK2.out; omega⟩, ⟨rM HO_3⟩, ⟨eB0 HB⟩⟩
    ·rw [if_neg c8] at H
     have c8b0 : decide (x14_1 < (t297.length : Int)) = false := decide_eq_false c8
     clear c8
     obtain rfl := Option.some.inj H
     go_wp2
     go_ret
     exact ⟨by first | rfl | (simp [errW_none, errW_some] <;> rfl) | (simp [*, errW_none, errW_some] <;> rfl), eB0 HB⟩
 ·replace c3 := Bool.eq_false_iff.mpr c3
  subst c3
  have H1 : (some false) = some r := by rw [if_neg (show ¬ (false = true) by decide)] at H; exact H
  clear H
  have H := H1
  clear H1
  obtain rfl := Option.some.inj H
  go_enter Try.func13, Try.ntmps13
  go_wp2_with (first | ((with_reducible refine gate_callee (f := 12) rfl ?_); refine gL (some 8) Try.func12 #[.slice A0 l0.length c0] ?_; (with_reducible refine (impl_IsLine.calls k _ _ l0 false _ ?side1 ?side2 A2.out).mono ?_); (case side1 => exact cM HR0.out); (case side2 => exact HC0.out); rintro e w31 ⟨rfl, hb⟩; refine ⟨_, rfl, ?_⟩; replace HB := sB0 HB hb; (try clear hb)))
  go_ret
  exact ⟨by first | rfl | (simp [errW_none, errW_some] <;> rfl) | (simp [*, errW_none, errW_some] <;> rfl), eB0 HB⟩

/-! ### impl_StepsBetween: function 41 -/
def impl_StepsBetween.f (a0_0 : Int) (a0_1 : Int) (a1_0 : Int) (a1_1 : Int) : Option (Int) := (impl_IsPoint.f a0_0 a0_1).bind fun t308 => (if t308 = true then ((impl_IsPoint.f a1_0 a1_1).bind fun t309 => (if t309 = true then (some (wrap64 ((mx (wrap64 (a0_0 - a1_0)) (wrap64 (a1_0 - a0_0))) + (mx (wrap64 (a0_1 - a1_1)) (wrap64 (a1_1 - a0_1)))))) else (some (-1)))) else (some (-1)))
set_option maxHeartbeats 8000000 in
set_option maxRecDepth 100000 in
theorem impl_StepsBetween.calls (a0_0 : Int) (a0_1 : Int) (a1_0 : Int) (a1_1 : Int) (r : Int) (w : World) (h : impl_StepsBetween.f a0_0 a0_1 a1_0 a1_1 = some r) :
  Calls Try.prog 41 #[.agg #[.int .i64 a0_0, .int .i64 a0_1], .agg #[.int .i64 a1_0, .int .i64 a1_1]] w fun e w' => e = .returned (.int .i64 r) ∧ Below w.heap.size w w' := by
 have hu36 := Try.underlying36
 have HB := Aside0.mk (Below.refl w.heap.size w)
 have H : ((impl_IsPoint.f a0_0 a0_1).bind fun t308 => (if t308 = true then ((impl_IsPoint.f a1_0 a1_1).bind fun t309 => (if t309 = true then (some (wrap64 ((mx (wrap64 (a0_0 - a1_0)) (wrap64 (a1_0 - a0_0))) + (mx (wrap64 (a0_1 - a1_1)) (wrap64 (a1_1 - a0_1)))))) else (some (-1)))) else (some (-1)))) = some r := h
 clear h
 replace H := Option.bind_eq_some_iff.mp H
 obtain ⟨t308, A30, H⟩ := H
 replace H : (if t308 = true then ((impl_IsPoint.f a1_0 a1_1).bind fun t309 => (if t309 = true then (some (wrap64 ((mx (wrap64 (a0_0 - a1_0)) (wrap64 (a1_0 - a0_0))) + (mx (wrap64 (a0_1 - a1_1)) (wrap64 (a1_1 - a0_1)))))) else (some (-1)))) else (some (-1))) = some r := H
 have A3 := Aside0.mk A30
 clear A30
 by_cases c4 : t308 = true
 ·subst c4
  have H1 : ((impl_IsPoint.f a1_0 a1_1).bind fun t309 => (if t309 = true then (some (wrap64 ((mx (wrap64 (a0_0 - a1_0)) (wrap64 (a1_0 - a0_0))) + (mx (wrap64 (a0_1 - a1_1)) (wrap64 (a1_1 - a0_1)))))) else (some (-1)))) = some r := by rw [if_pos rfl] at H; exact H
  clear H
  have H := H1
  clear H1
  replace H := Option.bind_eq_some_iff.mp H
  obtain ⟨t309, A50, H⟩ := H
  replace H : (if t309 = true then (some (wrap64 ((mx (wrap64 (a0_0 - a1_0)) (wrap64 (a1_0 - a0_0))) + (mx (wrap64 (a0_1 - a1_1)) (wrap64 (a1_1 - a0_1)))))) else (some (-1))) = some r := H
  have A5 := Aside0.mk A50
  clear A50
  by_cases c6 : t309 = true
  ·subst c6
   have H1 : (some (wrap64 ((mx (wrap64 (a0_0 - a1_0)) (wrap64 (a1_0 - a0_0))) + (mx (wrap64 (a0_1 - a1_1)) (wrap64 (a1_1 - a0_1)))))) = some r := by rw [if_pos rfl] at H; exact H
   clear H
   have H := H1
   clear H1
   obtain ⟨ji7, hji7⟩ : ∃ j_ : Int, (mx (wrap64 (a0_0 - a1_0)) (wrap64 (a1_0 - a0_0))) = j_ := ⟨_, rfl⟩
   replace H : (some (wrap64 ((ji7) + (mx (wrap64 (a0_1 - a1_1)) (wrap64 (a1_1 - a0_1)))))) = some r := by first | (rw [hji7] at H; exact H) | (simp only [hji7] at H ⊢; exact H)
   (try rw [hji7] at A3)
   (try rw [hji7] at A5)
   have hji7_ : (if (wrap64 (a0_0 - a1_0)) < (wrap64 (a1_0 - a0_0)) then (wrap64 (a1_0 - a0_0)) else (wrap64 (a0_0 - a1_0))) = ji7 := hji7
   obtain ⟨ji8, hji8⟩ : ∃ j_ : Int, (mx (wrap64 (a0_1 - a1_1)) (wrap64 (a1_1 - a0_1))) = j_ := ⟨_, rfl⟩
   replace H : (some (wrap64 ((ji7) + (ji8)))) = some r := by first | (rw [hji8] at H; exact H) | (simp only [hji8] at H ⊢; exact H)
   (try rw [hji8] at A3)
   (try rw [hji8] at A5)
   have hji8_ : (if (wrap64 (a0_1 - a1_1)) < (wrap64 (a1_1 - a0_1)) then (wrap64 (a1_1 - a0_1)) else (wrap64 (a0_1 - a1_1))) = ji8 := hji8
   obtain rfl := Option.some.inj H
   go_enter Try.func41, Try.ntmps41
   go_wp2_with (first | ((with_reducible refine gate_dst (N := 2) rfl ?_); refine box_event ?hg (N := 2) ?hd (cs := #[.int .i64 a0_0, .int .i64 a0_1]) (t := 36) ?hr ?_; (case hd => rfl); (case hg => rfl); (case hr => first | (go_simp; done) | (go_simp; rfl)); intro gb306 hg w9 hbox hb; have BK306 := Aside0.mk (hbox); have GW306 := zB0 HB hg; have GE306 := zB0 HB hg; replace HB := sB0 HB hb; clear hb hbox hg) | ((with_reducible refine gate_dst (N := 3) rfl ?_); refine box_event ?hg (N := 3) ?hd (cs := #[.int .i64 a1_0, .int .i64 a1_1]) (t := 36) ?hr ?_; (case hd => rfl); (case hg => rfl); (case hr => first | (go_simp; done) | (go_simp; rfl)); intro gb307 hg w10 hbox hb; have BK307 := Aside0.mk (hbox); have GW307 := zB1 HB hg GE306; have GE307 := zB1 HB hg GE306; have NB306_307 := nL BK306 hg; have NB307_306 := nG BK306 hg; replace BK306 := mB BK306 hb; replace HB := sB1 HB hb GE306; clear hb hbox hg; have hnb11 := NB306_307.out; have hnc11 := NB307_306.out; have hcz12_0 := bC BK306 0 (.int .i64 a0_0); have hcz12_1 := bC BK306 1 (.int .i64 a0_1); have hfz12_0 := blk_frozen BK306.out 0; have hfz12_1 := blk_frozen BK306.out 1) | ((with_reducible refine gate_callee (f := 40) rfl ?_); refine gL (some 6) Try.func40 #[.agg #[.int .i64 a0_0, .int .i64 a0_1]] ?_; (with_reducible refine (impl_IsPoint.calls a0_0 a0_1 true _ A3.out).mono ?_); rintro e w13 ⟨rfl, hb⟩; refine ⟨_, rfl, ?_⟩; replace BK306 := mB BK306 hb; replace BK307 := mB BK307 hb; replace HB := sB2 HB hb GE306 GE307; (try clear hb); have hcz14_0 := bC BK307 0 (.int .i64 a1_0); have hcz14_1 := bC BK307 1 (.int .i64 a1_1); have hfz14_0 := blk_frozen BK307.out 0; have hfz14_1 := blk_frozen BK307.out 1) | (go_at_call 40; (with_reducible refine (impl_IsPoint.calls a1_0 a1_1 true _ A5.out).mono ?_); rintro e w15 ⟨rfl, hb⟩; replace BK306 := mB BK306 hb; replace BK307 := mB BK307 hb; replace HB := sB2 HB hb GE306 GE307; (try clear hb); have hcz16_0 := bC BK306 0 (.int .i64 a0_0); have hcz16_1 := bC BK306 1 (.int .i64 a0_1); have hfz16_0 := blk_frozen BK306.out 0; have hfz16_1 := blk_frozen BK306.out 1; have hcz17_0 := bC BK307 0 (.int .i64 a1_0); have hcz17_1 := bC BK307 1 (.int .i64 a1_1); have hfz17_0 := blk_frozen BK307.out 0; have hfz17_1 := blk_frozen BK307.out 1))
   go_ret
   exact ⟨by first | rfl | (simp [errW_none, errW_some] <;> rfl) | (simp only [← hji7, ← hji8]; first | rfl | (simp [errW_none, errW_some] <;> rfl)) | (simp [*, errW_none, errW_some] <;> rfl), eB2 HB GE306 GE307⟩
  ·replace c6 := Bool.eq_false_iff.mpr c6
   subst c6
   have H1 : (some (-1)) = some r := by rw [if_neg (show ¬ (false = true) by decide)] at H; exact H
   clear H
   have H := H1
   clear H1
   obtain rfl := Option.some.inj H
   go_enter Try.func41, Try.ntmps41
   go_wp2_with (first | ((with_reducible refine gate_dst (N := 2) rfl ?_); refine box_event ?hg (N := 2) ?hd (cs := #[.int .i64 a0_0, .int .i64 a0_1]) (t := 36) ?hr ?_; (case hd => rfl); (case hg => rfl); (case hr => first | (go_simp; done) | (go_simp; rfl)); intro gb306 hg w18 hbox hb; have BK306 := Aside0.mk (hbox); have GW306 := zB0 HB hg; have GE306 := zB0 HB hg; replace HB := sB0 HB hb; clear hb hbox hg) | ((with_reducible refine gate_dst (N := 3) rfl ?_); refine box_event ?hg (N := 3) ?hd (cs := #[.int .i64 a1_0, .int .i64 a1_1]) (t := 36) ?hr ?_; (case hd => rfl); (case hg => rfl); (case hr => first | (go_simp; done) | (go_simp; rfl)); intro gb307 hg w19 hbox hb; have BK307 := Aside0.mk (hbox); have GW307 := zB1 HB hg GE306; have GE307 := zB1 HB hg GE306; have NB306_307 := nL BK306 hg; have NB307_306 := nG BK306 hg; replace BK306 := mB BK306 hb; replace HB := sB1 HB hb GE306; clear hb hbox hg; have hnb20 := NB306_307.out; have hnc20 := NB307_306.out; have hcz21_0 := bC BK306 0 (.int .i64 a0_0); have hcz21_1 := bC BK306 1 (.int .i64 a0_1); have hfz21_0 := blk_frozen BK306.out 0; have hfz21_1 := blk_frozen BK306.out 1) | ((with_reducible refine gate_callee (f := 40) rfl ?_); refine gL (some 6) Try.func40 #[.agg #[.int .i64 a0_0, .int .i64 a0_1]] ?_; (with_reducible refine (impl_IsPoint.calls a0_0 a0_1 true _ A3.out).mono ?_); rintro e w22 ⟨rfl, hb⟩; refine ⟨_, rfl, ?_⟩; replace BK306 := mB BK306 hb; replace BK307 := mB BK307 hb; replace HB := sB2 HB hb GE306 GE307; (try clear hb); have hcz23_0 := bC BK307 0 (.int .i64 a1_0); have hcz23_1 := bC BK307 1 (.int .i64 a1_1); have hfz23_0 := blk_frozen BK307.out 0; have hfz23_1 := blk_frozen BK307.out 1) | (go_at_call 40; (with_reducible refine (impl_IsPoint.calls a1_0 a1_1 false _ A5.out).mono ?_); rintro e w24 ⟨rfl, hb⟩; replace BK306 := mB BK306 hb; replace BK307 := mB BK307 hb; replace HB := sB2 HB hb GE306 GE307; (try clear hb)))
   go_ret
   exact ⟨by first | rfl | (simp [errW_none, errW_some] <;> rfl) | (simp [*, errW_none, errW_some] <;> rfl), eB2 HB GE306 GE307⟩
 ·replace c4 := Bool.eq_false_iff.mpr c4
  subst c4
  have H1 : (some (-1)) = some r := by rw [if_neg (show ¬ (false = true) by decide)] at H; exact H
  clear H
  have H := H1
  clear H1
  obtain rfl := Option.some.inj H
  go_enter Try.func41, Try.ntmps41
  go_wp2_with (first | ((with_reducible refine gate_dst (N := 2) rfl ?_); refine box_event ?hg (N := 2) ?hd (cs := #[.int .i64 a0_0, .int .i64 a0_1]) (t := 36) ?hr ?_; (case hd => rfl); (case hg => rfl); (case hr => first | (go_simp; done) | (go_simp; rfl)); intro gb306 hg w25 hbox hb; have BK306 := Aside0.mk (hbox); have GW306 := zB0 HB hg; have GE306 := zB0 HB hg; replace HB := sB0 HB hb; clear hb hbox hg) | ((with_reducible refine gate_dst (N := 3) rfl ?_); refine box_event ?hg (N := 3) ?hd (cs := #[.int .i64 a1_0, .int .i64 a1_1]) (t := 36) ?hr ?_; (case hd => rfl); (case hg => rfl); (case hr => first | (go_simp; done) | (go_simp; rfl)); intro gb307 hg w26 hbox hb; have BK307 := Aside0.mk (hbox); have GW307 := zB1 HB hg GE306; have GE307 := zB1 HB hg GE306; have NB306_307 := nL BK306 hg; have NB307_306 := nG BK306 hg; replace BK306 := mB BK306 hb; replace HB := sB1 HB hb GE306; clear hb hbox hg; have hnb27 := NB306_307.out; have hnc27 := NB307_306.out; have hcz28_0 := bC BK306 0 (.int .i64 a0_0); have hcz28_1 := bC BK306 1 (.int .i64 a0_1); have hfz28_0 := blk_frozen BK306.out 0; have hfz28_1 := blk_frozen BK306.out 1) | ((with_reducible refine gate_callee (f := 40) rfl ?_); refine gL (some 6) Try.func40 #[.agg #[.int .i64 a0_0, .int .i64 a0_1]] ?_; (with_reducible refine (impl_IsPoint.calls a0_0 a0_1 false _ A3.out).mono ?_); rintro e w29 ⟨rfl, hb⟩; refine ⟨_, rfl, ?_⟩; replace BK306 := mB BK306 hb; replace BK307 := mB BK307 hb; replace HB := sB2 HB hb GE306 GE307; (try clear hb)))
  go_ret
  exact ⟨by first | rfl | (simp [errW_none, errW_some] <;> rfl) | (simp [*, errW_none, errW_some] <;> rfl), eB2 HB GE306 GE307⟩

end Go.Proofs.Ytomkdfpcckgajaa.PFnLines
