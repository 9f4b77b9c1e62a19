/- What the functions of FnLines compute, each with its proof: this session's own text. -/
import Derived.Test.YtomkdfpcckgajaaQFnLinesx0
import Derived.Test.YtomkdfpcckgajaaQFnLinesx1
import Derived.Test.YtomkdfpcckgajaaQFnLinesx4
import Derived.Test.YtomkdfpcckgajaaQFnLinesx5
namespace Go.Proofs.Ytomkdfpcckgajaa.PFnLines
open Go.RowKit Go.Proofs.YtomkdfpcckgajaaW.PrintWords Go.Proofs.YtomkdfpcckgajaaW.PrintLast Go.Proofs.YtomkdfpcckgajaaW.PrintMore Go.Proofs.Ytomkdfpcckgajaa.Sh
attribute [local go_sem] max2_int min2_int max_two min_two max_three min_three max_four min_four   -- for this text's walks alone
set_option linter.unusedVariables false
set_option linter.unusedSimpArgs false

attribute [local go_sem high] eqA36
/-! ### impl_SegmentsOf: function 18 -/
def impl_SegmentsOf.l0 : Nat → List (S36) → List (S38) → Int → Option ((List (S38)))
 | 0, _, _, _ => none
 | k + 1, x0, x3, x4 => if x4 < (x0.length : Int) then (if 0 ≤ (wrap64 (x4 - 1)) then (if (wrap64 (x4 - 1)) < (x0.length : Int) then (if 0 ≤ x4 then (if x3.length < 4398046511104 then (impl_SegmentsOf.l0 k x0 (x3 ++ [(⟨(⟨(rd_T36 x0 (wrap64 (x4 - 1))).f0, (rd_T36 x0 (wrap64 (x4 - 1))).f1⟩ : S36), (⟨(rd_T36 x0 x4).f0, (rd_T36 x0 x4).f1⟩ : S36)⟩ : S38)]) (wrap64 (x4 + 1))) else (none)) else (none)) else (none)) else (none)) else (some x3)
def impl_SegmentsOf.f (k : Nat) (l0 : List (S36)) : Option ((List (S38))) := (some (([] : List (S38)) : List (S38))).bind fun y228 => ((impl_IsLine.f k l0).bind fun t231 => (if t231 = true then (impl_SegmentsOf.l0 k l0 y228 1) else (some y228)))
theorem impl_SegmentsOf.mono_l : ∀ k, (∀ y0 y1 y2, LeO (impl_SegmentsOf.l0 k y0 y1 y2) (impl_SegmentsOf.l0 (k + 1) y0 y1 y2))
 | 0 => fun _ _ _ r h => by simp [impl_SegmentsOf.l0] at h
 | k + 1 => by
  have ih0 := impl_SegmentsOf.mono_l k
  ·intro y0 y1 y2
   unfold impl_SegmentsOf.l0
   repeat' first
   | (with_reducible exact ih0 _ _ _)
   | (with_reducible exact impl_IsLine.mono _ _)
   | (with_reducible exact LeO.refl _)
   | (with_reducible exact LeO.none _)
   | (with_reducible refine LeO.ite ?_ ?_)
   | (with_reducible refine LeO.bind ?_ (fun _ => ?_))
   | exact ih0 _ _ _
   | exact impl_IsLine.mono _ _
   | exact LeO.none _
   | refine LeO.ite ?_ ?_
   | refine LeO.bind ?_ (fun _ => ?_)
theorem impl_SegmentsOf.mono : ∀ a0 k, LeO (impl_SegmentsOf.f k a0) (impl_SegmentsOf.f (k + 1) a0) := by
 intro a0 k
 have ih0 := impl_SegmentsOf.mono_l k
 unfold impl_SegmentsOf.f
 repeat' first
   | (with_reducible exact ih0 _ _ _)
   | (with_reducible exact impl_IsLine.mono _ _)
   | (with_reducible exact LeO.refl _)
   | (with_reducible exact LeO.none _)
   | (with_reducible refine LeO.ite ?_ ?_)
   | (with_reducible refine LeO.bind ?_ (fun _ => ?_))
   | exact ih0 _ _ _
   | exact impl_IsLine.mono _ _
   | exact LeO.none _
   | refine LeO.ite ?_ ?_
   | refine LeO.bind ?_ (fun _ => ?_)
def impl_SegmentsOf.T7 : Bool × List (List Nat × List Nat) := (true, [([], []), ([], []), ([], []), ([2], [2]), ([1, 3], [1, 3]), ([4], [4]), ([], []), ([], []), ([6, 7], [6, 7]), ([8], [8]), ([5, 9], [5, 9]), ([10], [10]), ([0, 11], [0, 11]), ([12, 12, 0, 1, 2, 3, 4, 5, 6, 7, 8, 9, 10, 11, 12], [0, 12])])
def impl_SegmentsOf.B7 : List Nat := [0, 0, 0, 4, 14, 30, 0, 0, 192, 448, 1022, 2046, 4095, 8191]
theorem impl_SegmentsOf.tab7 : rtab .any (opsOf Try.f18 7) = impl_SegmentsOf.T7 := by kernel_rfl
theorem impl_SegmentsOf.bits7 : waitsOk impl_SegmentsOf.T7.2 impl_SegmentsOf.B7 = true := by kernel_rfl
set_option maxHeartbeats 8000000 in
set_option maxRecDepth 100000 in
theorem impl_SegmentsOf.calls (k : Nat) (A0 : Option Addr) (c0 : Nat) (l0 : List (S36)) (r : List (S38)) (w : World) (hr0 : Kd.C k36 w A0 l0.length l0) (hc0 : l0.length ≤ c0) (h : impl_SegmentsOf.f k l0 = some r) :
  Calls Try.prog 18 #[.slice A0 l0.length c0] w fun e w' => ∃ v0_ : Value, e = .returned (v0_) ∧ Kd.R k38 38 w' w.heap.size (fun _ => True) v0_ r ∧ Below w.heap.size w w' := by
 have hu36 := Try.underlying36
 have hu38 := Try.underlying38
 have HR0 := Aside0.mk hr0
 have HC0 := Aside0.mk hc0
 clear hr0 hc0
 have HB := Aside0.mk (Below.refl w.heap.size w)
 have H : ((some (([] : List (S38)) : List (S38))).bind fun y228 => ((impl_IsLine.f k l0).bind fun t231 => (if t231 = true then (impl_SegmentsOf.l0 k l0 y228 1) else (some y228)))) = some r := h
 clear h
 obtain ⟨y228, hy228⟩ : ∃ y_ : List (S38), y_ = (([] : List (S38))) := ⟨_, rfl⟩
 replace H : ((impl_IsLine.f k l0).bind fun t231 => (if t231 = true then (impl_SegmentsOf.l0 k l0 y228 1) else (some y228))) = some r := by first | (rw [hy228]; with_reducible exact H) | (have H2_ := (Option.bind_some _ _).symm.trans H; rw [hy228]; with_reducible exact H2_) | (have H2_ := (Option.bind_some _ _).symm.trans H; with_reducible exact H2_) | with_reducible exact H | (rw [hy228]; exact H) | exact H
 have Ny228 := Aside0.mk hy228
 clear hy228
 replace H := Option.bind_eq_some_iff.mp H
 obtain ⟨t231, A20, H⟩ := H
 replace H : (if t231 = true then (impl_SegmentsOf.l0 k l0 y228 1) else (some y228)) = some r := H
 have A2 := Aside0.mk A20
 clear A20
 by_cases c3 : t231 = true
 ·subst c3
  have H1 : (impl_SegmentsOf.l0 k l0 y228 1) = some r := by rw [if_pos rfl] at H; exact H
  clear H
  have H := H1
  clear H1
  have H' := Aside0.mk H
  clear H
  go_enter Try.func18, Try.ntmps18
  go_wp2_with (first | ((with_reducible refine gate_dst (N := 5) rfl ?_); refine Kd.R_lit k38 _ 38 ?hg (N := 5) ?hd (xs := ([] : List (S38))) (inner := []) (ok := fun _ => True) (okp := fun _ => True) ?hr ?hp (fun _ hk => hk) trivial (Below.refl _ _) (Nat.le_refl _) (by simp) ?_; (case hd => rfl); (case hg => rfl); (case hr => first | (go_simp; done) | (go_simp; rfl)); (case hp => exact (Reps.none _ _)); intro v229 w4 ho5 hb hg_ hnew_; clear hg_ hnew_; (first | rw [← Ny228.out] at ho5 | (simp only [Int.reduceToNat] at ho5; rw [← Ny228.out] at ho5)); have HO230 := Aside0.mk (Kd.R_lower ho5 (below_size (eB0 HB))); replace HB := sB0 HB hb; clear hb ho5) | ((with_reducible refine gate_callee (f := 12) rfl ?_); refine gL (some 7) Try.func12 #[.slice A0 l0.length c0] ?_; (with_reducible refine (impl_IsLine.calls k _ _ l0 true _ ?side1 ?side2 A2.out).mono ?_); (case side1 => exact cM (Kd.C_below HR0.out HB.out)); (case side2 => exact HC0.out); rintro e w6 ⟨rfl, hb⟩; refine ⟨_, rfl, ?_⟩; replace HO230 := Aside0.mk (Kd.R_below (rM HO230) hb); replace HB := sB0 HB hb; (try clear hb)))
  go_loopg [3, 4] k (fun kq v3 v4 w' => ∃ (x3_1 : List (S38)) (x4_1 : Int), v4 = .int .i64 x4_1 ∧ Aside0 (impl_SegmentsOf.l0 kq l0 x3_1 x4_1 = some r) ∧ Aside0 (kq ≤ k) ∧ Aside0 (Kd.R k38 38 w' w.heap.size (fun _ => True) v3 x3_1) ∧ Aside0 (Below w.heap.size w w'))
  case atStart => exact ⟨(y228), (1), (by first | rfl | (simp; done) | (simp [*]; done)), H', ⟨Nat.le_refl _⟩, ⟨rM HO230⟩, ⟨eB0 HB⟩⟩
  case round =>
   clear H'
   try clear c1
   try clear p2
   try clear c3
   obtain ⟨x3_1, x4_1, rfl, HA, HK1, HO_3, HB⟩ := hrel
   cases gk with
   | zero => exact absurd HA.out (by simp [impl_SegmentsOf.l0])
   | succ k1 =>
    have H := HA.out
    clear HA
    simp only [impl_SegmentsOf.l0] at H
    by_cases c7 : x4_1 < (l0.length : Int)
    ·rw [if_pos c7] at H
     have c7b0 : decide (x4_1 < (l0.length : Int)) = true := decide_eq_true c7
     clear c7
     obtain ⟨ji8, hji8⟩ : ∃ j_ : Int, (wrap64 (x4_1 - 1)) = j_ := ⟨_, rfl⟩
     replace H : (if 0 ≤ (ji8) then (if (ji8) < (l0.length : Int) then (if 0 ≤ x4_1 then (if x3_1.length < 4398046511104 then (impl_SegmentsOf.l0 k1 l0 (x3_1 ++ [(⟨(⟨(rd_T36 l0 (ji8)).f0, (rd_T36 l0 (ji8)).f1⟩ : S36), (⟨(rd_T36 l0 x4_1).f0, (rd_T36 l0 x4_1).f1⟩ : S36)⟩ : S38)]) (wrap64 (x4_1 + 1))) else (none)) else (none)) else (none)) else (none)) = some r := by first | (rw [hji8] at H; exact H) | (simp only [hji8] at H ⊢; exact H)
     have hji8w : (IntKind.i64.wrap (x4_1 - 1)) = ji8 := (i64_w _).trans hji8
     by_cases c9 : 0 ≤ (ji8)
     ·rw [if_pos c9] at H
      have c9b0 : decide (0 ≤ (ji8)) = true := decide_eq_true c9
      clear c9
      by_cases c10 : (ji8) < (l0.length : Int)
      ·rw [if_pos c10] at H
       have c10b0 : decide ((ji8) < (l0.length : Int)) = true := decide_eq_true c10
       clear c10
       by_cases c11 : 0 ≤ x4_1
       ·rw [if_pos c11] at H
        have c11b0 : decide (0 ≤ x4_1) = true := decide_eq_true c11
        clear c11
        by_cases c12 : x3_1.length < 4398046511104
        ·rw [if_pos c12] at H
         have LMc12 := Aside0.mk c12
         clear c12
         obtain ⟨y234, hy234⟩ : ∃ y_ : List (S38), y_ = (x3_1 ++ [(⟨(⟨(rd_T36 l0 (ji8)).f0, (rd_T36 l0 (ji8)).f1⟩ : S36), (⟨(rd_T36 l0 x4_1).f0, (rd_T36 l0 x4_1).f1⟩ : S36)⟩ : S38)]) := ⟨_, rfl⟩
         replace H : (impl_SegmentsOf.l0 k1 l0 y234 (wrap64 (x4_1 + 1))) = some r := by first | (rw [hy234]; with_reducible exact H) | (have H2_ := (Option.bind_some _ _).symm.trans H; rw [hy234]; with_reducible exact H2_) | (have H2_ := (Option.bind_some _ _).symm.trans H; with_reducible exact H2_) | with_reducible exact H | (rw [hy234]; exact H) | exact H
         have Ny234 := Aside0.mk hy234
         clear hy234
         have H' := Aside0.mk H
         clear H
         try go_wp2
         replace HO_3 := Aside0.mk (Kd.R_drew HO_3.out)
         replace HB := Aside0.mk (below_drew1 HB.out)
         have p232 : 0 ≤ ((ji8) : Int) := of_decide_eq_true (by first | (with_reducible assumption) | assumption)
         have q232 : (ji8) < (l0.length : Int) := of_decide_eq_true (by first | (with_reducible assumption) | assumption)
         obtain ⟨ad232, e232, hx232_0, hx232_1⟩ := at_T36 HR0.out (ji8) p232 q232
         have hw232_1 := hx232_1
         have hw232_0 := hx232_0
         cases e232
         replace hx232_0 := (HB.out.cell (World.block_lt_of_cell? w _ hx232_0)).trans hx232_0
         replace hx232_1 := (HB.out.cell (World.block_lt_of_cell? w _ hx232_1)).trans hx232_1
         replace p232 := eq_true p232
         replace q232 := eq_true q232
         have p233 : 0 ≤ (x4_1 : Int) := of_decide_eq_true (by first | (with_reducible assumption) | assumption)
         have q233 : x4_1 < (l0.length : Int) := of_decide_eq_true (by first | (with_reducible assumption) | assumption)
         obtain ⟨ad233, e233, hx233_0, hx233_1⟩ := at_T36 HR0.out x4_1 p233 q233
         have hw233_1 := hx233_1
         have hw233_0 := hx233_0
         obtain rfl : ad232 = ad233 := (by injection e233)
         replace hx233_0 := (HB.out.cell (World.block_lt_of_cell? w _ hx233_0)).trans hx233_0
         replace hx233_1 := (HB.out.cell (World.block_lt_of_cell? w _ hx233_1)).trans hx233_1
         replace p233 := eq_true p233
         replace q233 := eq_true q233
         refine start_ (n := 14) (S := fun w' => w'.cell? (ad232.add (((ji8)).toNat * 2)) = some (.int .i64 ((rd_T36 l0 (ji8)).f0)) ∧ w'.cell? ⟨(ad232.add (((ji8)).toNat * 2)).block, (ad232.add (((ji8)).toNat * 2)).off + 1, none⟩ = some (.int .i64 ((rd_T36 l0 (ji8)).f1)) ∧ w'.cell? (ad232.add ((x4_1).toNat * 2)) = some (.int .i64 ((rd_T36 l0 x4_1).f0)) ∧ w'.cell? ⟨(ad232.add ((x4_1).toNat * 2)).block, (ad232.add ((x4_1).toNat * 2)).off + 1, none⟩ = some (.int .i64 ((rd_T36 l0 x4_1).f1))) (ds := []) #[false, false, false, false, false, false, false, false, false, false, false, false, false, false] (by kernel_rfl) rfl rfl ⟨((HB.out.cell (World.block_lt_of_cell? w _ hw232_0)).trans hw232_0), ((HB.out.cell (World.block_lt_of_cell? w _ hw232_1)).trans hw232_1), ((HB.out.cell (World.block_lt_of_cell? w _ hw233_0)).trans hw233_0), ((HB.out.cell (World.block_lt_of_cell? w _ hw233_1)).trans hw233_1)⟩ (fun hHeld => ?_); refine with_tabW impl_SegmentsOf.tab7 impl_SegmentsOf.bits7 (fun HT_ HW_ => ?_)
         generalize wr.drew = w13 at HO_3 HB hx232_0 hx232_1 hx233_0 hx233_1 hHeld ⊢
         refine pA HT_.out 0 16 ?_
         refine pA HT_.out 1 17 ?_
         refine pA HT_.out 2 18 ?_
         refine pA HT_.out 3 19 ?_
         refine pA HT_.out 4 20 ?_
         refine pA HT_.out 6 22 ?_
         refine pA HT_.out 7 23 ?_
         refine pA HT_.out 8 24 ?_
         refine tA4 HT_.out HW_.out 5 21 hHeld ?_
         refine tA4 HT_.out HW_.out 9 25 hHeld ?_
         refine pA HT_.out 10 26 ?_
         refine one_ (i := 11) (N := some 27) #[true, true, true, true, true, true, true, true, true, true, true, true, false, false] rfl rfl (one_of HT_.out (by kernel_rfl)) (by decide) (fun K hK => ?_)
         refine value_ (w1 := ?_) (v := ?_) (by rfl) rfl ?_ ?_
         rotate_left 2
         ·go_simp
          constructor
          ·rfl
          ·rfl
         refine hK.out _ _ ⟨(World.cell?_alloc_lt _ _ _ (World.block_lt_of_cell? _ _ (((HB.out.cell (World.block_lt_of_cell? w _ hw232_0)).trans hw232_0)))).trans (((HB.out.cell (World.block_lt_of_cell? w _ hw232_0)).trans hw232_0)), (World.cell?_alloc_lt _ _ _ (World.block_lt_of_cell? _ _ (((HB.out.cell (World.block_lt_of_cell? w _ hw232_1)).trans hw232_1)))).trans (((HB.out.cell (World.block_lt_of_cell? w _ hw232_1)).trans hw232_1)), (World.cell?_alloc_lt _ _ _ (World.block_lt_of_cell? _ _ (((HB.out.cell (World.block_lt_of_cell? w _ hw233_0)).trans hw233_0)))).trans (((HB.out.cell (World.block_lt_of_cell? w _ hw233_0)).trans hw233_0)), (World.cell?_alloc_lt _ _ _ (World.block_lt_of_cell? _ _ (((HB.out.cell (World.block_lt_of_cell? w _ hw233_1)).trans hw233_1)))).trans (((HB.out.cell (World.block_lt_of_cell? w _ hw233_1)).trans hw233_1))⟩ (fun hHeld => ?_)
         clear hK K
         refine norm_ (a' := ?_) ?_ ?_
         rotate_left
         ·show Act.put _ (some 27) _ = _
          simp only [Act.put, List.setIfInBounds_toArray, List.set_cons_zero, List.set_cons_succ, i64_w, i32_w]
          rfl
         refine one_ (i := 12) (N := some 28) #[true, true, true, true, true, true, true, true, true, true, true, true, true, false] rfl rfl (one_of HT_.out (by kernel_rfl)) (by decide) (fun K hK => ?_)
         refine Kd.R_append_step k38 (w0 := w) w.heap.size (by rfl) (.tmp 16) (.tmp 27) 33 38 (.agg #[(.int .i64 0), (.int .i64 0), (.int .i64 0), (.int .i64 0)]) 32 rfl Try.underlying33 info38 rfl (by decide) (by omega) u3 x3_1 (⟨(⟨(rd_T36 l0 (ji8)).f0, (rd_T36 l0 (ji8)).f1⟩ : S36), (⟨(rd_T36 l0 x4_1).f0, (rd_T36 l0 x4_1).f1⟩ : S36)⟩ : S38) [.int .i64 ((rd_T36 l0 (ji8)).f0), .int .i64 ((rd_T36 l0 (ji8)).f1), .int .i64 ((rd_T36 l0 x4_1).f0), .int .i64 ((rd_T36 l0 x4_1).f1)] (fun _ => True) (fun _ => False) rfl rfl ?aP (fun _ hk => hk.elim) ?aF ?aO ?aB ?aS ?aL ?_
         (case aP => exact k38_mkM _ _ _ (⟨(⟨(rd_T36 l0 (ji8)).f0, (rd_T36 l0 (ji8)).f1⟩ : S36), (⟨(rd_T36 l0 x4_1).f0, (rd_T36 l0 x4_1).f1⟩ : S36)⟩ : S38))
         (case aB => exact (eB0 HB))
         (case aF => exact (fun _ _ => trivial))
         (case aO => exact (rM HO_3))
         (case aS => exact (below_size (eB0 HB)))
         (case aL => have := LMc12.out; omega)
         intro v235 w14 ho hb hg hat
         rw [← Ny234.out] at ho
         have n0_ := Aside0.mk (hb)
         have n1_ := Aside0.mk (ho)
         clear HB
         clear HO_3
         have HB := n0_
         have HO236 := n1_
         clear n0_ n1_
         clear ho hb hg hat
         refine hK.out _ _ ⟨((HB.out.cell (World.block_lt_of_cell? w _ hw232_0)).trans hw232_0), ((HB.out.cell (World.block_lt_of_cell? w _ hw232_1)).trans hw232_1), ((HB.out.cell (World.block_lt_of_cell? w _ hw233_0)).trans hw233_0), ((HB.out.cell (World.block_lt_of_cell? w _ hw233_1)).trans hw233_1)⟩ (fun hHeld => ?_)
         clear hK K
         refine norm_ (a' := ?_) ?_ ?_
         rotate_left
         ·show Act.put _ (some 28) _ = _
          simp only [Act.put, List.setIfInBounds_toArray, List.set_cons_zero, List.set_cons_succ, i64_w, i32_w]
          rfl
         refine pA HT_.out 13 3 ?_
         refine done_ (done_of HT_.out (by kernel_rfl)) ?_
         try go_wp2
         go_roundg k1
         case measure => have := HK1.out; omega
         case rel => exact ⟨(y234), (wrap64 (x4_1 + 1)), (by first | rfl | (simp; done) | (simp [*]; done)), H', ⟨by have := HK1.out; omega⟩, ⟨rM HO236⟩, ⟨eB0 HB⟩⟩
        ·rw [if_neg c12] at H
         exact absurd H (by simp)
       ·rw [if_neg c11] at H
        exact absurd H (by simp)
      ·rw [if_neg c10] at H
       exact absurd H (by simp)
     ·rw [if_neg c9] at H
      exact absurd H (by simp)
    ·rw [if_neg c7] at H
     have c7b0 : decide (x4_1 < (l0.length : Int)) = false := decide_eq_false c7
     clear c7
     obtain rfl := Option.some.inj H
     go_wp2
     go_ret
     exact ⟨_, by first | rfl | (simp [errW_none, errW_some] <;> rfl) | (simp [*, errW_none, errW_some] <;> rfl), rM HO_3, eB0 HB⟩
 ·replace c3 := Bool.eq_false_iff.mpr c3
  subst c3
  have H1 : (some y228) = some r := by rw [if_neg (show ¬ (false = true) by decide)] at H; exact H
  clear H
  have H := H1
  clear H1
  obtain rfl := Option.some.inj H
  go_enter Try.func18, Try.ntmps18
  go_wp2_with (first | ((with_reducible refine gate_dst (N := 5) rfl ?_); refine Kd.R_lit k38 _ 38 ?hg (N := 5) ?hd (xs := ([] : List (S38))) (inner := []) (ok := fun _ => True) (okp := fun _ => True) ?hr ?hp (fun _ hk => hk) trivial (Below.refl _ _) (Nat.le_refl _) (by simp) ?_; (case hd => rfl); (case hg => rfl); (case hr => first | (go_simp; done) | (go_simp; rfl)); (case hp => exact (Reps.none _ _)); intro v229 w15 ho16 hb hg_ hnew_; clear hg_ hnew_; (first | rw [← Ny228.out] at ho16 | (simp only [Int.reduceToNat] at ho16; rw [← Ny228.out] at ho16)); have HO230 := Aside0.mk (Kd.R_lower ho16 (below_size (eB0 HB))); replace HB := sB0 HB hb; clear hb ho16) | ((with_reducible refine gate_callee (f := 12) rfl ?_); refine gL (some 7) Try.func12 #[.slice A0 l0.length c0] ?_; (with_reducible refine (impl_IsLine.calls k _ _ l0 false _ ?side1 ?side2 A2.out).mono ?_); (case side1 => exact cM (Kd.C_below HR0.out HB.out)); (case side2 => exact HC0.out); rintro e w17 ⟨rfl, hb⟩; refine ⟨_, rfl, ?_⟩; replace HO230 := Aside0.mk (Kd.R_below (rM HO230) hb); replace HB := sB0 HB hb; (try clear hb)))
  go_ret
  exact ⟨_, by first | rfl | (simp [errW_none, errW_some] <;> rfl) | (simp [*, errW_none, errW_some] <;> rfl), rM HO230, eB0 HB⟩

/-! ### impl_IsSegment: function 28 -/
def impl_IsSegment.f (a0_0 : Int) (a0_1 : Int) (a0_2 : Int) (a0_3 : Int) : Option (Bool) := (impl_IsPoint.f a0_0 a0_1).bind fun t238 => (if t238 = true then ((impl_IsPoint.f a0_2 a0_3).bind fun t239 => (if t239 = true then (some (!(a0_0 == a0_2) || (!(a0_1 == a0_3)))) else (some false))) else (some false))
set_option maxHeartbeats 8000000 in
set_option maxRecDepth 100000 in
theorem impl_IsSegment.calls (a0_0 : Int) (a0_1 : Int) (a0_2 : Int) (a0_3 : Int) (r : Bool) (w : World) (h : impl_IsSegment.f a0_0 a0_1 a0_2 a0_3 = some r) :
  Calls Try.prog 28 #[.agg #[.int .i64 a0_0, .int .i64 a0_1, .int .i64 a0_2, .int .i64 a0_3]] w fun e w' => e = .returned (.bool r) ∧ Below w.heap.size w w' := by
 have hu38 := Try.underlying38
 have hu36 := Try.underlying36
 have HB := Aside0.mk (Below.refl w.heap.size w)
 have H : ((impl_IsPoint.f a0_0 a0_1).bind fun t238 => (if t238 = true then ((impl_IsPoint.f a0_2 a0_3).bind fun t239 => (if t239 = true then (some (!(a0_0 == a0_2) || (!(a0_1 == a0_3)))) else (some false))) else (some false))) = some r := h
 clear h
 replace H := Option.bind_eq_some_iff.mp H
 obtain ⟨t238, A20, H⟩ := H
 replace H : (if t238 = true then ((impl_IsPoint.f a0_2 a0_3).bind fun t239 => (if t239 = true then (some (!(a0_0 == a0_2) || (!(a0_1 == a0_3)))) else (some false))) else (some false)) = some r := H
 have A2 := Aside0.mk A20
 clear A20
 by_cases c3 : t238 = true
 ·subst c3
  have H1 : ((impl_IsPoint.f a0_2 a0_3).bind fun t239 => (if t239 = true then (some (!(a0_0 == a0_2) || (!(a0_1 == a0_3)))) else (some false))) = some r := by rw [if_pos rfl] at H; exact H
  clear H
  have H := H1
  clear H1
  replace H := Option.bind_eq_some_iff.mp H
  obtain ⟨t239, A40, H⟩ := H
  replace H : (if t239 = true then (some (!(a0_0 == a0_2) || (!(a0_1 == a0_3)))) else (some false)) = some r := H
  have A4 := Aside0.mk A40
  clear A40
  by_cases c5 : t239 = true
  ·subst c5
   have H1 : (some (!(a0_0 == a0_2) || (!(a0_1 == a0_3)))) = some r := by rw [if_pos rfl] at H; exact H
   clear H
   have H := H1
   clear H1
   obtain rfl := Option.some.inj H
   go_enter Try.func28, Try.ntmps28
   go_wp2_with (first | ((with_reducible refine gate_dst (N := 1) rfl ?_); refine box_event ?hg (N := 1) ?hd (cs := #[.int .i64 a0_0, .int .i64 a0_1, .int .i64 a0_2, .int .i64 a0_3]) (t := 38) ?hr ?_; (case hd => rfl); (case hg => rfl); (case hr => first | (go_simp; done) | (go_simp; rfl)); intro gb237 hg w6 hbox hb; have BK237 := Aside0.mk (hbox); have GW237 := zB0 HB hg; have GE237 := zB0 HB hg; replace HB := sB0 HB hb; clear hb hbox hg; have hcz7_0 := bC BK237 0 (.int .i64 a0_0); have hcz7_1 := bC BK237 1 (.int .i64 a0_1); have hcz7_2 := bC BK237 2 (.int .i64 a0_2); have hcz7_3 := bC BK237 3 (.int .i64 a0_3); have hfz7_0 := blk_frozen BK237.out 0; have hfz7_1 := blk_frozen BK237.out 1; have hfz7_2 := blk_frozen BK237.out 2; have hfz7_3 := blk_frozen BK237.out 3) | ((with_reducible refine gate_callee (f := 40) rfl ?_); refine gL (some 5) Try.func40 #[.agg #[.int .i64 a0_0, .int .i64 a0_1]] ?_; (with_reducible refine (impl_IsPoint.calls a0_0 a0_1 true _ A2.out).mono ?_); rintro e w8 ⟨rfl, hb⟩; refine ⟨_, rfl, ?_⟩; replace BK237 := mB BK237 hb; replace HB := sB1 HB hb GE237; (try clear hb); have hcz9_0 := bC BK237 0 (.int .i64 a0_0); have hcz9_1 := bC BK237 1 (.int .i64 a0_1); have hcz9_2 := bC BK237 2 (.int .i64 a0_2); have hcz9_3 := bC BK237 3 (.int .i64 a0_3); have hfz9_0 := blk_frozen BK237.out 0; have hfz9_1 := blk_frozen BK237.out 1; have hfz9_2 := blk_frozen BK237.out 2; have hfz9_3 := blk_frozen BK237.out 3) | (go_at_call 40; (with_reducible refine (impl_IsPoint.calls a0_2 a0_3 true _ A4.out).mono ?_); rintro e w10 ⟨rfl, hb⟩; replace BK237 := mB BK237 hb; replace HB := sB1 HB hb GE237; (try clear hb); have hcz11_0 := bC BK237 0 (.int .i64 a0_0); have hcz11_1 := bC BK237 1 (.int .i64 a0_1); have hcz11_2 := bC BK237 2 (.int .i64 a0_2); have hcz11_3 := bC BK237 3 (.int .i64 a0_3); have hfz11_0 := blk_frozen BK237.out 0; have hfz11_1 := blk_frozen BK237.out 1; have hfz11_2 := blk_frozen BK237.out 2; have hfz11_3 := blk_frozen BK237.out 3))
   go_ret
   exact ⟨by first | rfl | (simp [errW_none, errW_some] <;> rfl) | (simp [*, errW_none, errW_some] <;> rfl), eB1 HB GE237⟩
  ·replace c5 := Bool.eq_false_iff.mpr c5
   subst c5
   have H1 : (some false) = some r := by rw [if_neg (show ¬ (false = true) by decide)] at H; exact H
   clear H
   have H := H1
   clear H1
   obtain rfl := Option.some.inj H
   go_enter Try.func28, Try.ntmps28
   go_wp2_with (first | ((with_reducible refine gate_dst (N := 1) rfl ?_); refine box_event ?hg (N := 1) ?hd (cs := #[.int .i64 a0_0, .int .i64 a0_1, .int .i64 a0_2, .int .i64 a0_3]) (t := 38) ?hr ?_; (case hd => rfl); (case hg => rfl); (case hr => first | (go_simp; done) | (go_simp; rfl)); intro gb237 hg w12 hbox hb; have BK237 := Aside0.mk (hbox); have GW237 := zB0 HB hg; have GE237 := zB0 HB hg; replace HB := sB0 HB hb; clear hb hbox hg; have hcz13_0 := bC BK237 0 (.int .i64 a0_0); have hcz13_1 := bC BK237 1 (.int .i64 a0_1); have hcz13_2 := bC BK237 2 (.int .i64 a0_2); have hcz13_3 := bC BK237 3 (.int .i64 a0_3); have hfz13_0 := blk_frozen BK237.out 0; have hfz13_1 := blk_frozen BK237.out 1; have hfz13_2 := blk_frozen BK237.out 2; have hfz13_3 := blk_frozen BK237.out 3) | ((with_reducible refine gate_callee (f := 40) rfl ?_); refine gL (some 5) Try.func40 #[.agg #[.int .i64 a0_0, .int .i64 a0_1]] ?_; (with_reducible refine (impl_IsPoint.calls a0_0 a0_1 true _ A2.out).mono ?_); rintro e w14 ⟨rfl, hb⟩; refine ⟨_, rfl, ?_⟩; replace BK237 := mB BK237 hb; replace HB := sB1 HB hb GE237; (try clear hb); have hcz15_0 := bC BK237 0 (.int .i64 a0_0); have hcz15_1 := bC BK237 1 (.int .i64 a0_1); have hcz15_2 := bC BK237 2 (.int .i64 a0_2); have hcz15_3 := bC BK237 3 (.int .i64 a0_3); have hfz15_0 := blk_frozen BK237.out 0; have hfz15_1 := blk_frozen BK237.out 1; have hfz15_2 := blk_frozen BK237.out 2; have hfz15_3 := blk_frozen BK237.out 3) | (go_at_call 40; (with_reducible refine (impl_IsPoint.calls a0_2 a0_3 false _ A4.out).mono ?_); rintro e w16 ⟨rfl, hb⟩; replace BK237 := mB BK237 hb; replace HB := sB1 HB hb GE237; (try clear hb)))
   go_ret
   exact ⟨by first | rfl | (simp [errW_none, errW_some] <;> rfl) | (simp [*, errW_none, errW_some] <;> rfl), eB1 HB GE237⟩
 ·replace c3 := Bool.eq_false_iff.mpr c3
  subst c3
  have H1 : (some false) = some r := by rw [if_neg (show ¬ (false = true) by decide)] at H; exact H
  clear H
  have H := H1
  clear H1
  obtain rfl := Option.some.inj H
  go_enter Try.func28, Try.ntmps28
  go_wp2_with (first | ((with_reducible refine gate_dst (N := 1) rfl ?_); refine box_event ?hg (N := 1) ?hd (cs := #[.int .i64 a0_0, .int .i64 a0_1, .int .i64 a0_2, .int .i64 a0_3]) (t := 38) ?hr ?_; (case hd => rfl); (case hg => rfl); (case hr => first | (go_simp; done) | (go_simp; rfl)); intro gb237 hg w17 hbox hb; have BK237 := Aside0.mk (hbox); have GW237 := zB0 HB hg; have GE237 := zB0 HB hg; replace HB := sB0 HB hb; clear hb hbox hg; have hcz18_0 := bC BK237 0 (.int .i64 a0_0); have hcz18_1 := bC BK237 1 (.int .i64 a0_1); have hcz18_2 := bC BK237 2 (.int .i64 a0_2); have hcz18_3 := bC BK237 3 (.int .i64 a0_3); have hfz18_0 := blk_frozen BK237.out 0; have hfz18_1 := blk_frozen BK237.out 1; have hfz18_2 := blk_frozen BK237.out 2; have hfz18_3 := blk_frozen BK237.out 3) | ((with_reducible refine gate_callee (f := 40) rfl ?_); refine gL (some 5) Try.func40 #[.agg #[.int .i64 a0_0, .int .i64 a0_1]] ?_; (with_reducible refine (impl_IsPoint.calls a0_0 a0_1 false _ A2.out).mono ?_); rintro e w19 ⟨rfl, hb⟩; refine ⟨_, rfl, ?_⟩; replace BK237 := mB BK237 hb; replace HB := sB1 HB hb GE237; (try clear hb)))
  go_ret
  exact ⟨by first | rfl | (simp [errW_none, errW_some] <;> rfl) | (simp [*, errW_none, errW_some] <;> rfl), eB1 HB GE237⟩

/-! ### cmp_isNaN_int: function 75 -/
def cmp_isNaN_int.f (a0 : Int) : Option (Bool) := some (a0 != a0)
set_option maxHeartbeats 8000000 in
set_option maxRecDepth 100000 in
theorem cmp_isNaN_int.calls (a0 : Int) (r : Bool) (w : World) (h : cmp_isNaN_int.f a0 = some r) :
  Calls Try.prog 75 #[.int .i64 a0] w fun e w' => e = .returned (.bool r) ∧ Drawn0 w w' := by
 have H : (some (a0 != a0)) = some r := h
 clear h
 obtain rfl := Option.some.inj H
 go_enter Try.func75, Try.ntmps75
 go_wp2
 go_ret
 exact ⟨by first | rfl | (simp; done) | (simp [*]; done), by repeat (first | exact Drawn0.refl _ | apply Drawn0.step)⟩

/-! ### cmp_Compare_int: function 67 -/
def cmp_Compare_int.f (a0 : Int) (a1 : Int) : Option (Int) := (cmp_isNaN_int.f a0).bind fun t240 => ((cmp_isNaN_int.f a1).bind fun t241 => (if t240 = true then (if t241 = true then (some 0) else (some (-1))) else (if t241 = true then (some 1) else (if a0 < a1 then (some (-1)) else (if a0 > a1 then (some 1) else (some 0))))))
set_option maxHeartbeats 8000000 in
set_option maxRecDepth 100000 in
theorem cmp_Compare_int.calls (a0 : Int) (a1 : Int) (r : Int) (w : World) (h : cmp_Compare_int.f a0 a1 = some r) :
  Calls Try.prog 67 #[.int .i64 a0, .int .i64 a1] w fun e w' => e = .returned (.int .i64 r) ∧ Drawn0 w w' := by
 have H : ((cmp_isNaN_int.f a0).bind fun t240 => ((cmp_isNaN_int.f a1).bind fun t241 => (if t240 = true then (if t241 = true then (some 0) else (some (-1))) else (if t241 = true then (some 1) else (if a0 < a1 then (some (-1)) else (if a0 > a1 then (some 1) else (some 0))))))) = some r := h
 clear h
 replace H := Option.bind_eq_some_iff.mp H
 obtain ⟨t240, A30, H⟩ := H
 replace H : ((cmp_isNaN_int.f a1).bind fun t241 => (if t240 = true then (if t241 = true then (some 0) else (some (-1))) else (if t241 = true then (some 1) else (if a0 < a1 then (some (-1)) else (if a0 > a1 then (some 1) else (some 0)))))) = some r := H
 have A3 := Aside0.mk A30
 clear A30
 replace H := Option.bind_eq_some_iff.mp H
 obtain ⟨t241, A40, H⟩ := H
 replace H : (if t240 = true then (if t241 = true then (some 0) else (some (-1))) else (if t241 = true then (some 1) else (if a0 < a1 then (some (-1)) else (if a0 > a1 then (some 1) else (some 0))))) = some r := H
 have A4 := Aside0.mk A40
 clear A40
 by_cases c5 : t240 = true
 ·subst c5
  have H1 : (if t241 = true then (some 0) else (some (-1))) = some r := by rw [if_pos rfl] at H; exact H
  clear H
  have H := H1
  clear H1
  by_cases c6 : t241 = true
  ·subst c6
   have H1 : (some 0) = some r := by rw [if_pos rfl] at H; exact H
   clear H
   have H := H1
   clear H1
   obtain rfl := Option.some.inj H
   go_enter Try.func67, Try.ntmps67
   go_wp2_with (first | ((with_reducible refine gate_callee (f := 75) rfl ?_); refine gL (some 8) Try.func75 #[.int .i64 a0] ?_; (with_reducible refine (cmp_isNaN_int.calls a0 true _ A3.out).mono ?_); rintro e w' ⟨rfl, ⟨nd, rfl⟩⟩; refine ⟨_, rfl, ?_⟩) | ((with_reducible refine gate_callee (f := 75) rfl ?_); refine gL (some 10) Try.func75 #[.int .i64 a1] ?_; (with_reducible refine (cmp_isNaN_int.calls a1 true _ A4.out).mono ?_); rintro e w' ⟨rfl, ⟨nd, rfl⟩⟩; refine ⟨_, rfl, ?_⟩))
   go_ret
   exact ⟨by first | rfl | (simp; done) | (simp [*]; done), by repeat (first | exact Drawn0.refl _ | apply Drawn0.step)⟩
  ·replace c6 := Bool.eq_false_iff.mpr c6
   subst c6
   have H1 : (some (-1)) = some r := by rw [if_neg (show ¬ (false = true) by decide)] at H; exact H
   clear H
   have H := H1
   clear H1
   obtain rfl := Option.some.inj H
   go_enter Try.func67, Try.ntmps67
   go_wp2_with (first | ((with_reducible refine gate_callee (f := 75) rfl ?_); refine gL (some 8) Try.func75 #[.int .i64 a0] ?_; (with_reducible refine (cmp_isNaN_int.calls a0 true _ A3.out).mono ?_); rintro e w' ⟨rfl, ⟨nd, rfl⟩⟩; refine ⟨_, rfl, ?_⟩) | ((with_reducible refine gate_callee (f := 75) rfl ?_); refine gL (some 10) Try.func75 #[.int .i64 a1] ?_; (with_reducible refine (cmp_isNaN_int.calls a1 false _ A4.out).mono ?_); rintro e w' ⟨rfl, ⟨nd, rfl⟩⟩; refine ⟨_, rfl, ?_⟩))
   go_ret
   exact ⟨by first | rfl | (simp; done) | (simp [*]; done), by repeat (first | exact Drawn0.refl _ | apply Drawn0.step)⟩
 ·replace c5 := Bool.eq_false_iff.mpr c5
  subst c5
  have H1 : (if t241 = true then (some 1) else (if a0 < a1 then (some (-1)) else (if a0 > a1 then (some 1) else (some 0)))) = some r := by rw [if_neg (show ¬ (false = true) by decide)] at H; exact H
  clear H
  have H := H1
  clear H1
  by_cases c7 : t241 = true
  ·subst c7
   have H1 : (some 1) = some r := by rw [if_pos rfl] at H; exact H
   clear H
   have H := H1
   clear H1
   obtain rfl := Option.some.inj H
   go_enter Try.func67, Try.ntmps67
   go_wp2_with (first | ((with_reducible refine gate_callee (f := 75) rfl ?_); refine gL (some 8) Try.func75 #[.int .i64 a0] ?_; (with_reducible refine (cmp_isNaN_int.calls a0 false _ A3.out).mono ?_); rintro e w' ⟨rfl, ⟨nd, rfl⟩⟩; refine ⟨_, rfl, ?_⟩) | ((with_reducible refine gate_callee (f := 75) rfl ?_); refine gL (some 10) Try.func75 #[.int .i64 a1] ?_; (with_reducible refine (cmp_isNaN_int.calls a1 true _ A4.out).mono ?_); rintro e w' ⟨rfl, ⟨nd, rfl⟩⟩; refine ⟨_, rfl, ?_⟩))
   go_ret
   exact ⟨by first | rfl | (simp; done) | (simp [*]; done), by repeat (first | exact Drawn0.refl _ | apply Drawn0.step)⟩
  ·replace c7 := Bool.eq_false_iff.mpr c7
   subst c7
   have H1 : (if a0 < a1 then (some (-1)) else (if a0 > a1 then (some 1) else (some 0))) = some r := by rw [if_neg (show ¬ (false = true) by decide)] at H; exact H
   clear H
   have H := H1
   clear H1
   by_cases c8 : a0 < a1
   ·rw [if_pos c8] at H
    have c8b0 : decide (a0 < a1) = true := decide_eq_true c8
    clear c8
    obtain rfl := Option.some.inj H
    go_enter Try.func67, Try.ntmps67
    go_wp2_with (first | ((with_reducible refine gate_callee (f := 75) rfl ?_); refine gL (some 8) Try.func75 #[.int .i64 a0] ?_; (with_reducible refine (cmp_isNaN_int.calls a0 false _ A3.out).mono ?_); rintro e w' ⟨rfl, ⟨nd, rfl⟩⟩; refine ⟨_, rfl, ?_⟩) | ((with_reducible refine gate_callee (f := 75) rfl ?_); refine gL (some 10) Try.func75 #[.int .i64 a1] ?_; (with_reducible refine (cmp_isNaN_int.calls a1 false _ A4.out).mono ?_); rintro e w' ⟨rfl, ⟨nd, rfl⟩⟩; refine ⟨_, rfl, ?_⟩))
    go_ret
    exact ⟨by first | rfl | (simp; done) | (simp [*]; done), by repeat (first | exact Drawn0.refl _ | apply Drawn0.step)⟩
   ·rw [if_neg c8] at H
    have c8b0 : decide (a0 < a1) = false := decide_eq_false c8
    clear c8
    by_cases c9 : a0 > a1
    ·rw [if_pos c9] at H
     have c9b0 : decide (a1 < a0) = true := decide_eq_true c9
     clear c9
     obtain rfl := Option.some.inj H
     go_enter Try.func67, Try.ntmps67
     go_wp2_with (first | ((with_reducible refine gate_callee (f := 75) rfl ?_); refine gL (some 8) Try.func75 #[.int .i64 a0] ?_; (with_reducible refine (cmp_isNaN_int.calls a0 false _ A3.out).mono ?_); rintro e w' ⟨rfl, ⟨nd, rfl⟩⟩; refine ⟨_, rfl, ?_⟩) | ((with_reducible refine gate_callee (f := 75) rfl ?_); refine gL (some 10) Try.func75 #[.int .i64 a1] ?_; (with_reducible refine (cmp_isNaN_int.calls a1 false _ A4.out).mono ?_); rintro e w' ⟨rfl, ⟨nd, rfl⟩⟩; refine ⟨_, rfl, ?_⟩))
     go_ret
     exact ⟨by first | rfl | (simp; done) | (simp [*]; done), by repeat (first | exact Drawn0.refl _ | apply Drawn0.step)⟩
    ·rw [if_neg c9] at H
     have c9b0 : decide (a1 < a0) = false := decide_eq_false c9
     clear c9
     obtain rfl := Option.some.inj H
     go_enter Try.func67, Try.ntmps67
     go_wp2_with (first | ((with_reducible refine gate_callee (f := 75) rfl ?_); refine gL (some 8) Try.func75 #[.int .i64 a0] ?_; (with_reducible refine (cmp_isNaN_int.calls a0 false _ A3.out).mono ?_); rintro e w' ⟨rfl, ⟨nd, rfl⟩⟩; refine ⟨_, rfl, ?_⟩) | ((with_reducible refine gate_callee (f := 75) rfl ?_); refine gL (some 10) Try.func75 #[.int .i64 a1] ?_; (with_reducible refine (cmp_isNaN_int.calls a1 false _ A4.out).mono ?_); rintro e w' ⟨rfl, ⟨nd, rfl⟩⟩; refine ⟨_, rfl, ?_⟩))
     go_ret
     exact ⟨by first | rfl | (simp; done) | (simp [*]; done), by repeat (first | exact Drawn0.refl _ | apply Drawn0.step)⟩

/-! ### impl_cross: function 68 -/
def impl_cross.f (a0_0 : Int) (a0_1 : Int) (a1_0 : Int) (a1_1 : Int) (a2_0 : Int) (a2_1 : Int) : Option (Int) := some (wrap64 ((wrap64 ((wrap64 (a1_0 - a0_0)) * (wrap64 (a2_1 - a0_1)))) - (wrap64 ((wrap64 (a1_1 - a0_1)) * (wrap64 (a2_0 - a0_0))))))
set_option maxHeartbeats 8000000 in
set_option maxRecDepth 100000 in
theorem impl_cross.calls (a0_0 : Int) (a0_1 : Int) (a1_0 : Int) (a1_1 : Int) (a2_0 : Int) (a2_1 : Int) (r : Int) (w : World) (h : impl_cross.f a0_0 a0_1 a1_0 a1_1 a2_0 a2_1 = some r) :
  Calls Try.prog 68 #[.agg #[.int .i64 a0_0, .int .i64 a0_1], .agg #[.int .i64 a1_0, .int .i64 a1_1], .agg #[.int .i64 a2_0, .int .i64 a2_1]] w fun e w' => e = .returned (.int .i64 r) ∧ Below w.heap.size w w' := by
 have hu36 := Try.underlying36
 have HB := Aside0.mk (Below.refl w.heap.size w)
 have H : (some (wrap64 ((wrap64 ((wrap64 (a1_0 - a0_0)) * (wrap64 (a2_1 - a0_1)))) - (wrap64 ((wrap64 (a1_1 - a0_1)) * (wrap64 (a2_0 - a0_0))))))) = some r := h
 clear h
 obtain rfl := Option.some.inj H
 go_enter Try.func68, Try.ntmps68
 go_wp2_with (first | ((with_reducible refine gate_dst (N := 3) rfl ?_); refine box_event ?hg (N := 3) ?hd (cs := #[.int .i64 a0_0, .int .i64 a0_1]) (t := 36) ?hr ?_; (case hd => rfl); (case hg => rfl); (case hr => first | (go_simp; done) | (go_simp; rfl)); intro gb242 hg w4 hbox hb; have BK242 := Aside0.mk (hbox); have GW242 := zB0 HB hg; have GE242 := zB0 HB hg; replace HB := sB0 HB hb; clear hb hbox hg) | ((with_reducible refine gate_dst (N := 4) rfl ?_); refine box_event ?hg (N := 4) ?hd (cs := #[.int .i64 a1_0, .int .i64 a1_1]) (t := 36) ?hr ?_; (case hd => rfl); (case hg => rfl); (case hr => first | (go_simp; done) | (go_simp; rfl)); intro gb243 hg w5 hbox hb; have BK243 := Aside0.mk (hbox); have GW243 := zB1 HB hg GE242; have GE243 := zB1 HB hg GE242; have NB242_243 := nL BK242 hg; have NB243_242 := nG BK242 hg; replace BK242 := mB BK242 hb; replace HB := sB1 HB hb GE242; clear hb hbox hg) | ((with_reducible refine gate_dst (N := 5) rfl ?_); refine box_event ?hg (N := 5) ?hd (cs := #[.int .i64 a2_0, .int .i64 a2_1]) (t := 36) ?hr ?_; (case hd => rfl); (case hg => rfl); (case hr => first | (go_simp; done) | (go_simp; rfl)); intro gb244 hg w6 hbox hb; have BK244 := Aside0.mk (hbox); have GW244 := zB2 HB hg GE242 GE243; have GE244 := zB2 HB hg GE242 GE243; have NB242_244 := nL BK242 hg; have NB244_242 := nG BK242 hg; have NB243_244 := nL BK243 hg; have NB244_243 := nG BK243 hg; replace BK242 := mB BK242 hb; replace BK243 := mB BK243 hb; replace HB := sB2 HB hb GE242 GE243; clear hb hbox hg; have hnb7 := NB243_242.out; have hnc7 := NB242_243.out; have hnb8 := NB243_244.out; have hnc8 := NB244_243.out; have hcz9_0 := bC BK243 0 (.int .i64 a1_0); have hcz9_1 := bC BK243 1 (.int .i64 a1_1); have hfz9_0 := blk_frozen BK243.out 0; have hfz9_1 := blk_frozen BK243.out 1; have hnb10 := NB242_244.out; have hnc10 := NB244_242.out; have hcz11_0 := bC BK242 0 (.int .i64 a0_0); have hcz11_1 := bC BK242 1 (.int .i64 a0_1); have hfz11_0 := blk_frozen BK242.out 0; have hfz11_1 := blk_frozen BK242.out 1; have hcz12_0 := bC BK244 0 (.int .i64 a2_0); have hcz12_1 := bC BK244 1 (.int .i64 a2_1); have hfz12_0 := blk_frozen BK244.out 0; have hfz12_1 := blk_frozen BK244.out 1))
 go_ret
 exact ⟨by first | rfl | (simp [errW_none, errW_some] <;> rfl) | (simp [*, errW_none, errW_some] <;> rfl), eB3 HB GE242 GE243 GE244⟩

/-! ### impl_SideOf: function 50 -/
def impl_SideOf.j0 : Nat → Bool → Int → Int → Int → Int → Int → Int → Option (Int)
 | 0, _, _, _, _, _, _, _ => none
 | k + 1, x19, x246000, x246001, x247000, x247001, x248000, x248001 => if x19 = true then (some 0) else ((impl_cross.f x246000 x246001 x247000 x247001 x248000 x248001).bind fun t251 => ((cmp_Compare_int.f t251 0).bind fun t252 => (some t252)))
def impl_SideOf.f (k : Nat) (a0_0 : Int) (a0_1 : Int) (a1_0 : Int) (a1_1 : Int) (a2_0 : Int) (a2_1 : Int) : Option (Int) := (impl_IsPoint.f a0_0 a0_1).bind fun t248 => (if t248 = true then ((impl_IsPoint.f a1_0 a1_1).bind fun t249 => (if t249 = true then ((impl_IsPoint.f a2_0 a2_1).bind fun t250 => (impl_SideOf.j0 k (!t250) a0_0 a0_1 a1_0 a1_1 a2_0 a2_1)) else (impl_SideOf.j0 k true a0_0 a0_1 a1_0 a1_1 a2_0 a2_1))) else (impl_SideOf.j0 k true a0_0 a0_1 a1_0 a1_1 a2_0 a2_1))
theorem impl_SideOf.mono_l : ∀ k, (∀ y0 y1 y2 y3 y4 y5 y6, LeO (impl_SideOf.j0 k y0 y1 y2 y3 y4 y5 y6) (impl_SideOf.j0 (k + 1) y0 y1 y2 y3 y4 y5 y6))
 | 0 => fun _ _ _ _ _ _ _ r h => by simp [impl_SideOf.j0] at h
 | k + 1 => by
  have ih0 := impl_SideOf.mono_l k
  ·intro y0 y1 y2 y3 y4 y5 y6
   unfold impl_SideOf.j0
   repeat' first
   | (with_reducible exact ih0 _ _ _ _ _ _ _)
   | (with_reducible exact LeO.refl _)
   | (with_reducible exact LeO.none _)
   | (with_reducible refine LeO.ite ?_ ?_)
   | (with_reducible refine LeO.bind ?_ (fun _ => ?_))
   | exact ih0 _ _ _ _ _ _ _
   | exact LeO.none _
   | refine LeO.ite ?_ ?_
   | refine LeO.bind ?_ (fun _ => ?_)
theorem impl_SideOf.mono : ∀ a0 a1 a2 a3 a4 a5 k, LeO (impl_SideOf.f k a0 a1 a2 a3 a4 a5) (impl_SideOf.f (k + 1) a0 a1 a2 a3 a4 a5) := by
 intro a0 a1 a2 a3 a4 a5 k
 have ih0 := impl_SideOf.mono_l k
 unfold impl_SideOf.f
 repeat' first
   | (with_reducible exact ih0 _ _ _ _ _ _ _)
   | (with_reducible exact LeO.refl _)
   | (with_reducible exact LeO.none _)
   | (with_reducible refine LeO.ite ?_ ?_)
   | (with_reducible refine LeO.bind ?_ (fun _ => ?_))
   | exact ih0 _ _ _ _ _ _ _
   | exact LeO.none _
   | refine LeO.ite ?_ ?_
   | refine LeO.bind ?_ (fun _ => ?_)
set_option maxHeartbeats 8000000 in
set_option maxRecDepth 100000 in
theorem impl_SideOf.calls (k : Nat) (a0_0 : Int) (a0_1 : Int) (a1_0 : Int) (a1_1 : Int) (a2_0 : Int) (a2_1 : Int) (r : Int) (w : World) (h : impl_SideOf.f k a0_0 a0_1 a1_0 a1_1 a2_0 a2_1 = some r) :
  Calls Try.prog 50 #[.agg #[.int .i64 a0_0, .int .i64 a0_1], .agg #[.int .i64 a1_0, .int .i64 a1_1], .agg #[.int .i64 a2_0, .int .i64 a2_1]] w fun e w' => e = .returned (.int .i64 r) ∧ Below w.heap.size w w' := by
 have hu36 := Try.underlying36
 have HB := Aside0.mk (Below.refl w.heap.size w)
 have H : ((impl_IsPoint.f a0_0 a0_1).bind fun t248 => (if t248 = true then ((impl_IsPoint.f a1_0 a1_1).bind fun t249 => (if t249 = true then ((impl_IsPoint.f a2_0 a2_1).bind fun t250 => (impl_SideOf.j0 k (!t250) a0_0 a0_1 a1_0 a1_1 a2_0 a2_1)) else (impl_SideOf.j0 k true a0_0 a0_1 a1_0 a1_1 a2_0 a2_1))) else (impl_SideOf.j0 k true a0_0 a0_1 a1_0 a1_1 a2_0 a2_1))) = some r := h
 clear h
 have HC4 := Aside0.mk H
 clear H
 go_enter Try.func50, Try.ntmps50
 go_upto_region 1 with (first | ((with_reducible refine gate_dst (N := 3) rfl ?_); refine box_event ?hg (N := 3) ?hd (cs := #[.int .i64 a0_0, .int .i64 a0_1]) (t := 36) ?hr ?_; (case hd => rfl); (case hg => rfl); (case hr => first | (go_simp; done) | (go_simp; rfl)); intro gb245 hg w5 hbox hb; have BK245 := Aside0.mk (hbox); have GW245 := zB0 HB hg; have GE245 := zB0 HB hg; replace HB := sB0 HB hb; clear hb hbox hg) | ((with_reducible refine gate_dst (N := 4) rfl ?_); refine box_event ?hg (N := 4) ?hd (cs := #[.int .i64 a1_0, .int .i64 a1_1]) (t := 36) ?hr ?_; (case hd => rfl); (case hg => rfl); (case hr => first | (go_simp; done) | (go_simp; rfl)); intro gb246 hg w6 hbox hb; have BK246 := Aside0.mk (hbox); have GW246 := zB1 HB hg GE245; have GE246 := zB1 HB hg GE245; have NB245_246 := nL BK245 hg; have NB246_245 := nG BK245 hg; replace BK245 := mB BK245 hb; replace HB := sB1 HB hb GE245; clear hb hbox hg) | ((with_reducible refine gate_dst (N := 5) rfl ?_); refine box_event ?hg (N := 5) ?hd (cs := #[.int .i64 a2_0, .int .i64 a2_1]) (t := 36) ?hr ?_; (case hd => rfl); (case hg => rfl); (case hr => first | (go_simp; done) | (go_simp; rfl)); intro gb247 hg w7 hbox hb; have BK247 := Aside0.mk (hbox); have GW247 := zB2 HB hg GE245 GE246; have GE247 := zB2 HB hg GE245 GE246; have NB245_247 := nL BK245 hg; have NB247_245 := nG BK245 hg; have NB246_247 := nL BK246 hg; have NB247_246 := nG BK246 hg; replace BK245 := mB BK245 hb; replace BK246 := mB BK246 hb; replace HB := sB2 HB hb GE245 GE246; clear hb hbox hg))
 (try simp only [Act.put, List.setIfInBounds_toArray, List.set_cons_zero, List.set_cons_succ])
 go_cut [19] (fun v19 wc => ∃ (kq : Nat) (x19_3 : Bool), v19 = .bool x19_3 ∧ Aside0 (impl_SideOf.j0 kq x19_3 a0_0 a0_1 a1_0 a1_1 a2_0 a2_1 = some r) ∧ Aside0 (kq ≤ k) ∧ Aside0 (wc.heap[gb245]? = some (.cells #[.int .i64 a0_0, .int .i64 a0_1] 36 (0, 0))) ∧ Aside0 (wc.heap[gb246]? = some (.cells #[.int .i64 a1_0, .int .i64 a1_1] 36 (0, 0))) ∧ Aside0 (wc.heap[gb247]? = some (.cells #[.int .i64 a2_0, .int .i64 a2_1] 36 (0, 0))) ∧ Aside0 (Below w.heap.size w wc))
 case first =>
  have H := HC4.out
  clear HC4
  replace H := Option.bind_eq_some_iff.mp H
  obtain ⟨t248, A80, H⟩ := H
  replace H : (if t248 = true then ((impl_IsPoint.f a1_0 a1_1).bind fun t249 => (if t249 = true then ((impl_IsPoint.f a2_0 a2_1).bind fun t250 => (impl_SideOf.j0 k (!t250) a0_0 a0_1 a1_0 a1_1 a2_0 a2_1)) else (impl_SideOf.j0 k true a0_0 a0_1 a1_0 a1_1 a2_0 a2_1))) else (impl_SideOf.j0 k true a0_0 a0_1 a1_0 a1_1 a2_0 a2_1)) = some r := H
  have A8 := Aside0.mk A80
  clear A80
  by_cases c9 : t248 = true
  ·subst c9
   have H1 : ((impl_IsPoint.f a1_0 a1_1).bind fun t249 => (if t249 = true then ((impl_IsPoint.f a2_0 a2_1).bind fun t250 => (impl_SideOf.j0 k (!t250) a0_0 a0_1 a1_0 a1_1 a2_0 a2_1)) else (impl_SideOf.j0 k true a0_0 a0_1 a1_0 a1_1 a2_0 a2_1))) = some r := by rw [if_pos rfl] at H; exact H
   clear H
   have H := H1
   clear H1
   replace H := Option.bind_eq_some_iff.mp H
   obtain ⟨t249, A100, H⟩ := H
   replace H : (if t249 = true then ((impl_IsPoint.f a2_0 a2_1).bind fun t250 => (impl_SideOf.j0 k (!t250) a0_0 a0_1 a1_0 a1_1 a2_0 a2_1)) else (impl_SideOf.j0 k true a0_0 a0_1 a1_0 a1_1 a2_0 a2_1)) = some r := H
   have A10 := Aside0.mk A100
   clear A100
   by_cases c11 : t249 = true
   ·subst c11
    have H1 : ((impl_IsPoint.f a2_0 a2_1).bind fun t250 => (impl_SideOf.j0 k (!t250) a0_0 a0_1 a1_0 a1_1 a2_0 a2_1)) = some r := by rw [if_pos rfl] at H; exact H
    clear H
    have H := H1
    clear H1
    replace H := Option.bind_eq_some_iff.mp H
    obtain ⟨t250, A120, H⟩ := H
    replace H : (impl_SideOf.j0 k (!t250) a0_0 a0_1 a1_0 a1_1 a2_0 a2_1) = some r := H
    have A12 := Aside0.mk A120
    clear A120
    have H' := Aside0.mk H
    clear H
    have hnb13 := NB245_246.out
    have hnc13 := NB246_245.out
    have hnb14 := NB245_247.out
    have hnc14 := NB247_245.out
    have hcz15_0 := bC BK245 0 (.int .i64 a0_0)
    have hcz15_1 := bC BK245 1 (.int .i64 a0_1)
    have hfz15_0 := blk_frozen BK245.out 0
    have hfz15_1 := blk_frozen BK245.out 1
    go_wp2_with (first | ((with_reducible refine gate_callee (f := 40) rfl ?_); refine gL (some 8) Try.func40 #[.agg #[.int .i64 a0_0, .int .i64 a0_1]] ?_; (with_reducible refine (impl_IsPoint.calls a0_0 a0_1 true _ A8.out).mono ?_); rintro e w16 ⟨rfl, hb⟩; refine ⟨_, rfl, ?_⟩; replace BK245 := mB BK245 hb; replace BK246 := mB BK246 hb; replace BK247 := mB BK247 hb; replace HB := sB3 HB hb GE245 GE246 GE247; (try clear hb); have hnb17 := NB246_247.out; have hnc17 := NB247_246.out; have hcz18_0 := bC BK246 0 (.int .i64 a1_0); have hcz18_1 := bC BK246 1 (.int .i64 a1_1); have hfz18_0 := blk_frozen BK246.out 0; have hfz18_1 := blk_frozen BK246.out 1) | (go_at_call 40; (with_reducible refine (impl_IsPoint.calls a1_0 a1_1 true _ A10.out).mono ?_); rintro e w19 ⟨rfl, hb⟩; replace BK245 := mB BK245 hb; replace BK246 := mB BK246 hb; replace BK247 := mB BK247 hb; replace HB := sB3 HB hb GE245 GE246 GE247; (try clear hb); have hcz20_0 := bC BK247 0 (.int .i64 a2_0); have hcz20_1 := bC BK247 1 (.int .i64 a2_1); have hfz20_0 := blk_frozen BK247.out 0; have hfz20_1 := blk_frozen BK247.out 1) | (go_at_call 40; (with_reducible refine (impl_IsPoint.calls a2_0 a2_1 t250 _ A12.out).mono ?_); rintro e w21 ⟨rfl, hb⟩; replace BK245 := mB BK245 hb; replace BK246 := mB BK246 hb; replace BK247 := mB BK247 hb; replace HB := sB3 HB hb GE245 GE246 GE247; (try clear hb)))
    go_meet
    case rel => exact ⟨_, (!t250), (by first | rfl | (simp; done) | (simp [*]; done)), H', ⟨by first | omega | exact Nat.le_refl _⟩, ⟨by (with_reducible repeat (first | refine blk_drewN ?_ _ | refine blk_drew ?_ | refine blk_alloc ?_ _)); exact BK245.out⟩, ⟨by (with_reducible repeat (first | refine blk_drewN ?_ _ | refine blk_drew ?_ | refine blk_alloc ?_ _)); exact BK246.out⟩, ⟨by (with_reducible repeat (first | refine blk_drewN ?_ _ | refine blk_drew ?_ | refine blk_alloc ?_ _)); exact BK247.out⟩, ⟨eB3 HB GE245 GE246 GE247⟩⟩
   ·replace c11 := Bool.eq_false_iff.mpr c11
    subst c11
    have H1 : (impl_SideOf.j0 k true a0_0 a0_1 a1_0 a1_1 a2_0 a2_1) = some r := by rw [if_neg (show ¬ (false = true) by decide)] at H; exact H
    clear H
    have H := H1
    clear H1
    have H' := Aside0.mk H
    clear H
    have hnb22 := NB245_246.out
    have hnc22 := NB246_245.out
    have hnb23 := NB245_247.out
    have hnc23 := NB247_245.out
    have hcz24_0 := bC BK245 0 (.int .i64 a0_0)
    have hcz24_1 := bC BK245 1 (.int .i64 a0_1)
    have hfz24_0 := blk_frozen BK245.out 0
    have hfz24_1 := blk_frozen BK245.out 1
    go_wp2_with (first | ((with_reducible refine gate_callee (f := 40) rfl ?_); refine gL (some 8) Try.func40 #[.agg #[.int .i64 a0_0, .int .i64 a0_1]] ?_; (with_reducible refine (impl_IsPoint.calls a0_0 a0_1 true _ A8.out).mono ?_); rintro e w25 ⟨rfl, hb⟩; refine ⟨_, rfl, ?_⟩; replace BK245 := mB BK245 hb; replace BK246 := mB BK246 hb; replace BK247 := mB BK247 hb; replace HB := sB3 HB hb GE245 GE246 GE247; (try clear hb); have hnb26 := NB246_247.out; have hnc26 := NB247_246.out; have hcz27_0 := bC BK246 0 (.int .i64 a1_0); have hcz27_1 := bC BK246 1 (.int .i64 a1_1); have hfz27_0 := blk_frozen BK246.out 0; have hfz27_1 := blk_frozen BK246.out 1) | (go_at_call 40; (with_reducible refine (impl_IsPoint.calls a1_0 a1_1 false _ A10.out).mono ?_); rintro e w28 ⟨rfl, hb⟩; replace BK245 := mB BK245 hb; replace BK246 := mB BK246 hb; replace BK247 := mB BK247 hb; replace HB := sB3 HB hb GE245 GE246 GE247; (try clear hb)))
    go_meet
    case rel => exact ⟨_, (true), (by first | rfl | (simp; done) | (simp [*]; done)), H', ⟨by first | omega | exact Nat.le_refl _⟩, ⟨by (with_reducible repeat (first | refine blk_drewN ?_ _ | refine blk_drew ?_ | refine blk_alloc ?_ _)); exact BK245.out⟩, ⟨by (with_reducible repeat (first | refine blk_drewN ?_ _ | refine blk_drew ?_ | refine blk_alloc ?_ _)); exact BK246.out⟩, ⟨by (with_reducible repeat (first | refine blk_drewN ?_ _ | refine blk_drew ?_ | refine blk_alloc ?_ _)); exact BK247.out⟩, ⟨eB3 HB GE245 GE246 GE247⟩⟩
  ·replace c9 := Bool.eq_false_iff.mpr c9
   subst c9
   have H1 : (impl_SideOf.j0 k true a0_0 a0_1 a1_0 a1_1 a2_0 a2_1) = some r := by rw [if_neg (show ¬ (false = true) by decide)] at H; exact H
   clear H
   have H := H1
   clear H1
   have H' := Aside0.mk H
   clear H
   have hnb29 := NB245_246.out
   have hnc29 := NB246_245.out
   have hnb30 := NB245_247.out
   have hnc30 := NB247_245.out
   have hcz31_0 := bC BK245 0 (.int .i64 a0_0)
   have hcz31_1 := bC BK245 1 (.int .i64 a0_1)
   have hfz31_0 := blk_frozen BK245.out 0
   have hfz31_1 := blk_frozen BK245.out 1
   go_wp2_with (first | ((with_reducible refine gate_callee (f := 40) rfl ?_); refine gL (some 8) Try.func40 #[.agg #[.int .i64 a0_0, .int .i64 a0_1]] ?_; (with_reducible refine (impl_IsPoint.calls a0_0 a0_1 false _ A8.out).mono ?_); rintro e w32 ⟨rfl, hb⟩; refine ⟨_, rfl, ?_⟩; replace BK245 := mB BK245 hb; replace BK246 := mB BK246 hb; replace BK247 := mB BK247 hb; replace HB := sB3 HB hb GE245 GE246 GE247; (try clear hb)))
   go_meet
   case rel => exact ⟨_, (true), (by first | rfl | (simp; done) | (simp [*]; done)), H', ⟨by first | omega | exact Nat.le_refl _⟩, ⟨by (with_reducible repeat (first | refine blk_drewN ?_ _ | refine blk_drew ?_ | refine blk_alloc ?_ _)); exact BK245.out⟩, ⟨by (with_reducible repeat (first | refine blk_drewN ?_ _ | refine blk_drew ?_ | refine blk_alloc ?_ _)); exact BK246.out⟩, ⟨by (with_reducible repeat (first | refine blk_drewN ?_ _ | refine blk_drew ?_ | refine blk_alloc ?_ _)); exact BK247.out⟩, ⟨eB3 HB GE245 GE246 GE247⟩⟩
 case rest =>
  clear HC4
  try clear c1
  try clear c2
  try clear p2
  try clear c3
  try clear c4
  try clear c5
  try clear c9
  try clear c11
  try clear c13
  try clear c14
  try clear c17
  try clear c22
  try clear c23
  try clear c26
  try clear c29
  try clear c30
  obtain ⟨kq, x19_3, rfl, HA, HJ3, BK245, BK246, BK247, HB⟩ := hcut
  cases kq with
  | zero => exact absurd HA.out (by simp [impl_SideOf.j0])
  | succ kj3 =>
   have H := HA.out
   clear HA
   simp only [impl_SideOf.j0] at H
   by_cases c33 : x19_3 = true
   ·subst c33
    have H1 : (some 0) = some r := by rw [if_pos rfl] at H; exact H
    clear H
    have H := H1
    clear H1
    obtain rfl := Option.some.inj H
    go_wp2
    go_ret
    exact ⟨by first | rfl | (simp [errW_none, errW_some] <;> rfl) | (simp [*, errW_none, errW_some] <;> rfl), eB3 HB GE245 GE246 GE247⟩
   ·replace c33 := Bool.eq_false_iff.mpr c33
    subst c33
    have H1 : ((impl_cross.f a0_0 a0_1 a1_0 a1_1 a2_0 a2_1).bind fun t251 => ((cmp_Compare_int.f t251 0).bind fun t252 => (some t252))) = some r := by rw [if_neg (show ¬ (false = true) by decide)] at H; exact H
    clear H
    have H := H1
    clear H1
    replace H := Option.bind_eq_some_iff.mp H
    obtain ⟨t251, A340, H⟩ := H
    replace H : ((cmp_Compare_int.f t251 0).bind fun t252 => (some t252)) = some r := H
    have A34 := Aside0.mk A340
    clear A340
    replace H := Option.bind_eq_some_iff.mp H
    obtain ⟨t252, A350, H⟩ := H
    replace H : (some t252) = some r := H
    have A35 := Aside0.mk A350
    clear A350
    obtain rfl := Option.some.inj H
    have hnb36 := NB245_246.out
    have hnc36 := NB246_245.out
    have hnb37 := NB245_247.out
    have hnc37 := NB247_245.out
    have hcz38_0 := bC BK245 0 (.int .i64 a0_0)
    have hcz38_1 := bC BK245 1 (.int .i64 a0_1)
    have hfz38_0 := blk_frozen BK245.out 0
    have hfz38_1 := blk_frozen BK245.out 1
    have hnb39 := NB246_247.out
    have hnc39 := NB247_246.out
    have hcz40_0 := bC BK246 0 (.int .i64 a1_0)
    have hcz40_1 := bC BK246 1 (.int .i64 a1_1)
    have hfz40_0 := blk_frozen BK246.out 0
    have hfz40_1 := blk_frozen BK246.out 1
    have hcz41_0 := bC BK247 0 (.int .i64 a2_0)
    have hcz41_1 := bC BK247 1 (.int .i64 a2_1)
    have hfz41_0 := blk_frozen BK247.out 0
    have hfz41_1 := blk_frozen BK247.out 1
    go_wp2_with (first | ((with_reducible refine gate_callee (f := 68) rfl ?_); refine gL (some 23) Try.func68 #[.agg #[.int .i64 a0_0, .int .i64 a0_1], .agg #[.int .i64 a1_0, .int .i64 a1_1], .agg #[.int .i64 a2_0, .int .i64 a2_1]] ?_; (with_reducible refine (impl_cross.calls a0_0 a0_1 a1_0 a1_1 a2_0 a2_1 t251 _ A34.out).mono ?_); rintro e w42 ⟨rfl, hb⟩; refine ⟨_, rfl, ?_⟩; replace BK245 := mB BK245 hb; replace BK246 := mB BK246 hb; replace BK247 := mB BK247 hb; replace HB := sB3 HB hb GE245 GE246 GE247; (try clear hb)) | ((with_reducible refine gate_callee (f := 67) rfl ?_); refine gL (some 24) Try.func67 #[.int .i64 t251, .int .i64 0] ?_; (with_reducible refine (cmp_Compare_int.calls t251 0 t252 _ A35.out).mono ?_); rintro e w' ⟨rfl, ⟨nd, rfl⟩⟩; refine ⟨_, rfl, ?_⟩))
    go_ret
    exact ⟨by first | rfl | (simp [errW_none, errW_some] <;> rfl) | (simp [*, errW_none, errW_some] <;> rfl), eB3 HB GE245 GE246 GE247⟩

/-! ### impl_IsOn: function 29 -/
def impl_IsOn.f (k : Nat) (a0_0 : Int) (a0_1 : Int) (a0_2 : Int) (a0_3 : Int) (a1_0 : Int) (a1_1 : Int) : Option (Bool) := (impl_IsSegment.f a0_0 a0_1 a0_2 a0_3).bind fun t255 => (if t255 = true then ((impl_IsPoint.f a1_0 a1_1).bind fun t256 => (if t256 = true then ((impl_SideOf.f k a0_0 a0_1 a0_2 a0_3 a1_0 a1_1).bind fun t257 => (if t257 = 0 then ((impl_InRange.f a1_0 (mn a0_0 a0_2) (mx a0_0 a0_2)).bind fun t258 => (if t258 = true then ((impl_InRange.f a1_1 (mn a0_1 a0_3) (mx a0_1 a0_3)).bind fun t259 => (some t259)) else (some false))) else (some false))) else (some false))) else (some false))
theorem impl_IsOn.mono : ∀ a0 a1 a2 a3 a4 a5 k, LeO (impl_IsOn.f k a0 a1 a2 a3 a4 a5) (impl_IsOn.f (k + 1) a0 a1 a2 a3 a4 a5) := by
 intro a0 a1 a2 a3 a4 a5 k
 unfold impl_IsOn.f
 repeat' first
   | (with_reducible exact impl_SideOf.mono _ _ _ _ _ _ _)
   | (with_reducible exact LeO.refl _)
   | (with_reducible exact LeO.none _)
   | (with_reducible refine LeO.ite ?_ ?_)
   | (with_reducible refine LeO.bind ?_ (fun _ => ?_))
   | exact impl_SideOf.mono _ _ _ _ _ _ _
   | exact LeO.none _
   | refine LeO.ite ?_ ?_
   | refine LeO.bind ?_ (fun _ => ?_)
set_option maxHeartbeats 8000000 in
set_option maxRecDepth 100000 in
theorem impl_IsOn.calls (k : Nat) (a0_0 : Int) (a0_1 : Int) (a0_2 : Int) (a0_3 : Int) (a1_0 : Int) (a1_1 : Int) (r : Bool) (w : World) (h : impl_IsOn.f k a0_0 a0_1 a0_2 a0_3 a1_0 a1_1 = some r) :
  Calls Try.prog 29 #[.agg #[.int .i64 a0_0, .int .i64 a0_1, .int .i64 a0_2, .int .i64 a0_3], .agg #[.int .i64 a1_0, .int .i64 a1_1]] w fun e w' => e = .returned (.bool r) ∧ Below w.heap.size w w' := by
 have hu38 := Try.underlying38
 have hu36 := Try.underlying36
 have HB := Aside0.mk (Below.refl w.heap.size w)
 have H : ((impl_IsSegment.f a0_0 a0_1 a0_2 a0_3).bind fun t255 => (if t255 = true then ((impl_IsPoint.f a1_0 a1_1).bind fun t256 => (if t256 = true then ((impl_SideOf.f k a0_0 a0_1 a0_2 a0_3 a1_0 a1_1).bind fun t257 => (if t257 = 0 then ((impl_InRange.f a1_0 (mn a0_0 a0_2) (mx a0_0 a0_2)).bind fun t258 => (if t258 = true then ((impl_InRange.f a1_1 (mn a0_1 a0_3) (mx a0_1 a0_3)).bind fun t259 => (some t259)) else (some false))) else (some false))) else (some false))) else (some false))) = some r := h
 clear h
 replace H := Option.bind_eq_some_iff.mp H
 obtain ⟨t255, A30, H⟩ := H
 replace H : (if t255 = true then ((impl_IsPoint.f a1_0 a1_1).bind fun t256 => (if t256 = true then ((impl_SideOf.f k a0_0 a0_1 a0_2 a0_3 a1_0 a1_1).bind fun t257 => (if t257 = 0 then ((impl_InRange.f a1_0 (mn a0_0 a0_2) (mx a0_0 a0_2)).bind fun t258 => (if t258 = true then ((impl_InRange.f a1_1 (mn a0_1 a0_3) (mx a0_1 a0_3)).bind fun t259 => (some t259)) else (some false))) else (some false))) else (some false))) else (some false)) = some r := H
 have A3 := Aside0.mk A30
 clear A30
 by_cases c4 : t255 = true
 ·subst c4
  have H1 : ((impl_IsPoint.f a1_0 a1_1).bind fun t256 => (if t256 = true then ((impl_SideOf.f k a0_0 a0_1 a0_2 a0_3 a1_0 a1_1).bind fun t257 => (if t257 = 0 then ((impl_InRange.f a1_0 (mn a0_0 a0_2) (mx a0_0 a0_2)).bind fun t258 => (if t258 = true then ((impl_InRange.f a1_1 (mn a0_1 a0_3) (mx a0_1 a0_3)).bind fun t259 => (some t259)) else (some false))) else (some false))) else (some false))) = some r := by rw [if_pos rfl] at H; exact H
  clear H
  have H := H1
  clear H1
  replace H := Option.bind_eq_some_iff.mp H
  obtain ⟨t256, A50, H⟩ := H
  replace H : (if t256 = true then ((impl_SideOf.f k a0_0 a0_1 a0_2 a0_3 a1_0 a1_1).bind fun t257 => (if t257 = 0 then ((impl_InRange.f a1_0 (mn a0_0 a0_2) (mx a0_0 a0_2)).bind fun t258 => (if t258 = true then ((impl_InRange.f a1_1 (mn a0_1 a0_3) (mx a0_1 a0_3)).bind fun t259 => (some t259)) else (some false))) else (some false))) else (some false)) = some r := H
  have A5 := Aside0.mk A50
  clear A50
  by_cases c6 : t256 = true
  ·subst c6
   have H1 : ((impl_SideOf.f k a0_0 a0_1 a0_2 a0_3 a1_0 a1_1).bind fun t257 => (if t257 = 0 then ((impl_InRange.f a1_0 (mn a0_0 a0_2) (mx a0_0 a0_2)).bind fun t258 => (if t258 = true then ((impl_InRange.f a1_1 (mn a0_1 a0_3) (mx a0_1 a0_3)).bind fun t259 => (some t259)) else (some false))) else (some false))) = some r := by rw [if_pos rfl] at H; exact H
   clear H
   have H := H1
   clear H1
   replace H := Option.bind_eq_some_iff.mp H
   obtain ⟨t257, A70, H⟩ := H
   replace H : (if t257 = 0 then ((impl_InRange.f a1_0 (mn a0_0 a0_2) (mx a0_0 a0_2)).bind fun t258 => (if t258 = true then ((impl_InRange.f a1_1 (mn a0_1 a0_3) (mx a0_1 a0_3)).bind fun t259 => (some t259)) else (some false))) else (some false)) = some r := H
   have A7 := Aside0.mk A70
   clear A70
   by_cases c8 : t257 = 0
   ·rw [if_pos c8] at H
    have c8b0 : (t257 == 0) = true := beq_iff_eq.mpr c8
    have c8b1 : (t257 != 0) = false := bne_eq_false_iff_eq.mpr c8
    clear c8
    obtain ⟨ji9, hji9⟩ : ∃ j_ : Int, (mn a0_0 a0_2) = j_ := ⟨_, rfl⟩
    replace H : ((impl_InRange.f a1_0 (ji9) (mx a0_0 a0_2)).bind fun t258 => (if t258 = true then ((impl_InRange.f a1_1 (mn a0_1 a0_3) (mx a0_1 a0_3)).bind fun t259 => (some t259)) else (some false))) = some r := by first | (rw [hji9] at H; exact H) | (simp only [hji9] at H ⊢; exact H)
    (try rw [hji9] at A3)
    (try rw [hji9] at A5)
    (try rw [hji9] at A7)
    have hji9_ : (if a0_2 < a0_0 then a0_2 else a0_0) = ji9 := hji9
    obtain ⟨ji10, hji10⟩ : ∃ j_ : Int, (mx a0_0 a0_2) = j_ := ⟨_, rfl⟩
    replace H : ((impl_InRange.f a1_0 (ji9) (ji10)).bind fun t258 => (if t258 = true then ((impl_InRange.f a1_1 (mn a0_1 a0_3) (mx a0_1 a0_3)).bind fun t259 => (some t259)) else (some false))) = some r := by first | (rw [hji10] at H; exact H) | (simp only [hji10] at H ⊢; exact H)
    (try rw [hji10] at A3)
    (try rw [hji10] at A5)
    (try rw [hji10] at A7)
    have hji10_ : (if a0_0 < a0_2 then a0_2 else a0_0) = ji10 := hji10
    replace H := Option.bind_eq_some_iff.mp H
    obtain ⟨t258, A110, H⟩ := H
    replace H : (if t258 = true then ((impl_InRange.f a1_1 (mn a0_1 a0_3) (mx a0_1 a0_3)).bind fun t259 => (some t259)) else (some false)) = some r := H
    have A11 := Aside0.mk A110
    clear A110
    by_cases c12 : t258 = true
    ·subst c12
     have H1 : ((impl_InRange.f a1_1 (mn a0_1 a0_3) (mx a0_1 a0_3)).bind fun t259 => (some t259)) = some r := by rw [if_pos rfl] at H; exact H
     clear H
     have H := H1
     clear H1
     obtain ⟨ji13, hji13⟩ : ∃ j_ : Int, (mn a0_1 a0_3) = j_ := ⟨_, rfl⟩
     replace H : ((impl_InRange.f a1_1 (ji13) (mx a0_1 a0_3)).bind fun t259 => (some t259)) = some r := by first | (rw [hji13] at H; exact H) | (simp only [hji13] at H ⊢; exact H)
     (try rw [hji13] at A3)
     (try rw [hji13] at A5)
     (try rw [hji13] at A7)
     (try rw [hji13] at A11)
     have hji13_ : (if a0_3 < a0_1 then a0_3 else a0_1) = ji13 := hji13
     obtain ⟨ji14, hji14⟩ : ∃ j_ : Int, (mx a0_1 a0_3) = j_ := ⟨_, rfl⟩
     replace H : ((impl_InRange.f a1_1 (ji13) (ji14)).bind fun t259 => (some t259)) = some r := by first | (rw [hji14] at H; exact H) | (simp only [hji14] at H ⊢; exact H)
     (try rw [hji14] at A3)
     (try rw [hji14] at A5)
     (try rw [hji14] at A7)
     (try rw [hji14] at A11)
     have hji14_ : (if a0_1 < a0_3 then a0_3 else a0_1) = ji14 := hji14
     replace H := Option.bind_eq_some_iff.mp H
     obtain ⟨t259, A150, H⟩ := H
     replace H : (some t259) = some r := H
     have A15 := Aside0.mk A150
     clear A150
     obtain rfl := Option.some.inj H
     go_enter Try.func29, Try.ntmps29
     go_wp2_with (first | ((with_reducible refine gate_dst (N := 2) rfl ?_); (try (refine gate_guard (by rfl) ?_; dsimp only)); refine box_event ?hg (N := 2) ?hd (cs := #[.int .i64 a0_0, .int .i64 a0_1, .int .i64 a0_2, .int .i64 a0_3]) (t := 38) ?hr ?_; (case hd => rfl); (case hg => rfl); (case hr => first | (go_simp; done) | (go_simp; rfl)); intro gb253 hg w16 hbox hb; have BK253 := Aside0.mk (hbox); have GW253 := zB0 HB hg; have GE253 := zB0 HB hg; replace HB := sB0 HB hb; clear hb hbox hg) | ((with_reducible refine gate_dst (N := 3) rfl ?_); (try (refine gate_guard (by rfl) ?_; dsimp only)); refine box_event ?hg (N := 3) ?hd (cs := #[.int .i64 a1_0, .int .i64 a1_1]) (t := 36) ?hr ?_; (case hd => rfl); (case hg => rfl); (case hr => first | (go_simp; done) | (go_simp; rfl)); intro gb254 hg w17 hbox hb; have BK254 := Aside0.mk (hbox); have GW254 := zB1 HB hg GE253; have GE254 := zB1 HB hg GE253; have NB253_254 := nL BK253 hg; have NB254_253 := nG BK253 hg; replace BK253 := mB BK253 hb; replace HB := sB1 HB hb GE253; clear hb hbox hg; have hnb18 := NB253_254.out; have hnc18 := NB254_253.out; have hcz19_0 := bC BK253 0 (.int .i64 a0_0); have hcz19_1 := bC BK253 1 (.int .i64 a0_1); have hcz19_2 := bC BK253 2 (.int .i64 a0_2); have hcz19_3 := bC BK253 3 (.int .i64 a0_3); have hfz19_0 := blk_frozen BK253.out 0; have hfz19_1 := blk_frozen BK253.out 1; have hfz19_2 := blk_frozen BK253.out 2; have hfz19_3 := blk_frozen BK253.out 3) | ((with_reducible refine gate_callee (f := 28) rfl ?_); refine gL (some 6) Try.func28 #[.agg #[.int .i64 a0_0, .int .i64 a0_1, .int .i64 a0_2, .int .i64 a0_3]] ?_; (with_reducible refine (impl_IsSegment.calls a0_0 a0_1 a0_2 a0_3 true _ A3.out).mono ?_); rintro e w20 ⟨rfl, hb⟩; refine ⟨_, rfl, ?_⟩; replace BK253 := mB BK253 hb; replace BK254 := mB BK254 hb; replace HB := sB2 HB hb GE253 GE254; (try clear hb); have hcz21_0 := bC BK254 0 (.int .i64 a1_0); have hcz21_1 := bC BK254 1 (.int .i64 a1_1); have hfz21_0 := blk_frozen BK254.out 0; have hfz21_1 := blk_frozen BK254.out 1) | (go_at_call 40; (with_reducible refine (impl_IsPoint.calls a1_0 a1_1 true _ A5.out).mono ?_); rintro e w22 ⟨rfl, hb⟩; replace BK253 := mB BK253 hb; replace BK254 := mB BK254 hb; replace HB := sB2 HB hb GE253 GE254; (try clear hb); have hcz23_0 := bC BK253 0 (.int .i64 a0_0); have hcz23_1 := bC BK253 1 (.int .i64 a0_1); have hcz23_2 := bC BK253 2 (.int .i64 a0_2); have hcz23_3 := bC BK253 3 (.int .i64 a0_3); have hfz23_0 := blk_frozen BK253.out 0; have hfz23_1 := blk_frozen BK253.out 1; have hfz23_2 := blk_frozen BK253.out 2; have hfz23_3 := blk_frozen BK253.out 3; have hcz24_0 := bC BK254 0 (.int .i64 a1_0); have hcz24_1 := bC BK254 1 (.int .i64 a1_1); have hfz24_0 := blk_frozen BK254.out 0; have hfz24_1 := blk_frozen BK254.out 1) | (go_at_call 50; (with_reducible refine (impl_SideOf.calls k a0_0 a0_1 a0_2 a0_3 a1_0 a1_1 t257 _ A7.out).mono ?_); rintro e w25 ⟨rfl, hb⟩; replace BK253 := mB BK253 hb; replace BK254 := mB BK254 hb; replace HB := sB2 HB hb GE253 GE254; (try clear hb); have hcz26_0 := bC BK254 0 (.int .i64 a1_0); have hcz26_1 := bC BK254 1 (.int .i64 a1_1); have hfz26_0 := blk_frozen BK254.out 0; have hfz26_1 := blk_frozen BK254.out 1; have hcz27_0 := bC BK253 0 (.int .i64 a0_0); have hcz27_1 := bC BK253 1 (.int .i64 a0_1); have hcz27_2 := bC BK253 2 (.int .i64 a0_2); have hcz27_3 := bC BK253 3 (.int .i64 a0_3); have hfz27_0 := blk_frozen BK253.out 0; have hfz27_1 := blk_frozen BK253.out 1; have hfz27_2 := blk_frozen BK253.out 2; have hfz27_3 := blk_frozen BK253.out 3) | (go_at_call 58; (with_reducible refine (impl_InRange.calls a1_0 ji9 ji10 true _ A11.out).mono ?_); rintro e w' ⟨rfl, ⟨nd, rfl⟩⟩) | (go_at_call 58; (with_reducible refine (impl_InRange.calls a1_1 ji13 ji14 t259 _ A15.out).mono ?_); rintro e w' ⟨rfl, ⟨nd, rfl⟩⟩))
     go_ret
     exact ⟨by first | rfl | (simp [errW_none, errW_some] <;> rfl) | (simp only [← hji9, ← hji10, ← hji13, ← hji14]; first | rfl | (simp [errW_none, errW_some] <;> rfl)) | (simp [*, errW_none, errW_some] <;> rfl), eB2 HB GE253 GE254⟩
    ·replace c12 := Bool.eq_false_iff.mpr c12
     subst c12
     have H1 : (some false) = some r := by rw [if_neg (show ¬ (false = true) by decide)] at H; exact H
     clear H
     have H := H1
     clear H1
     obtain rfl := Option.some.inj H
     go_enter Try.func29, Try.ntmps29
     go_wp2_with (first | ((with_reducible refine gate_dst (N := 2) rfl ?_); (try (refine gate_guard (by rfl) ?_; dsimp only)); refine box_event ?hg (N := 2) ?hd (cs := #[.int .i64 a0_0, .int .i64 a0_1, .int .i64 a0_2, .int .i64 a0_3]) (t := 38) ?hr ?_; (case hd => rfl); (case hg => rfl); (case hr => first | (go_simp; done) | (go_simp; rfl)); intro gb253 hg w28 hbox hb; have BK253 := Aside0.mk (hbox); have GW253 := zB0 HB hg; have GE253 := zB0 HB hg; replace HB := sB0 HB hb; clear hb hbox hg) | ((with_reducible refine gate_dst (N := 3) rfl ?_); (try (refine gate_guard (by rfl) ?_; dsimp only)); refine box_event ?hg (N := 3) ?hd (cs := #[.int .i64 a1_0, .int .i64 a1_1]) (t := 36) ?hr ?_; (case hd => rfl); (case hg => rfl); (case hr => first | (go_simp; done) | (go_simp; rfl)); intro gb254 hg w29 hbox hb; have BK254 := Aside0.mk (hbox); have GW254 := zB1 HB hg GE253; have GE254 := zB1 HB hg GE253; have NB253_254 := nL BK253 hg; have NB254_253 := nG BK253 hg; replace BK253 := mB BK253 hb; replace HB := sB1 HB hb GE253; clear hb hbox hg; have hnb30 := NB253_254.out; have hnc30 := NB254_253.out; have hcz31_0 := bC BK253 0 (.int .i64 a0_0); have hcz31_1 := bC BK253 1 (.int .i64 a0_1); have hcz31_2 := bC BK253 2 (.int .i64 a0_2); have hcz31_3 := bC BK253 3 (.int .i64 a0_3); have hfz31_0 := blk_frozen BK253.out 0; have hfz31_1 := blk_frozen BK253.out 1; have hfz31_2 := blk_frozen BK253.out 2; have hfz31_3 := blk_frozen BK253.out 3) | ((with_reducible refine gate_callee (f := 28) rfl ?_); refine gL (some 6) Try.func28 #[.agg #[.int .i64 a0_0, .int .i64 a0_1, .int .i64 a0_2, .int .i64 a0_3]] ?_; (with_reducible refine (impl_IsSegment.calls a0_0 a0_1 a0_2 a0_3 true _ A3.out).mono ?_); rintro e w32 ⟨rfl, hb⟩; refine ⟨_, rfl, ?_⟩; replace BK253 := mB BK253 hb; replace BK254 := mB BK254 hb; replace HB := sB2 HB hb GE253 GE254; (try clear hb); have hcz33_0 := bC BK254 0 (.int .i64 a1_0); have hcz33_1 := bC BK254 1 (.int .i64 a1_1); have hfz33_0 := blk_frozen BK254.out 0; have hfz33_1 := blk_frozen BK254.out 1) | (go_at_call 40; (with_reducible refine (impl_IsPoint.calls a1_0 a1_1 true _ A5.out).mono ?_); rintro e w34 ⟨rfl, hb⟩; replace BK253 := mB BK253 hb; replace BK254 := mB BK254 hb; replace HB := sB2 HB hb GE253 GE254; (try clear hb); have hcz35_0 := bC BK253 0 (.int .i64 a0_0); have hcz35_1 := bC BK253 1 (.int .i64 a0_1); have hcz35_2 := bC BK253 2 (.int .i64 a0_2); have hcz35_3 := bC BK253 3 (.int .i64 a0_3); have hfz35_0 := blk_frozen BK253.out 0; have hfz35_1 := blk_frozen BK253.out 1; have hfz35_2 := blk_frozen BK253.out 2; have hfz35_3 := blk_frozen BK253.out 3; have hcz36_0 := bC BK254 0 (.int .i64 a1_0); have hcz36_1 := bC BK254 1 (.int .i64 a1_1); have hfz36_0 := blk_frozen BK254.out 0; have hfz36_1 := blk_frozen BK254.out 1) | (go_at_call 50; (with_reducible refine (impl_SideOf.calls k a0_0 a0_1 a0_2 a0_3 a1_0 a1_1 t257 _ A7.out).mono ?_); rintro e w37 ⟨rfl, hb⟩; replace BK253 := mB BK253 hb; replace BK254 := mB BK254 hb; replace HB := sB2 HB hb GE253 GE254; (try clear hb); have hcz38_0 := bC BK254 0 (.int .i64 a1_0); have hcz38_1 := bC BK254 1 (.int .i64 a1_1); have hfz38_0 := blk_frozen BK254.out 0; have hfz38_1 := blk_frozen BK254.out 1; have hcz39_0 := bC BK253 0 (.int .i64 a0_0); have hcz39_1 := bC BK253 1 (.int .i64 a0_1); have hcz39_2 := bC BK253 2 (.int .i64 a0_2); have hcz39_3 := bC BK253 3 (.int .i64 a0_3); have hfz39_0 := blk_frozen BK253.out 0; have hfz39_1 := blk_frozen BK253.out 1; have hfz39_2 := blk_frozen BK253.out 2; have hfz39_3 := blk_frozen BK253.out 3) | (go_at_call 58; (with_reducible refine (impl_InRange.calls a1_0 ji9 ji10 false _ A11.out).mono ?_); rintro e w' ⟨rfl, ⟨nd, rfl⟩⟩))
     go_ret
     exact ⟨by first | rfl | (simp [errW_none, errW_some] <;> rfl) | (simp only [← hji9, ← hji10]; first | rfl | (simp [errW_none, errW_some] <;> rfl)) | (simp [*, errW_none, errW_some] <;> rfl), eB2 HB GE253 GE254⟩
   ·rw [if_neg c8] at H
    have c8b0 : (t257 == 0) = false := beq_eq_false_iff_ne.mpr c8
    have c8b1 : (t257 != 0) = true := bne_iff_ne.mpr c8
    obtain rfl := Option.some.inj H
    go_enter Try.func29, Try.ntmps29
    go_wp2_with (first | ((with_reducible refine gate_dst (N := 2) rfl ?_); (try (refine gate_guard (by rfl) ?_; dsimp only)); refine box_event ?hg (N := 2) ?hd (cs := #[.int .i64 a0_0, .int .i64 a0_1, .int .i64 a0_2, .int .i64 a0_3]) (t := 38) ?hr ?_; (case hd => rfl); (case hg => rfl); (case hr => first | (go_simp; done) | (go_simp; rfl)); intro gb253 hg w40 hbox hb; have BK253 := Aside0.mk (hbox); have GW253 := zB0 HB hg; have GE253 := zB0 HB hg; replace HB := sB0 HB hb; clear hb hbox hg) | ((with_reducible refine gate_dst (N := 3) rfl ?_); (try (refine gate_guard (by rfl) ?_; dsimp only)); refine box_event ?hg (N := 3) ?hd (cs := #[.int .i64 a1_0, .int .i64 a1_1]) (t := 36) ?hr ?_; (case hd => rfl); (case hg => rfl); (case hr => first | (go_simp; done) | (go_simp; rfl)); intro gb254 hg w41 hbox hb; have BK254 := Aside0.mk (hbox); have GW254 := zB1 HB hg GE253; have GE254 := zB1 HB hg GE253; have NB253_254 := nL BK253 hg; have NB254_253 := nG BK253 hg; replace BK253 := mB BK253 hb; replace HB := sB1 HB hb GE253; clear hb hbox hg; have hnb42 := NB253_254.out; have hnc42 := NB254_253.out; have hcz43_0 := bC BK253 0 (.int .i64 a0_0); have hcz43_1 := bC BK253 1 (.int .i64 a0_1); have hcz43_2 := bC BK253 2 (.int .i64 a0_2); have hcz43_3 := bC BK253 3 (.int .i64 a0_3); have hfz43_0 := blk_frozen BK253.out 0; have hfz43_1 := blk_frozen BK253.out 1; have hfz43_2 := blk_frozen BK253.out 2; have hfz43_3 := blk_frozen BK253.out 3) | ((with_reducible refine gate_callee (f := 28) rfl ?_); refine gL (some 6) Try.func28 #[.agg #[.int .i64 a0_0, .int .i64 a0_1, .int .i64 a0_2, .int .i64 a0_3]] ?_; (with_reducible refine (impl_IsSegment.calls a0_0 a0_1 a0_2 a0_3 true _ A3.out).mono ?_); rintro e w44 ⟨rfl, hb⟩; refine ⟨_, rfl, ?_⟩; replace BK253 := mB BK253 hb; replace BK254 := mB BK254 hb; replace HB := sB2 HB hb GE253 GE254; (try clear hb); have hcz45_0 := bC BK254 0 (.int .i64 a1_0); have hcz45_1 := bC BK254 1 (.int .i64 a1_1); have hfz45_0 := blk_frozen BK254.out 0; have hfz45_1 := blk_frozen BK254.out 1) | (go_at_call 40; (with_reducible refine (impl_IsPoint.calls a1_0 a1_1 true _ A5.out).mono ?_); rintro e w46 ⟨rfl, hb⟩; replace BK253 := mB BK253 hb; replace BK254 := mB BK254 hb; replace HB := sB2 HB hb GE253 GE254; (try clear hb); have hcz47_0 := bC BK253 0 (.int .i64 a0_0); have hcz47_1 := bC BK253 1 (.int .i64 a0_1); have hcz47_2 := bC BK253 2 (.int .i64 a0_2); have hcz47_3 := bC BK253 3 (.int .i64 a0_3); have hfz47_0 := blk_frozen BK253.out 0; have hfz47_1 := blk_frozen BK253.out 1; have hfz47_2 := blk_frozen BK253.out 2; have hfz47_3 := blk_frozen BK253.out 3; have hcz48_0 := bC BK254 0 (.int .i64 a1_0); have hcz48_1 := bC BK254 1 (.int .i64 a1_1); have hfz48_0 := blk_frozen BK254.out 0; have hfz48_1 := blk_frozen BK254.out 1) | (go_at_call 50; (with_reducible refine (impl_SideOf.calls k a0_0 a0_1 a0_2 a0_3 a1_0 a1_1 t257 _ A7.out).mono ?_); rintro e w49 ⟨rfl, hb⟩; replace BK253 := mB BK253 hb; replace BK254 := mB BK254 hb; replace HB := sB2 HB hb GE253 GE254; (try clear hb)))
    go_ret
    exact ⟨by first | rfl | (simp [errW_none, errW_some] <;> rfl) | (simp [*, errW_none, errW_some] <;> rfl), eB2 HB GE253 GE254⟩
  ·replace c6 := Bool.eq_false_iff.mpr c6
   subst c6
   have H1 : (some false) = some r := by rw [if_neg (show ¬ (false = true) by decide)] at H; exact H
   clear H
   have H := H1
   clear H1
   obtain rfl := Option.some.inj H
   go_enter Try.func29, Try.ntmps29
   go_wp2_with (first | ((with_reducible refine gate_dst (N := 2) rfl ?_); (try (refine gate_guard (by rfl) ?_; dsimp only)); refine box_event ?hg (N := 2) ?hd (cs := #[.int .i64 a0_0, .int .i64 a0_1, .int .i64 a0_2, .int .i64 a0_3]) (t := 38) ?hr ?_; (case hd => rfl); (case hg => rfl); (case hr => first | (go_simp; done) | (go_simp; rfl)); intro gb253 hg w50 hbox hb; have BK253 := Aside0.mk (hbox); have GW253 := zB0 HB hg; have GE253 := zB0 HB hg; replace HB := sB0 HB hb; clear hb hbox hg) | ((with_reducible refine gate_dst (N := 3) rfl ?_); (try (refine gate_guard (by rfl) ?_; dsimp only)); refine box_event ?hg (N := 3) ?hd (cs := #[.int .i64 a1_0, .int .i64 a1_1]) (t := 36) ?hr ?_; (case hd => rfl); (case hg => rfl); (case hr => first | (go_simp; done) | (go_simp; rfl)); intro gb254 hg w51 hbox hb; have BK254 := Aside0.mk (hbox); have GW254 := zB1 HB hg GE253; have GE254 := zB1 HB hg GE253; have NB253_254 := nL BK253 hg; have NB254_253 := nG BK253 hg; replace BK253 := mB BK253 hb; replace HB := sB1 HB hb GE253; clear hb hbox hg; have hnb52 := NB253_254.out; have hnc52 := NB254_253.out; have hcz53_0 := bC BK253 0 (.int .i64 a0_0); have hcz53_1 := bC BK253 1 (.int .i64 a0_1); have hcz53_2 := bC BK253 2 (.int .i64 a0_2); have hcz53_3 := bC BK253 3 (.int .i64 a0_3); have hfz53_0 := blk_frozen BK253.out 0; have hfz53_1 := blk_frozen BK253.out 1; have hfz53_2 := blk_frozen BK253.out 2; have hfz53_3 := blk_frozen BK253.out 3) | ((with_reducible refine gate_callee (f := 28) rfl ?_); refine gL (some 6) Try.func28 #[.agg #[.int .i64 a0_0, .int .i64 a0_1, .int .i64 a0_2, .int .i64 a0_3]] ?_; (with_reducible refine (impl_IsSegment.calls a0_0 a0_1 a0_2 a0_3 true _ A3.out).mono ?_); rintro e w54 ⟨rfl, hb⟩; refine ⟨_, rfl, ?_⟩; replace BK253 := mB BK253 hb; replace BK254 := mB BK254 hb; replace HB := sB2 HB hb GE253 GE254; (try clear hb); have hcz55_0 := bC BK254 0 (.int .i64 a1_0); have hcz55_1 := bC BK254 1 (.int .i64 a1_1); have hfz55_0 := blk_frozen BK254.out 0; have hfz55_1 := blk_frozen BK254.out 1) | (go_at_call 40; (with_reducible refine (impl_IsPoint.calls a1_0 a1_1 false _ A5.out).mono ?_); rintro e w56 ⟨rfl, hb⟩; replace BK253 := mB BK253 hb; replace BK254 := mB BK254 hb; replace HB := sB2 HB hb GE253 GE254; (try clear hb)))
   go_ret
   exact ⟨by first | rfl | (simp [errW_none, errW_some] <;> rfl) | (simp [*, errW_none, errW_some] <;> rfl), eB2 HB GE253 GE254⟩
 ·replace c4 := Bool.eq_false_iff.mpr c4
  subst c4
  have H1 : (some false) = some r := by rw [if_neg (show ¬ (false = true) by decide)] at H; exact H
  clear H
  have H := H1
  clear H1
  obtain rfl := Option.some.inj H
  go_enter Try.func29, Try.ntmps29
  go_wp2_with (first | ((with_reducible refine gate_dst (N := 2) rfl ?_); (try (refine gate_guard (by rfl) ?_; dsimp only)); refine box_event ?hg (N := 2) ?hd (cs := #[.int .i64 a0_0, .int .i64 a0_1, .int .i64 a0_2, .int .i64 a0_3]) (t := 38) ?hr ?_; (case hd => rfl); (case hg => rfl); (case hr => first | (go_simp; done) | (go_simp; rfl)); intro gb253 hg w57 hbox hb; have BK253 := Aside0.mk (hbox); have GW253 := zB0 HB hg; have GE253 := zB0 HB hg; replace HB := sB0 HB hb; clear hb hbox hg) | ((with_reducible refine gate_dst (N := 3) rfl ?_); (try (refine gate_guard (by rfl) ?_; dsimp only)); refine box_event ?hg (N := 3) ?hd (cs := #[.int .i64 a1_0, .int .i64 a1_1]) (t := 36) ?hr ?_; (case hd => rfl); (case hg => rfl); (case hr => first | (go_simp; done) | (go_simp; rfl)); intro gb254 hg w58 hbox hb; have BK254 := Aside0.mk (hbox); have GW254 := zB1 HB hg GE253; have GE254 := zB1 HB hg GE253; have NB253_254 := nL BK253 hg; have NB254_253 := nG BK253 hg; replace BK253 := mB BK253 hb; replace HB := sB1 HB hb GE253; clear hb hbox hg; have hnb59 := NB253_254.out; have hnc59 := NB254_253.out; have hcz60_0 := bC BK253 0 (.int .i64 a0_0); have hcz60_1 := bC BK253 1 (.int .i64 a0_1); have hcz60_2 := bC BK253 2 (.int .i64 a0_2); have hcz60_3 := bC BK253 3 (.int .i64 a0_3); have hfz60_0 := blk_frozen BK253.out 0; have hfz60_1 := blk_frozen BK253.out 1; have hfz60_2 := blk_frozen BK253.out 2; have hfz60_3 := blk_frozen BK253.out 3) | ((with_reducible refine gate_callee (f := 28) rfl ?_); refine gL (some 6) Try.func28 #[.agg #[.int .i64 a0_0, .int .i64 a0_1, .int .i64 a0_2, .int .i64 a0_3]] ?_; (with_reducible refine (impl_IsSegment.calls a0_0 a0_1 a0_2 a0_3 false _ A3.out).mono ?_); rintro e w61 ⟨rfl, hb⟩; refine ⟨_, rfl, ?_⟩; replace BK253 := mB BK253 hb; replace BK254 := mB BK254 hb; replace HB := sB2 HB hb GE253 GE254; (try clear hb)))
  go_ret
  exact ⟨by first | rfl | (simp [errW_none, errW_some] <;> rfl) | (simp [*, errW_none, errW_some] <;> rfl), eB2 HB GE253 GE254⟩

/-! ### impl_TurnSegment: function 27 -/
def impl_TurnSegment.f (a0_0 : Int) (a0_1 : Int) (a0_2 : Int) (a0_3 : Int) : Option (Int × Int × Int × Int) := some (a0_2, a0_3, a0_0, a0_1)
set_option maxHeartbeats 8000000 in
set_option maxRecDepth 100000 in
theorem impl_TurnSegment.calls (a0_0 : Int) (a0_1 : Int) (a0_2 : Int) (a0_3 : Int) (r1 : Int) (r2 : Int) (r3 : Int) (r4 : Int) (w : World) (h : impl_TurnSegment.f a0_0 a0_1 a0_2 a0_3 = some (r1, r2, r3, r4)) :
  Calls Try.prog 27 #[.agg #[.int .i64 a0_0, .int .i64 a0_1, .int .i64 a0_2, .int .i64 a0_3]] w fun e w' => e = .returned (.agg #[.int .i64 r1, .int .i64 r2, .int .i64 r3, .int .i64 r4]) ∧ Below w.heap.size w w' := by
 have hu38 := Try.underlying38
 have hu36 := Try.underlying36
 have HB := Aside0.mk (Below.refl w.heap.size w)
 have H : (some (a0_2, a0_3, a0_0, a0_1)) = some (r1, r2, r3, r4) := h
 clear h
 simp only [Option.some.injEq, Prod.mk.injEq] at H
 obtain ⟨rfl, rfl, rfl, rfl⟩ := H
 go_enter Try.func27, Try.ntmps27
 go_wp2_with (first | ((with_reducible refine gate_dst (N := 1) rfl ?_); refine box_event ?hg (N := 1) ?hd (cs := #[.int .i64 a0_0, .int .i64 a0_1, .int .i64 a0_2, .int .i64 a0_3]) (t := 38) ?hr ?_; (case hd => rfl); (case hg => rfl); (case hr => first | (go_simp; done) | (go_simp; rfl)); intro gb260 hg w2 hbox hb; have BK260 := Aside0.mk (hbox); have GW260 := zB0 HB hg; have GE260 := zB0 HB hg; replace HB := sB0 HB hb; clear hb hbox hg) | ((with_reducible refine gate_dst (N := 2) rfl ?_); refine box_event ?hg (N := 2) ?hd (cs := #[.int .i64 0, .int .i64 0, .int .i64 0, .int .i64 0]) (t := 38) ?hr ?_; (case hd => rfl); (case hg => rfl); (case hr => first | (go_simp; done) | (go_simp; rfl)); intro gb261 hg w3 hbox hb; have BK261 := Aside0.mk (hbox); have GW261 := zB1 HB hg GE260; have GE261 := zB1 HB hg GE260; have NB260_261 := nL BK260 hg; have NB261_260 := nG BK260 hg; replace BK260 := mB BK260 hb; replace HB := sB1 HB hb GE260; clear hb hbox hg; have hnb4 := NB260_261.out; have hnc4 := NB261_260.out; have hcz5_0 := bC BK260 0 (.int .i64 a0_0); have hcz5_1 := bC BK260 1 (.int .i64 a0_1); have hcz5_2 := bC BK260 2 (.int .i64 a0_2); have hcz5_3 := bC BK260 3 (.int .i64 a0_3); have hfz5_0 := blk_frozen BK260.out 0; have hfz5_1 := blk_frozen BK260.out 1; have hfz5_2 := blk_frozen BK260.out 2; have hfz5_3 := blk_frozen BK260.out 3; have hcz6_0 := bC BK261 0 (.int .i64 0); have hcz6_1 := bC BK261 1 (.int .i64 0); have hcz6_2 := bC BK261 2 (.int .i64 0); have hcz6_3 := bC BK261 3 (.int .i64 0); have hfz6_0 := blk_frozen BK261.out 0; have hfz6_1 := blk_frozen BK261.out 1; have hfz6_2 := blk_frozen BK261.out 2; have hfz6_3 := blk_frozen BK261.out 3))
 refine bodyPost_ret (results_cell_row rfl _ _ gb261 38 #[.int .i64 a0_2, .int .i64 a0_3, .int .i64 a0_0, .int .i64 a0_1] (0, 0) _ rfl (by (with_reducible repeat (first | refine blk_drewN ?_ _ | refine blk_drew ?_ | refine blk_alloc ?_ _)); refine blk_put (cs := #[.int .i64 a0_2, .int .i64 a0_3, .int .i64 a0_0, .int .i64 0]) ?_ 3 _ rfl; (with_reducible repeat (first | refine blk_drewN ?_ _ | refine blk_drew ?_ | refine blk_alloc ?_ _)); refine blk_put (cs := #[.int .i64 a0_2, .int .i64 a0_3, .int .i64 0, .int .i64 0]) ?_ 2 _ rfl; (with_reducible repeat (first | refine blk_drewN ?_ _ | refine blk_drew ?_ | refine blk_alloc ?_ _)); refine blk_put (cs := #[.int .i64 a0_2, .int .i64 0, .int .i64 0, .int .i64 0]) ?_ 1 _ rfl; (with_reducible repeat (first | refine blk_drewN ?_ _ | refine blk_drew ?_ | refine blk_alloc ?_ _)); refine blk_put (cs := #[.int .i64 0, .int .i64 0, .int .i64 0, .int .i64 0]) ?_ 0 _ rfl; (with_reducible repeat (first | refine blk_drewN ?_ _ | refine blk_drew ?_ | refine blk_alloc ?_ _)); exact BK261.out) Try.underlying38 rfl (by kernel_rfl)) rfl ?_
 exact ⟨by first | rfl | (simp [errW_none, errW_some] <;> rfl) | (simp [*, errW_none, errW_some] <;> rfl), eB2 HB GE260 GE261⟩

end Go.Proofs.Ytomkdfpcckgajaa.PFnLines
