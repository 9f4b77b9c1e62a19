/- What the functions of FnPoints compute, each with its proof: this session's own text. -/
import Derived.Test.YtelngjhdpbfifaaQFnPointsx0
import Derived.Test.YtelngjhdpbfifaaQFnPointsx1
import Derived.Test.YtelngjhdpbfifaaQFnPointsx2
import Derived.Test.YtelngjhdpbfifaaQFnPointsx3
import Derived.Test.YtelngjhdpbfifaaQFnPointsx4
namespace Go.Proofs.Ytelngjhdpbfifaa.PFnPoints
open Go.RowKit Go.Proofs.YtelngjhdpbfifaaW.PrintWords Go.Proofs.YtelngjhdpbfifaaW.PrintLast Go.Proofs.YtelngjhdpbfifaaW.PrintMore Go.Proofs.Ytelngjhdpbfifaa.Sh
attribute [local go_sem] max2_int min2_int max_two min_two max_three min_three max_four min_four   -- for this text's walks alone
set_option linter.unusedVariables false
set_option linter.unusedSimpArgs false

attribute [local go_sem high] eqA50
/-! ### laws_FnPoints: function 7 -/
mutual
def laws_FnPoints.j0 : Nat → List Int → Bool → Option (Bool)
 | 0, _, _ => none
 | k + 1, x0, x52 => if x52 = true then (some false) else ((spec_DrawFarSquared.f k x0).bind fun bt265 => ((impl_FarSquared.f bt265.1 bt265.2.1 bt265.2.2.1 bt265.2.2.2).bind fun t271 => ((impl_StepsBetween.f bt265.1 bt265.2.1 bt265.2.2.1 bt265.2.2.2).bind fun t272 => ((impl_FarSquared.f bt265.2.2.1 bt265.2.2.2 bt265.1 bt265.2.1).bind fun t273 => (if t271 = t273 then ((impl_StepsBetween.f bt265.2.2.1 bt265.2.2.2 bt265.1 bt265.2.1).bind fun t274 => (if t272 = t274 then (if ((t271 == (-1)) != (t272 == (-1))) = true then (laws_FnPoints.j1 k x0 true bt265.1 bt265.2.1 bt265.2.2.1 bt265.2.2.2) else (if t271 ≥ 0 then (if t271 > (wrap64 (t272 * t272)) then (laws_FnPoints.j1 k x0 true bt265.1 bt265.2.1 bt265.2.2.1 bt265.2.2.2) else (laws_FnPoints.j1 k x0 (decide ((wrap64 (2 * t271)) < (wrap64 (t272 * t272)))) bt265.1 bt265.2.1 bt265.2.2.1 bt265.2.2.2)) else (laws_FnPoints.j1 k x0 false bt265.1 bt265.2.1 bt265.2.2.1 bt265.2.2.2))) else (laws_FnPoints.j1 k x0 true bt265.1 bt265.2.1 bt265.2.2.1 bt265.2.2.2))) else (laws_FnPoints.j1 k x0 true bt265.1 bt265.2.1 bt265.2.2.1 bt265.2.2.2))))))
def laws_FnPoints.j1 : Nat → List Int → Bool → Int → Int → Int → Int → Option (Bool)
 | 0, _, _, _, _, _, _ => none
 | k + 1, x0, x101, x270000, x270001, x271000, x271001 => if x101 = true then (some false) else ((spec_DrawMovePoint.f k x0).bind fun bt275 => ((impl_MovePoint.f bt275.1 bt275.2.1 bt275.2.2.1 bt275.2.2.2).bind fun bt280 => (if bt280.2.2 = true then ((impl_MovePoint.f bt280.1 bt280.2.1 (wrap64 (-bt275.2.2.1)) (wrap64 (-bt275.2.2.2))).bind fun bt284 => (if bt284.2.2 = true then (if (!(bt284.1 == bt275.1) || (!(bt284.2.1 == bt275.2.1))) = true then (some false) else (laws_FnPoints.j2 k x270000 x270001 x271000 x271001)) else (some false))) else (laws_FnPoints.j2 k x270000 x270001 x271000 x271001))))
def laws_FnPoints.j2 : Nat → Int → Int → Int → Int → Option (Bool)
 | 0, _, _, _, _ => none
 | k + 1, x270000, x270001, x271000, x271001 => (impl_BeforePoint.f x270000 x270001 x271000 x271001).bind fun t288 => (if t288 = true then ((impl_BeforePoint.f x271000 x271001 x270000 x270001).bind fun t289 => (if t289 = true then (some false) else ((impl_BeforePoint.f x270000 x270001 x271000 x271001).bind fun t290 => (if t290 = true then (some true) else ((impl_BeforePoint.f x271000 x271001 x270000 x270001).bind fun t291 => (if t291 = true then (some true) else (some (x270000 == x271000 && (x270001 == x271001))))))))) else ((impl_BeforePoint.f x270000 x270001 x271000 x271001).bind fun t292 => (if t292 = true then (some true) else ((impl_BeforePoint.f x271000 x271001 x270000 x270001).bind fun t293 => (if t293 = true then (some true) else (some (x270000 == x271000 && (x270001 == x271001))))))))
end
def laws_FnPoints.f (k : Nat) (l0 : List Int) : Option (Bool) := (laws_big.f l0).bind fun t251 => (if t251 = true then (some true) else ((spec_DrawSideOf.f k l0).bind fun bt252 => ((impl_SideOf.f k bt252.1 bt252.2.1 bt252.2.2.1 bt252.2.2.2.1 bt252.2.2.2.2.1 bt252.2.2.2.2.2).bind fun t261 => ((impl_SideOf.f k bt252.2.2.1 bt252.2.2.2.1 bt252.1 bt252.2.1 bt252.2.2.2.2.1 bt252.2.2.2.2.2).bind fun t262 => (if t261 = (wrap64 (-t262)) then ((impl_SideOf.f k bt252.2.2.1 bt252.2.2.2.1 bt252.2.2.2.2.1 bt252.2.2.2.2.2 bt252.1 bt252.2.1).bind fun t263 => (if t261 = t263 then ((impl_SideOf.f k bt252.2.2.2.2.1 bt252.2.2.2.2.2 bt252.1 bt252.2.1 bt252.2.2.1 bt252.2.2.2.1).bind fun t264 => (laws_FnPoints.j0 k l0 (t261 != t264))) else (laws_FnPoints.j0 k l0 true))) else (laws_FnPoints.j0 k l0 true))))))
theorem laws_FnPoints.mono_l : ∀ k, (∀ y0 y1, LeO (laws_FnPoints.j0 k y0 y1) (laws_FnPoints.j0 (k + 1) y0 y1)) ∧ (∀ y0 y1 y2 y3 y4 y5, LeO (laws_FnPoints.j1 k y0 y1 y2 y3 y4 y5) (laws_FnPoints.j1 (k + 1) y0 y1 y2 y3 y4 y5)) ∧ (∀ y0 y1 y2 y3, LeO (laws_FnPoints.j2 k y0 y1 y2 y3) (laws_FnPoints.j2 (k + 1) y0 y1 y2 y3))
 | 0 => ⟨fun _ _ r h => by simp [laws_FnPoints.j0] at h, fun _ _ _ _ _ _ r h => by simp [laws_FnPoints.j1] at h, fun _ _ _ _ r h => by simp [laws_FnPoints.j2] at h⟩
 | k + 1 => by
  obtain ⟨ih0, ih1, ih2⟩ := laws_FnPoints.mono_l k
  refine ⟨?_, ?_, ?_⟩
  ·intro y0 y1
   unfold laws_FnPoints.j0
   repeat' first
   | (with_reducible exact ih0 _ _)
   | (with_reducible exact ih1 _ _ _ _ _ _)
   | (with_reducible exact ih2 _ _ _ _)
   | (with_reducible exact impl_SideOf.mono _ _ _ _ _ _ _)
   | (with_reducible exact spec_DrawFarSquared.mono _ _)
   | (with_reducible exact spec_DrawMovePoint.mono _ _)
   | (with_reducible exact spec_DrawSideOf.mono _ _)
   | (with_reducible exact LeO.refl _)
   | (with_reducible exact LeO.none _)
   | (with_reducible refine LeO.ite ?_ ?_)
   | (with_reducible refine LeO.bind ?_ (fun _ => ?_))
   | exact ih0 _ _
   | exact ih1 _ _ _ _ _ _
   | exact ih2 _ _ _ _
   | exact impl_SideOf.mono _ _ _ _ _ _ _
   | exact spec_DrawFarSquared.mono _ _
   | exact spec_DrawMovePoint.mono _ _
   | exact spec_DrawSideOf.mono _ _
   | exact LeO.none _
   | refine LeO.ite ?_ ?_
   | refine LeO.bind ?_ (fun _ => ?_)
  ·intro y0 y1 y2 y3 y4 y5
   unfold laws_FnPoints.j1
   repeat' first
   | (with_reducible exact ih0 _ _)
   | (with_reducible exact ih1 _ _ _ _ _ _)
   | (with_reducible exact ih2 _ _ _ _)
   | (with_reducible exact impl_SideOf.mono _ _ _ _ _ _ _)
   | (with_reducible exact spec_DrawFarSquared.mono _ _)
   | (with_reducible exact spec_DrawMovePoint.mono _ _)
   | (with_reducible exact spec_DrawSideOf.mono _ _)
   | (with_reducible exact LeO.refl _)
   | (with_reducible exact LeO.none _)
   | (with_reducible refine LeO.ite ?_ ?_)
   | (with_reducible refine LeO.bind ?_ (fun _ => ?_))
   | exact ih0 _ _
   | exact ih1 _ _ _ _ _ _
   | exact ih2 _ _ _ _
   | exact impl_SideOf.mono _ _ _ _ _ _ _
   | exact spec_DrawFarSquared.mono _ _
   | exact spec_DrawMovePoint.mono _ _
   | exact spec_DrawSideOf.mono _ _
   | exact LeO.none _
   | refine LeO.ite ?_ ?_
   | refine LeO.bind ?_ (fun _ => ?_)
  ·intro y0 y1 y2 y3
   unfold laws_FnPoints.j2
   repeat' first
   | (with_reducible exact ih0 _ _)
   | (with_reducible exact ih1 _ _ _ _ _ _)
   | (with_reducible exact ih2 _ _ _ _)
   | (with_reducible exact impl_SideOf.mono _ _ _ _ _ _ _)
   | (with_reducible exact spec_DrawFarSquared.mono _ _)
   | (with_reducible exact spec_DrawMovePoint.mono _ _)
   | (with_reducible exact spec_DrawSideOf.mono _ _)
   | (with_reducible exact LeO.refl _)
   | (with_reducible exact LeO.none _)
   | (with_reducible refine LeO.ite ?_ ?_)
   | (with_reducible refine LeO.bind ?_ (fun _ => ?_))
   | exact ih0 _ _
   | exact ih1 _ _ _ _ _ _
   | exact ih2 _ _ _ _
   | exact impl_SideOf.mono _ _ _ _ _ _ _
   | exact spec_DrawFarSquared.mono _ _
   | exact spec_DrawMovePoint.mono _ _
   | exact spec_DrawSideOf.mono _ _
   | exact LeO.none _
   | refine LeO.ite ?_ ?_
   | refine LeO.bind ?_ (fun _ => ?_)
theorem laws_FnPoints.mono : ∀ a0 k, LeO (laws_FnPoints.f k a0) (laws_FnPoints.f (k + 1) a0) := by
 intro a0 k
 obtain ⟨ih0, ih1, ih2⟩ := laws_FnPoints.mono_l k
 unfold laws_FnPoints.f
 repeat' first
   | (with_reducible exact ih0 _ _)
   | (with_reducible exact ih1 _ _ _ _ _ _)
   | (with_reducible exact ih2 _ _ _ _)
   | (with_reducible exact impl_SideOf.mono _ _ _ _ _ _ _)
   | (with_reducible exact spec_DrawFarSquared.mono _ _)
   | (with_reducible exact spec_DrawMovePoint.mono _ _)
   | (with_reducible exact spec_DrawSideOf.mono _ _)
   | (with_reducible exact LeO.refl _)
   | (with_reducible exact LeO.none _)
   | (with_reducible refine LeO.ite ?_ ?_)
   | (with_reducible refine LeO.bind ?_ (fun _ => ?_))
   | exact ih0 _ _
   | exact ih1 _ _ _ _ _ _
   | exact ih2 _ _ _ _
   | exact impl_SideOf.mono _ _ _ _ _ _ _
   | exact spec_DrawFarSquared.mono _ _
   | exact spec_DrawMovePoint.mono _ _
   | exact spec_DrawSideOf.mono _ _
   | exact LeO.none _
   | refine LeO.ite ?_ ?_
   | refine LeO.bind ?_ (fun _ => ?_)
set_option maxHeartbeats 8000000 in
set_option maxRecDepth 100000 in
theorem laws_FnPoints.calls (k : Nat) (A0 : Option Addr) (c0 : Nat) (l0 : List Int) (r : Bool) (w : World) (hr0 : Kd.C (Kd.int .u8) w A0 l0.length l0) (hc0 : l0.length ≤ c0) (h : laws_FnPoints.f k l0 = some r) :
  Calls Try.prog 7 #[.slice A0 l0.length c0] w fun e w' => e = .returned (.bool r) ∧ Below w.heap.size w w' := by
 have hu50 := Try.underlying50
 have HR0 := Aside0.mk hr0
 have HC0 := Aside0.mk hc0
 clear hr0 hc0
 have HB := Aside0.mk (Below.refl w.heap.size w)
 have H : ((laws_big.f l0).bind fun t251 => (if t251 = true then (some true) else ((spec_DrawSideOf.f k l0).bind fun bt252 => ((impl_SideOf.f k bt252.1 bt252.2.1 bt252.2.2.1 bt252.2.2.2.1 bt252.2.2.2.2.1 bt252.2.2.2.2.2).bind fun t261 => ((impl_SideOf.f k bt252.2.2.1 bt252.2.2.2.1 bt252.1 bt252.2.1 bt252.2.2.2.2.1 bt252.2.2.2.2.2).bind fun t262 => (if t261 = (wrap64 (-t262)) then ((impl_SideOf.f k bt252.2.2.1 bt252.2.2.2.1 bt252.2.2.2.2.1 bt252.2.2.2.2.2 bt252.1 bt252.2.1).bind fun t263 => (if t261 = t263 then ((impl_SideOf.f k bt252.2.2.2.2.1 bt252.2.2.2.2.2 bt252.1 bt252.2.1 bt252.2.2.1 bt252.2.2.2.1).bind fun t264 => (laws_FnPoints.j0 k l0 (t261 != t264))) else (laws_FnPoints.j0 k l0 true))) else (laws_FnPoints.j0 k l0 true))))))) = some r := h
 clear h
 replace H := Option.bind_eq_some_iff.mp H
 obtain ⟨t251, A20, H⟩ := H
 replace H : (if t251 = true then (some true) else ((spec_DrawSideOf.f k l0).bind fun bt252 => ((impl_SideOf.f k bt252.1 bt252.2.1 bt252.2.2.1 bt252.2.2.2.1 bt252.2.2.2.2.1 bt252.2.2.2.2.2).bind fun t261 => ((impl_SideOf.f k bt252.2.2.1 bt252.2.2.2.1 bt252.1 bt252.2.1 bt252.2.2.2.2.1 bt252.2.2.2.2.2).bind fun t262 => (if t261 = (wrap64 (-t262)) then ((impl_SideOf.f k bt252.2.2.1 bt252.2.2.2.1 bt252.2.2.2.2.1 bt252.2.2.2.2.2 bt252.1 bt252.2.1).bind fun t263 => (if t261 = t263 then ((impl_SideOf.f k bt252.2.2.2.2.1 bt252.2.2.2.2.2 bt252.1 bt252.2.1 bt252.2.2.1 bt252.2.2.2.1).bind fun t264 => (laws_FnPoints.j0 k l0 (t261 != t264))) else (laws_FnPoints.j0 k l0 true))) else (laws_FnPoints.j0 k l0 true)))))) = some r := H
 have A2 := Aside0.mk A20
 clear A20
 by_cases c3 : t251 = true
 ·subst c3
  have H1 : (some true) = some r := by rw [if_pos rfl] at H; exact H
  clear H
  have H := H1
  clear H1
  obtain rfl := Option.some.inj H
  go_enter Try.func7, Try.ntmps7
  go_wp2_with (first | ((with_reducible refine gate_callee (f := 13) rfl ?_); refine goesL_ (some 19) rfl rfl Try.func13 (by kernel_rfl) rfl #[.slice A0 l0.length c0] rfl (by (try simp only [List.map_toArray, List.map_cons, List.map_nil]); first | done | rfl | (simp only [List.length_drop, List.length_take]; rfl)) ?_; (with_reducible refine (laws_big.calls _ _ l0 true _ ?side1 ?side2 A2.out).mono ?_); (case side1 => repeat (first | exact HR0.out | (with_reducible refine Kd.C_alloc ?_ _) | (with_reducible refine Kd.C_drewN ?_ _) | (with_reducible refine Kd.C_drew ?_))); (case side2 => exact HC0.out); rintro e w' ⟨rfl, ⟨nd, rfl⟩⟩; refine ⟨_, rfl, ?_⟩))
  go_ret
  exact ⟨by first | rfl | (simp [errW_none, errW_some] <;> rfl) | (simp [*, errW_none, errW_some] <;> rfl), by repeat (first | (with_reducible first | exact HB.out | apply below_alloc | apply pw_below_drewN | apply below_drew1) | exact HB.out)⟩
 ·replace c3 := Bool.eq_false_iff.mpr c3
  subst c3
  have H1 : ((spec_DrawSideOf.f k l0).bind fun bt252 => ((impl_SideOf.f k bt252.1 bt252.2.1 bt252.2.2.1 bt252.2.2.2.1 bt252.2.2.2.2.1 bt252.2.2.2.2.2).bind fun t261 => ((impl_SideOf.f k bt252.2.2.1 bt252.2.2.2.1 bt252.1 bt252.2.1 bt252.2.2.2.2.1 bt252.2.2.2.2.2).bind fun t262 => (if t261 = (wrap64 (-t262)) then ((impl_SideOf.f k bt252.2.2.1 bt252.2.2.2.1 bt252.2.2.2.2.1 bt252.2.2.2.2.2 bt252.1 bt252.2.1).bind fun t263 => (if t261 = t263 then ((impl_SideOf.f k bt252.2.2.2.2.1 bt252.2.2.2.2.2 bt252.1 bt252.2.1 bt252.2.2.1 bt252.2.2.2.1).bind fun t264 => (laws_FnPoints.j0 k l0 (t261 != t264))) else (laws_FnPoints.j0 k l0 true))) else (laws_FnPoints.j0 k l0 true))))) = some r := by rw [if_neg (show ¬ (false = true) by decide)] at H; exact H
  clear H
  have H := H1
  clear H1
  replace H := Option.bind_eq_some_iff.mp H
  obtain ⟨⟨t252, t253, t254, t255, t256, t257⟩, A40, H⟩ := H
  replace H : ((impl_SideOf.f k t252 t253 t254 t255 t256 t257).bind fun t261 => ((impl_SideOf.f k t254 t255 t252 t253 t256 t257).bind fun t262 => (if t261 = (wrap64 (-t262)) then ((impl_SideOf.f k t254 t255 t256 t257 t252 t253).bind fun t263 => (if t261 = t263 then ((impl_SideOf.f k t256 t257 t252 t253 t254 t255).bind fun t264 => (laws_FnPoints.j0 k l0 (t261 != t264))) else (laws_FnPoints.j0 k l0 true))) else (laws_FnPoints.j0 k l0 true)))) = some r := H
  have A4 := Aside0.mk A40
  clear A40
  replace H := Option.bind_eq_some_iff.mp H
  obtain ⟨t261, A50, H⟩ := H
  replace H : ((impl_SideOf.f k t254 t255 t252 t253 t256 t257).bind fun t262 => (if t261 = (wrap64 (-t262)) then ((impl_SideOf.f k t254 t255 t256 t257 t252 t253).bind fun t263 => (if t261 = t263 then ((impl_SideOf.f k t256 t257 t252 t253 t254 t255).bind fun t264 => (laws_FnPoints.j0 k l0 (t261 != t264))) else (laws_FnPoints.j0 k l0 true))) else (laws_FnPoints.j0 k l0 true))) = some r := H
  have A5 := Aside0.mk A50
  clear A50
  have HC6 := Aside0.mk H
  clear H
  go_enter Try.func7, Try.ntmps7
  go_upto_region 5 with (first | ((with_reducible refine gate_callee (f := 13) rfl ?_); refine goesL_ (some 19) rfl rfl Try.func13 (by kernel_rfl) rfl #[.slice A0 l0.length c0] rfl (by (try simp only [List.map_toArray, List.map_cons, List.map_nil]); first | done | rfl | (simp only [List.length_drop, List.length_take]; rfl)) ?_; (with_reducible refine (laws_big.calls _ _ l0 false _ ?side1 ?side2 A2.out).mono ?_); (case side1 => repeat (first | exact HR0.out | (with_reducible refine Kd.C_alloc ?_ _) | (with_reducible refine Kd.C_drewN ?_ _) | (with_reducible refine Kd.C_drew ?_))); (case side2 => exact HC0.out); rintro e w' ⟨rfl, ⟨nd, rfl⟩⟩; refine ⟨_, rfl, ?_⟩) | ((with_reducible refine gate_callee (f := 35) rfl ?_); refine goesL_ (some 22) rfl rfl Try.func35 (by kernel_rfl) rfl #[.slice A0 l0.length c0] rfl (by (try simp only [List.map_toArray, List.map_cons, List.map_nil]); first | done | rfl | (simp only [List.length_drop, List.length_take]; rfl)) ?_; (with_reducible refine (spec_DrawSideOf.calls k _ _ l0 t252 t253 t254 t255 t256 t257 _ ?side1 ?side2 A4.out).mono ?_); (case side1 => repeat (first | exact HR0.out | (with_reducible refine Kd.C_alloc ?_ _) | (with_reducible refine Kd.C_drewN ?_ _) | (with_reducible refine Kd.C_drew ?_))); (case side2 => exact HC0.out); rintro e w7 ⟨rfl, hb⟩; refine ⟨_, rfl, ?_⟩; replace HB := sB0 HB hb; (try clear hb); (try clear hb2); (try clear hk); (try clear hi)) | ((with_reducible refine gate_dst (N := 3) rfl ?_); refine box_event ?hg (N := 3) ?hd (cs := #[.int .i64 0, .int .i64 0]) (t := 50) ?hr ?_; (case hd => rfl); (case hg => rfl); (case hr => first | (go_simp; done) | (go_simp; rfl)); intro gb258 hg w8 hbox hb; have BK258 := Aside0.mk (hbox); have GW258 := zB0 HB hg; have GE258 := zB0 HB hg; replace HB := sB0 HB hb; clear hb hbox hg) | ((with_reducible refine gate_dst (N := 4) rfl ?_); refine box_event ?hg (N := 4) ?hd (cs := #[.int .i64 0, .int .i64 0]) (t := 50) ?hr ?_; (case hd => rfl); (case hg => rfl); (case hr => first | (go_simp; done) | (go_simp; rfl)); intro gb259 hg w9 hbox hb; have BK259 := Aside0.mk (hbox); have GW259 := zB1 HB hg GE258; have GE259 := zB1 HB hg GE258; have NB258_259 := nL BK258 hg; have NB259_258 := nG BK258 hg; replace BK258 := mB BK258 hb; replace HB := sB1 HB hb GE258; clear hb hbox hg) | ((with_reducible refine gate_dst (N := 5) rfl ?_); refine box_event ?hg (N := 5) ?hd (cs := #[.int .i64 0, .int .i64 0]) (t := 50) ?hr ?_; (case hd => rfl); (case hg => rfl); (case hr => first | (go_simp; done) | (go_simp; rfl)); intro gb260 hg w10 hbox hb; have BK260 := Aside0.mk (hbox); have GW260 := zB2 HB hg GE258 GE259; have GE260 := zB2 HB hg GE258 GE259; have NB258_260 := nL BK258 hg; have NB260_258 := nG BK258 hg; have NB259_260 := nL BK259 hg; have NB260_259 := nG BK259 hg; replace BK258 := mB BK258 hb; replace BK259 := mB BK259 hb; replace HB := sB2 HB hb GE258 GE259; clear hb hbox hg; have hnb11 := NB258_259.out; have hnc11 := NB259_258.out; have hnb12 := NB258_260.out; have hnc12 := NB260_258.out; have hcz13_0 : w10.cell? ⟨gb258, 0, none⟩ = some (.int .i64 0) := (blk_cell BK258.out 0).trans rfl; have hcz13_1 : w10.cell? ⟨gb258, 1, none⟩ = some (.int .i64 0) := (blk_cell BK258.out 1).trans rfl; have hfz13_0 := blk_frozen BK258.out 0; have hfz13_1 := blk_frozen BK258.out 1; have hnb14 := NB259_260.out; have hnc14 := NB260_259.out; have hcz15_0 : w10.cell? ⟨gb259, 0, none⟩ = some (.int .i64 0) := (blk_cell BK259.out 0).trans rfl; have hcz15_1 : w10.cell? ⟨gb259, 1, none⟩ = some (.int .i64 0) := (blk_cell BK259.out 1).trans rfl; have hfz15_0 := blk_frozen BK259.out 0; have hfz15_1 := blk_frozen BK259.out 1; have hcz16_0 : w10.cell? ⟨gb260, 0, none⟩ = some (.int .i64 0) := (blk_cell BK260.out 0).trans rfl; have hcz16_1 : w10.cell? ⟨gb260, 1, none⟩ = some (.int .i64 0) := (blk_cell BK260.out 1).trans rfl; have hfz16_0 := blk_frozen BK260.out 0; have hfz16_1 := blk_frozen BK260.out 1) | ((with_reducible refine gate_callee (f := 36) rfl ?_); refine goesL_ (some 29) rfl rfl Try.func36 (by kernel_rfl) rfl #[.agg #[.int .i64 t252, .int .i64 t253], .agg #[.int .i64 t254, .int .i64 t255], .agg #[.int .i64 t256, .int .i64 t257]] rfl (by (try simp only [List.map_toArray, List.map_cons, List.map_nil]); first | done | rfl | (simp only [List.length_drop, List.length_take]; rfl)) ?_; (with_reducible refine (impl_SideOf.calls k t252 t253 t254 t255 t256 t257 t261 _ A5.out).mono ?_); rintro e w17 ⟨rfl, hb⟩; refine ⟨_, rfl, ?_⟩; replace BK258 := Aside0.mk (blk_below (g := gb258) (o := .cells #[.int .i64 t252, .int .i64 t253] 50 (0, 0)) (by (with_reducible repeat (first | refine blk_drewN ?_ _ | refine blk_drew ?_ | refine blk_alloc ?_ _)); refine blk_far ?_ NB258_260.out _; (with_reducible repeat (first | refine blk_drewN ?_ _ | refine blk_drew ?_ | refine blk_alloc ?_ _)); refine blk_far ?_ NB258_260.out _; (with_reducible repeat (first | refine blk_drewN ?_ _ | refine blk_drew ?_ | refine blk_alloc ?_ _)); refine blk_far ?_ NB258_259.out _; (with_reducible repeat (first | refine blk_drewN ?_ _ | refine blk_drew ?_ | refine blk_alloc ?_ _)); refine blk_far ?_ NB258_259.out _; (with_reducible repeat (first | refine blk_drewN ?_ _ | refine blk_drew ?_ | refine blk_alloc ?_ _)); refine blk_put (cs := #[.int .i64 t252, .int .i64 0]) ?_ 1 _ rfl; (with_reducible repeat (first | refine blk_drewN ?_ _ | refine blk_drew ?_ | refine blk_alloc ?_ _)); refine blk_put (cs := #[.int .i64 0, .int .i64 0]) ?_ 0 _ rfl; (with_reducible repeat (first | refine blk_drewN ?_ _ | refine blk_drew ?_ | refine blk_alloc ?_ _)); exact BK258.out) hb); replace BK259 := Aside0.mk (blk_below (g := gb259) (o := .cells #[.int .i64 t254, .int .i64 t255] 50 (0, 0)) (by (with_reducible repeat (first | refine blk_drewN ?_ _ | refine blk_drew ?_ | refine blk_alloc ?_ _)); refine blk_far ?_ NB259_260.out _; (with_reducible repeat (first | refine blk_drewN ?_ _ | refine blk_drew ?_ | refine blk_alloc ?_ _)); refine blk_far ?_ NB259_260.out _; (with_reducible repeat (first | refine blk_drewN ?_ _ | refine blk_drew ?_ | refine blk_alloc ?_ _)); refine blk_put (cs := #[.int .i64 t254, .int .i64 0]) ?_ 1 _ rfl; (with_reducible repeat (first | refine blk_drewN ?_ _ | refine blk_drew ?_ | refine blk_alloc ?_ _)); refine blk_put (cs := #[.int .i64 0, .int .i64 0]) ?_ 0 _ rfl; (with_reducible repeat (first | refine blk_drewN ?_ _ | refine blk_drew ?_ | refine blk_alloc ?_ _)); refine blk_far ?_ NB259_258.out _; (with_reducible repeat (first | refine blk_drewN ?_ _ | refine blk_drew ?_ | refine blk_alloc ?_ _)); refine blk_far ?_ NB259_258.out _; (with_reducible repeat (first | refine blk_drewN ?_ _ | refine blk_drew ?_ | refine blk_alloc ?_ _)); exact BK259.out) hb); replace BK260 := Aside0.mk (blk_below (g := gb260) (o := .cells #[.int .i64 t256, .int .i64 t257] 50 (0, 0)) (by (with_reducible repeat (first | refine blk_drewN ?_ _ | refine blk_drew ?_ | refine blk_alloc ?_ _)); refine blk_put (cs := #[.int .i64 t256, .int .i64 0]) ?_ 1 _ rfl; (with_reducible repeat (first | refine blk_drewN ?_ _ | refine blk_drew ?_ | refine blk_alloc ?_ _)); refine blk_put (cs := #[.int .i64 0, .int .i64 0]) ?_ 0 _ rfl; (with_reducible repeat (first | refine blk_drewN ?_ _ | refine blk_drew ?_ | refine blk_alloc ?_ _)); refine blk_far ?_ NB260_259.out _; (with_reducible repeat (first | refine blk_drewN ?_ _ | refine blk_drew ?_ | refine blk_alloc ?_ _)); refine blk_far ?_ NB260_259.out _; (with_reducible repeat (first | refine blk_drewN ?_ _ | refine blk_drew ?_ | refine blk_alloc ?_ _)); refine blk_far ?_ NB260_258.out _; (with_reducible repeat (first | refine blk_drewN ?_ _ | refine blk_drew ?_ | refine blk_alloc ?_ _)); refine blk_far ?_ NB260_258.out _; (with_reducible repeat (first | refine blk_drewN ?_ _ | refine blk_drew ?_ | refine blk_alloc ?_ _)); exact BK260.out) hb); replace HB := sB3 HB hb GE258 GE259 GE260; (try clear hb); (try clear hb2); (try clear hk); (try clear hi)))
  (try simp only [Act.put, List.setIfInBounds_toArray, List.set_cons_zero, List.set_cons_succ])
  go_cut [52] (fun v52 wc => ∃ (kq : Nat) (x52_5 : Bool), v52 = .bool x52_5 ∧ Aside0 (laws_FnPoints.j0 kq l0 x52_5 = some r) ∧ Aside0 (kq ≤ k) ∧ Aside0 (wc.heap[gb258]? = some (.cells #[.int .i64 t252, .int .i64 t253] 50 (0, 0))) ∧ Aside0 (wc.heap[gb259]? = some (.cells #[.int .i64 t254, .int .i64 t255] 50 (0, 0))) ∧ Aside0 (wc.heap[gb260]? = some (.cells #[.int .i64 t256, .int .i64 t257] 50 (0, 0))) ∧ Aside0 (Below w.heap.size w wc))
  case first =>
   have H := HC6.out
   clear HC6
   replace H := Option.bind_eq_some_iff.mp H
   obtain ⟨t262, A180, H⟩ := H
   replace H : (if t261 = (wrap64 (-t262)) then ((impl_SideOf.f k t254 t255 t256 t257 t252 t253).bind fun t263 => (if t261 = t263 then ((impl_SideOf.f k t256 t257 t252 t253 t254 t255).bind fun t264 => (laws_FnPoints.j0 k l0 (t261 != t264))) else (laws_FnPoints.j0 k l0 true))) else (laws_FnPoints.j0 k l0 true)) = some r := H
   have A18 := Aside0.mk A180
   clear A180
   by_cases c19 : t261 = (wrap64 (-t262))
   ·rw [if_pos c19] at H
    have c19b0 : (t261 == (wrap64 (-t262))) = true := beq_iff_eq.mpr c19
    have c19b1 : (t261 != (wrap64 (-t262))) = false := bne_eq_false_iff_eq.mpr c19
    clear c19
    (first | rw [c19b0] | (simp only [i64_w, i32_w]; rw [c19b0]) | skip)
    replace H := Option.bind_eq_some_iff.mp H
    obtain ⟨t263, A200, H⟩ := H
    replace H : (if t261 = t263 then ((impl_SideOf.f k t256 t257 t252 t253 t254 t255).bind fun t264 => (laws_FnPoints.j0 k l0 (t261 != t264))) else (laws_FnPoints.j0 k l0 true)) = some r := H
    have A20 := Aside0.mk A200
    clear A200
    by_cases c21 : t261 = t263
    ·rw [if_pos c21] at H
     have c21b0 : (t261 == t263) = true := beq_iff_eq.mpr c21
     have c21b1 : (t261 != t263) = false := bne_eq_false_iff_eq.mpr c21
     clear c21
     replace H := Option.bind_eq_some_iff.mp H
     obtain ⟨t264, A220, H⟩ := H
     replace H : (laws_FnPoints.j0 k l0 (t261 != t264)) = some r := H
     have A22 := Aside0.mk A220
     clear A220
     have H' := Aside0.mk H
     clear H
     have hnb23 := NB259_258.out
     have hnc23 := NB258_259.out
     have hnb24 := NB259_260.out
     have hnc24 := NB260_259.out
     have hcz25_0 : w17.cell? ⟨gb259, 0, none⟩ = some (.int .i64 t254) := (blk_cell BK259.out 0).trans rfl
     have hcz25_1 : w17.cell? ⟨gb259, 1, none⟩ = some (.int .i64 t255) := (blk_cell BK259.out 1).trans rfl
     have hfz25_0 := blk_frozen BK259.out 0
     have hfz25_1 := blk_frozen BK259.out 1
     have hnb26 := NB258_260.out
     have hnc26 := NB260_258.out
     have hcz27_0 : w17.cell? ⟨gb258, 0, none⟩ = some (.int .i64 t252) := (blk_cell BK258.out 0).trans rfl
     have hcz27_1 : w17.cell? ⟨gb258, 1, none⟩ = some (.int .i64 t253) := (blk_cell BK258.out 1).trans rfl
     have hfz27_0 := blk_frozen BK258.out 0
     have hfz27_1 := blk_frozen BK258.out 1
     have hcz28_0 : w17.cell? ⟨gb260, 0, none⟩ = some (.int .i64 t256) := (blk_cell BK260.out 0).trans rfl
     have hcz28_1 : w17.cell? ⟨gb260, 1, none⟩ = some (.int .i64 t257) := (blk_cell BK260.out 1).trans rfl
     have hfz28_0 := blk_frozen BK260.out 0
     have hfz28_1 := blk_frozen BK260.out 1
     go_wp2_with (first | ((with_reducible refine gate_callee (f := 36) rfl ?_); refine goesL_ (some 34) rfl rfl Try.func36 (by kernel_rfl) rfl #[.agg #[.int .i64 t254, .int .i64 t255], .agg #[.int .i64 t252, .int .i64 t253], .agg #[.int .i64 t256, .int .i64 t257]] rfl (by (try simp only [List.map_toArray, List.map_cons, List.map_nil]); first | done | rfl | (simp only [List.length_drop, List.length_take]; rfl)) ?_; (with_reducible refine (impl_SideOf.calls k t254 t255 t252 t253 t256 t257 t262 _ A18.out).mono ?_); rintro e w29 ⟨rfl, hb⟩; refine ⟨_, rfl, ?_⟩; replace BK258 := mB BK258 hb; replace BK259 := mB BK259 hb; replace BK260 := mB BK260 hb; replace HB := sB3 HB hb GE258 GE259 GE260; (try clear hb); (try clear hb2); (try clear hk); (try clear hi); have hcz30_0 : w29.cell? ⟨gb259, 0, none⟩ = some (.int .i64 t254) := (blk_cell BK259.out 0).trans rfl; have hcz30_1 : w29.cell? ⟨gb259, 1, none⟩ = some (.int .i64 t255) := (blk_cell BK259.out 1).trans rfl; have hfz30_0 := blk_frozen BK259.out 0; have hfz30_1 := blk_frozen BK259.out 1; have hcz31_0 : w29.cell? ⟨gb260, 0, none⟩ = some (.int .i64 t256) := (blk_cell BK260.out 0).trans rfl; have hcz31_1 : w29.cell? ⟨gb260, 1, none⟩ = some (.int .i64 t257) := (blk_cell BK260.out 1).trans rfl; have hfz31_0 := blk_frozen BK260.out 0; have hfz31_1 := blk_frozen BK260.out 1; have hcz32_0 : w29.cell? ⟨gb258, 0, none⟩ = some (.int .i64 t252) := (blk_cell BK258.out 0).trans rfl; have hcz32_1 : w29.cell? ⟨gb258, 1, none⟩ = some (.int .i64 t253) := (blk_cell BK258.out 1).trans rfl; have hfz32_0 := blk_frozen BK258.out 0; have hfz32_1 := blk_frozen BK258.out 1) | (go_at_call 36; (with_reducible refine (impl_SideOf.calls k t254 t255 t256 t257 t252 t253 t263 _ A20.out).mono ?_); rintro e w33 ⟨rfl, hb⟩; replace BK258 := mB BK258 hb; replace BK259 := mB BK259 hb; replace BK260 := mB BK260 hb; replace HB := sB3 HB hb GE258 GE259 GE260; (try clear hb); (try clear hb2); (try clear hk); (try clear hi); have hcz34_0 : w33.cell? ⟨gb260, 0, none⟩ = some (.int .i64 t256) := (blk_cell BK260.out 0).trans rfl; have hcz34_1 : w33.cell? ⟨gb260, 1, none⟩ = some (.int .i64 t257) := (blk_cell BK260.out 1).trans rfl; have hfz34_0 := blk_frozen BK260.out 0; have hfz34_1 := blk_frozen BK260.out 1; have hcz35_0 : w33.cell? ⟨gb258, 0, none⟩ = some (.int .i64 t252) := (blk_cell BK258.out 0).trans rfl; have hcz35_1 : w33.cell? ⟨gb258, 1, none⟩ = some (.int .i64 t253) := (blk_cell BK258.out 1).trans rfl; have hfz35_0 := blk_frozen BK258.out 0; have hfz35_1 := blk_frozen BK258.out 1; have hcz36_0 : w33.cell? ⟨gb259, 0, none⟩ = some (.int .i64 t254) := (blk_cell BK259.out 0).trans rfl; have hcz36_1 : w33.cell? ⟨gb259, 1, none⟩ = some (.int .i64 t255) := (blk_cell BK259.out 1).trans rfl; have hfz36_0 := blk_frozen BK259.out 0; have hfz36_1 := blk_frozen BK259.out 1) | (go_at_call 36; (with_reducible refine (impl_SideOf.calls k t256 t257 t252 t253 t254 t255 t264 _ A22.out).mono ?_); rintro e w37 ⟨rfl, hb⟩; replace BK258 := mB BK258 hb; replace BK259 := mB BK259 hb; replace BK260 := mB BK260 hb; replace HB := sB3 HB hb GE258 GE259 GE260; (try clear hb); (try clear hb2); (try clear hk); (try clear hi)))
     go_meet
     case rel => exact ⟨_, ((t261 != t264)), (by first | rfl | (simp; done) | (simp [*]; done)), H', ⟨by first | omega | exact Nat.le_refl _⟩, ⟨by (with_reducible repeat (first | refine blk_drewN ?_ _ | refine blk_drew ?_ | refine blk_alloc ?_ _)); exact BK258.out⟩, ⟨by (with_reducible repeat (first | refine blk_drewN ?_ _ | refine blk_drew ?_ | refine blk_alloc ?_ _)); exact BK259.out⟩, ⟨by (with_reducible repeat (first | refine blk_drewN ?_ _ | refine blk_drew ?_ | refine blk_alloc ?_ _)); exact BK260.out⟩, ⟨by repeat (first | (with_reducible first | exact HB.out | apply below_alloc | apply pw_below_drewN | apply below_drew1 | refine below_set ?_ GE258.out | refine below_set ?_ GE259.out | refine below_set ?_ GE260.out) | exact HB.out)⟩⟩
    ·rw [if_neg c21] at H
     have c21b0 : (t261 == t263) = false := beq_eq_false_iff_ne.mpr c21
     have c21b1 : (t261 != t263) = true := bne_iff_ne.mpr c21
     have H' := Aside0.mk H
     clear H
     have hnb38 := NB259_258.out
     have hnc38 := NB258_259.out
     have hnb39 := NB259_260.out
     have hnc39 := NB260_259.out
     have hcz40_0 : w17.cell? ⟨gb259, 0, none⟩ = some (.int .i64 t254) := (blk_cell BK259.out 0).trans rfl
     have hcz40_1 : w17.cell? ⟨gb259, 1, none⟩ = some (.int .i64 t255) := (blk_cell BK259.out 1).trans rfl
     have hfz40_0 := blk_frozen BK259.out 0
     have hfz40_1 := blk_frozen BK259.out 1
     have hnb41 := NB258_260.out
     have hnc41 := NB260_258.out
     have hcz42_0 : w17.cell? ⟨gb258, 0, none⟩ = some (.int .i64 t252) := (blk_cell BK258.out 0).trans rfl
     have hcz42_1 : w17.cell? ⟨gb258, 1, none⟩ = some (.int .i64 t253) := (blk_cell BK258.out 1).trans rfl
     have hfz42_0 := blk_frozen BK258.out 0
     have hfz42_1 := blk_frozen BK258.out 1
     have hcz43_0 : w17.cell? ⟨gb260, 0, none⟩ = some (.int .i64 t256) := (blk_cell BK260.out 0).trans rfl
     have hcz43_1 : w17.cell? ⟨gb260, 1, none⟩ = some (.int .i64 t257) := (blk_cell BK260.out 1).trans rfl
     have hfz43_0 := blk_frozen BK260.out 0
     have hfz43_1 := blk_frozen BK260.out 1
     go_wp2_with (first | ((with_reducible refine gate_callee (f := 36) rfl ?_); refine goesL_ (some 34) rfl rfl Try.func36 (by kernel_rfl) rfl #[.agg #[.int .i64 t254, .int .i64 t255], .agg #[.int .i64 t252, .int .i64 t253], .agg #[.int .i64 t256, .int .i64 t257]] rfl (by (try simp only [List.map_toArray, List.map_cons, List.map_nil]); first | done | rfl | (simp only [List.length_drop, List.length_take]; rfl)) ?_; (with_reducible refine (impl_SideOf.calls k t254 t255 t252 t253 t256 t257 t262 _ A18.out).mono ?_); rintro e w44 ⟨rfl, hb⟩; refine ⟨_, rfl, ?_⟩; replace BK258 := mB BK258 hb; replace BK259 := mB BK259 hb; replace BK260 := mB BK260 hb; replace HB := sB3 HB hb GE258 GE259 GE260; (try clear hb); (try clear hb2); (try clear hk); (try clear hi); have hcz45_0 : w44.cell? ⟨gb259, 0, none⟩ = some (.int .i64 t254) := (blk_cell BK259.out 0).trans rfl; have hcz45_1 : w44.cell? ⟨gb259, 1, none⟩ = some (.int .i64 t255) := (blk_cell BK259.out 1).trans rfl; have hfz45_0 := blk_frozen BK259.out 0; have hfz45_1 := blk_frozen BK259.out 1; have hcz46_0 : w44.cell? ⟨gb260, 0, none⟩ = some (.int .i64 t256) := (blk_cell BK260.out 0).trans rfl; have hcz46_1 : w44.cell? ⟨gb260, 1, none⟩ = some (.int .i64 t257) := (blk_cell BK260.out 1).trans rfl; have hfz46_0 := blk_frozen BK260.out 0; have hfz46_1 := blk_frozen BK260.out 1; have hcz47_0 : w44.cell? ⟨gb258, 0, none⟩ = some (.int .i64 t252) := (blk_cell BK258.out 0).trans rfl; have hcz47_1 : w44.cell? ⟨gb258, 1, none⟩ = some (.int .i64 t253) := (blk_cell BK258.out 1).trans rfl; have hfz47_0 := blk_frozen BK258.out 0; have hfz47_1 := blk_frozen BK258.out 1) | (go_at_call 36; (with_reducible refine (impl_SideOf.calls k t254 t255 t256 t257 t252 t253 t263 _ A20.out).mono ?_); rintro e w48 ⟨rfl, hb⟩; replace BK258 := mB BK258 hb; replace BK259 := mB BK259 hb; replace BK260 := mB BK260 hb; replace HB := sB3 HB hb GE258 GE259 GE260; (try clear hb); (try clear hb2); (try clear hk); (try clear hi)))
     go_meet
     case rel => exact ⟨_, (true), (by first | rfl | (simp; done) | (simp [*]; done)), H', ⟨by first | omega | exact Nat.le_refl _⟩, ⟨by (with_reducible repeat (first | refine blk_drewN ?_ _ | refine blk_drew ?_ | refine blk_alloc ?_ _)); exact BK258.out⟩, ⟨by (with_reducible repeat (first | refine blk_drewN ?_ _ | refine blk_drew ?_ | refine blk_alloc ?_ _)); exact BK259.out⟩, ⟨by (with_reducible repeat (first | refine blk_drewN ?_ _ | refine blk_drew ?_ | refine blk_alloc ?_ _)); exact BK260.out⟩, ⟨by repeat (first | (with_reducible first | exact HB.out | apply below_alloc | apply pw_below_drewN | apply below_drew1 | refine below_set ?_ GE258.out | refine below_set ?_ GE259.out | refine below_set ?_ GE260.out) | exact HB.out)⟩⟩
   ·rw [if_neg c19] at H
    have c19b0 : (t261 == (wrap64 (-t262))) = false := beq_eq_false_iff_ne.mpr c19
    have c19b1 : (t261 != (wrap64 (-t262))) = true := bne_iff_ne.mpr c19
    (first | rw [c19b0] | (simp only [i64_w, i32_w]; rw [c19b0]) | skip)
    have H' := Aside0.mk H
    clear H
    have hnb49 := NB259_258.out
    have hnc49 := NB258_259.out
    have hnb50 := NB259_260.out
    have hnc50 := NB260_259.out
    have hcz51_0 : w17.cell? ⟨gb259, 0, none⟩ = some (.int .i64 t254) := (blk_cell BK259.out 0).trans rfl
    have hcz51_1 : w17.cell? ⟨gb259, 1, none⟩ = some (.int .i64 t255) := (blk_cell BK259.out 1).trans rfl
    have hfz51_0 := blk_frozen BK259.out 0
    have hfz51_1 := blk_frozen BK259.out 1
    have hnb52 := NB258_260.out
    have hnc52 := NB260_258.out
    have hcz53_0 : w17.cell? ⟨gb258, 0, none⟩ = some (.int .i64 t252) := (blk_cell BK258.out 0).trans rfl
    have hcz53_1 : w17.cell? ⟨gb258, 1, none⟩ = some (.int .i64 t253) := (blk_cell BK258.out 1).trans rfl
    have hfz53_0 := blk_frozen BK258.out 0
    have hfz53_1 := blk_frozen BK258.out 1
    have hcz54_0 : w17.cell? ⟨gb260, 0, none⟩ = some (.int .i64 t256) := (blk_cell BK260.out 0).trans rfl
    have hcz54_1 : w17.cell? ⟨gb260, 1, none⟩ = some (.int .i64 t257) := (blk_cell BK260.out 1).trans rfl
    have hfz54_0 := blk_frozen BK260.out 0
    have hfz54_1 := blk_frozen BK260.out 1
    go_wp2_with (first | ((with_reducible refine gate_callee (f := 36) rfl ?_); refine goesL_ (some 34) rfl rfl Try.func36 (by kernel_rfl) rfl #[.agg #[.int .i64 t254, .int .i64 t255], .agg #[.int .i64 t252, .int .i64 t253], .agg #[.int .i64 t256, .int .i64 t257]] rfl (by (try simp only [List.map_toArray, List.map_cons, List.map_nil]); first | done | rfl | (simp only [List.length_drop, List.length_take]; rfl)) ?_; (with_reducible refine (impl_SideOf.calls k t254 t255 t252 t253 t256 t257 t262 _ A18.out).mono ?_); rintro e w55 ⟨rfl, hb⟩; refine ⟨_, rfl, ?_⟩; replace BK258 := mB BK258 hb; replace BK259 := mB BK259 hb; replace BK260 := mB BK260 hb; replace HB := sB3 HB hb GE258 GE259 GE260; (try clear hb); (try clear hb2); (try clear hk); (try clear hi)))
    go_meet
    case rel => exact ⟨_, (true), (by first | rfl | (simp; done) | (simp [*]; done)), H', ⟨by first | omega | exact Nat.le_refl _⟩, ⟨by (with_reducible repeat (first | refine blk_drewN ?_ _ | refine blk_drew ?_ | refine blk_alloc ?_ _)); exact BK258.out⟩, ⟨by (with_reducible repeat (first | refine blk_drewN ?_ _ | refine blk_drew ?_ | refine blk_alloc ?_ _)); exact BK259.out⟩, ⟨by (with_reducible repeat (first | refine blk_drewN ?_ _ | refine blk_drew ?_ | refine blk_alloc ?_ _)); exact BK260.out⟩, ⟨by repeat (first | (with_reducible first | exact HB.out | apply below_alloc | apply pw_below_drewN | apply below_drew1 | refine below_set ?_ GE258.out | refine below_set ?_ GE259.out | refine below_set ?_ GE260.out) | exact HB.out)⟩⟩
  case rest =>
   clear HC6
   try clear c1
   try clear c2
   try clear p2
   try clear c3
   try clear c4
   try clear c5
   try clear p6
   try clear c7
   try clear c11
   try clear c12
   try clear c13
   try clear c14
   try clear c19
   try clear c19b0
   try clear c19b1
   try clear c21
   try clear c21b0
   try clear c21b1
   try clear c23
   try clear c24
   try clear c26
   try clear c35
   try clear c36
   try clear c38
   try clear c39
   try clear c41
   try clear c49
   try clear c50
   try clear c52
   try clear hcz13_0
   try clear hcz13_1
   try clear hcz15_0
   try clear hcz15_1
   try clear hcz16_0
   try clear hcz16_1
   try clear hcz25_0
   try clear hcz25_1
   try clear hcz27_0
   try clear hcz27_1
   try clear hcz28_0
   try clear hcz28_1
   try clear hcz30_0
   try clear hcz30_1
   try clear hcz31_0
   try clear hcz31_1
   try clear hcz32_0
   try clear hcz32_1
   try clear hcz34_0
   try clear hcz34_1
   try clear hcz35_0
   try clear hcz35_1
   try clear hcz36_0
   try clear hcz36_1
   try clear hcz40_0
   try clear hcz40_1
   try clear hcz42_0
   try clear hcz42_1
   try clear hcz43_0
   try clear hcz43_1
   try clear hcz45_0
   try clear hcz45_1
   try clear hcz46_0
   try clear hcz46_1
   try clear hcz47_0
   try clear hcz47_1
   try clear hcz51_0
   try clear hcz51_1
   try clear hcz53_0
   try clear hcz53_1
   try clear hcz54_0
   try clear hcz54_1
   try clear hfz13_0
   try clear hfz13_1
   try clear hfz15_0
   try clear hfz15_1
   try clear hfz16_0
   try clear hfz16_1
   try clear hfz25_0
   try clear hfz25_1
   try clear hfz27_0
   try clear hfz27_1
   try clear hfz28_0
   try clear hfz28_1
   try clear hfz30_0
   try clear hfz30_1
   try clear hfz31_0
   try clear hfz31_1
   try clear hfz32_0
   try clear hfz32_1
   try clear hfz34_0
   try clear hfz34_1
   try clear hfz35_0
   try clear hfz35_1
   try clear hfz36_0
   try clear hfz36_1
   try clear hfz40_0
   try clear hfz40_1
   try clear hfz42_0
   try clear hfz42_1
   try clear hfz43_0
   try clear hfz43_1
   try clear hfz45_0
   try clear hfz45_1
   try clear hfz46_0
   try clear hfz46_1
   try clear hfz47_0
   try clear hfz47_1
   try clear hfz51_0
   try clear hfz51_1
   try clear hfz53_0
   try clear hfz53_1
   try clear hfz54_0
   try clear hfz54_1
   obtain ⟨kq, x52_5, rfl, HA, HJ5, BK258, BK259, BK260, HB⟩ := hcut
   cases kq with
   | zero => exact absurd HA.out (by simp [laws_FnPoints.j0])
   | succ kj5 =>
    have H := HA.out
    clear HA
    simp only [laws_FnPoints.j0] at H
    by_cases c56 : x52_5 = true
    ·subst c56
     have H1 : (some false) = some r := by rw [if_pos rfl] at H; exact H
     clear H
     have H := H1
     clear H1
     obtain rfl := Option.some.inj H
     go_wp2
     go_ret
     exact ⟨by first | rfl | (simp [errW_none, errW_some] <;> rfl) | (simp [*, errW_none, errW_some] <;> rfl), by repeat (first | (with_reducible first | exact HB.out | apply below_alloc | apply pw_below_drewN | apply below_drew1 | refine below_set ?_ GE258.out | refine below_set ?_ GE259.out | refine below_set ?_ GE260.out) | exact HB.out)⟩
    ·replace c56 := Bool.eq_false_iff.mpr c56
     subst c56
     have H1 : ((spec_DrawFarSquared.f kj5 l0).bind fun bt265 => ((impl_FarSquared.f bt265.1 bt265.2.1 bt265.2.2.1 bt265.2.2.2).bind fun t271 => ((impl_StepsBetween.f bt265.1 bt265.2.1 bt265.2.2.1 bt265.2.2.2).bind fun t272 => ((impl_FarSquared.f bt265.2.2.1 bt265.2.2.2 bt265.1 bt265.2.1).bind fun t273 => (if t271 = t273 then ((impl_StepsBetween.f bt265.2.2.1 bt265.2.2.2 bt265.1 bt265.2.1).bind fun t274 => (if t272 = t274 then (if ((t271 == (-1)) != (t272 == (-1))) = true then (laws_FnPoints.j1 kj5 l0 true bt265.1 bt265.2.1 bt265.2.2.1 bt265.2.2.2) else (if t271 ≥ 0 then (if t271 > (wrap64 (t272 * t272)) then (laws_FnPoints.j1 kj5 l0 true bt265.1 bt265.2.1 bt265.2.2.1 bt265.2.2.2) else (laws_FnPoints.j1 kj5 l0 (decide ((wrap64 (2 * t271)) < (wrap64 (t272 * t272)))) bt265.1 bt265.2.1 bt265.2.2.1 bt265.2.2.2)) else (laws_FnPoints.j1 kj5 l0 false bt265.1 bt265.2.1 bt265.2.2.1 bt265.2.2.2))) else (laws_FnPoints.j1 kj5 l0 true bt265.1 bt265.2.1 bt265.2.2.1 bt265.2.2.2))) else (laws_FnPoints.j1 kj5 l0 true bt265.1 bt265.2.1 bt265.2.2.1 bt265.2.2.2)))))) = some r := by rw [if_neg (show ¬ (false = true) by decide)] at H; exact H
     clear H
     have H := H1
     clear H1
     replace H := Option.bind_eq_some_iff.mp H
     obtain ⟨⟨t265, t266, t267, t268⟩, A570, H⟩ := H
     replace H : ((impl_FarSquared.f t265 t266 t267 t268).bind fun t271 => ((impl_StepsBetween.f t265 t266 t267 t268).bind fun t272 => ((impl_FarSquared.f t267 t268 t265 t266).bind fun t273 => (if t271 = t273 then ((impl_StepsBetween.f t267 t268 t265 t266).bind fun t274 => (if t272 = t274 then (if ((t271 == (-1)) != (t272 == (-1))) = true then (laws_FnPoints.j1 kj5 l0 true t265 t266 t267 t268) else (if t271 ≥ 0 then (if t271 > (wrap64 (t272 * t272)) then (laws_FnPoints.j1 kj5 l0 true t265 t266 t267 t268) else (laws_FnPoints.j1 kj5 l0 (decide ((wrap64 (2 * t271)) < (wrap64 (t272 * t272)))) t265 t266 t267 t268)) else (laws_FnPoints.j1 kj5 l0 false t265 t266 t267 t268))) else (laws_FnPoints.j1 kj5 l0 true t265 t266 t267 t268))) else (laws_FnPoints.j1 kj5 l0 true t265 t266 t267 t268))))) = some r := H
     have A57 := Aside0.mk A570
     clear A570
     replace H := Option.bind_eq_some_iff.mp H
     obtain ⟨t271, A580, H⟩ := H
     replace H : ((impl_StepsBetween.f t265 t266 t267 t268).bind fun t272 => ((impl_FarSquared.f t267 t268 t265 t266).bind fun t273 => (if t271 = t273 then ((impl_StepsBetween.f t267 t268 t265 t266).bind fun t274 => (if t272 = t274 then (if ((t271 == (-1)) != (t272 == (-1))) = true then (laws_FnPoints.j1 kj5 l0 true t265 t266 t267 t268) else (if t271 ≥ 0 then (if t271 > (wrap64 (t272 * t272)) then (laws_FnPoints.j1 kj5 l0 true t265 t266 t267 t268) else (laws_FnPoints.j1 kj5 l0 (decide ((wrap64 (2 * t271)) < (wrap64 (t272 * t272)))) t265 t266 t267 t268)) else (laws_FnPoints.j1 kj5 l0 false t265 t266 t267 t268))) else (laws_FnPoints.j1 kj5 l0 true t265 t266 t267 t268))) else (laws_FnPoints.j1 kj5 l0 true t265 t266 t267 t268)))) = some r := H
     have A58 := Aside0.mk A580
     clear A580
     replace H := Option.bind_eq_some_iff.mp H
     obtain ⟨t272, A590, H⟩ := H
     replace H : ((impl_FarSquared.f t267 t268 t265 t266).bind fun t273 => (if t271 = t273 then ((impl_StepsBetween.f t267 t268 t265 t266).bind fun t274 => (if t272 = t274 then (if ((t271 == (-1)) != (t272 == (-1))) = true then (laws_FnPoints.j1 kj5 l0 true t265 t266 t267 t268) else (if t271 ≥ 0 then (if t271 > (wrap64 (t272 * t272)) then (laws_FnPoints.j1 kj5 l0 true t265 t266 t267 t268) else (laws_FnPoints.j1 kj5 l0 (decide ((wrap64 (2 * t271)) < (wrap64 (t272 * t272)))) t265 t266 t267 t268)) else (laws_FnPoints.j1 kj5 l0 false t265 t266 t267 t268))) else (laws_FnPoints.j1 kj5 l0 true t265 t266 t267 t268))) else (laws_FnPoints.j1 kj5 l0 true t265 t266 t267 t268))) = some r := H
     have A59 := Aside0.mk A590
     clear A590
     have HC60 := Aside0.mk H
     clear H
     go_upto_region 10 with (first | ((with_reducible refine gate_callee (f := 37) rfl ?_); refine goesL_ (some 55) rfl rfl Try.func37 (by kernel_rfl) rfl #[.slice A0 l0.length c0] rfl (by (try simp only [List.map_toArray, List.map_cons, List.map_nil]); first | done | rfl | (simp only [List.length_drop, List.length_take]; rfl)) ?_; (with_reducible refine (spec_DrawFarSquared.calls kj5 _ _ l0 t265 t266 t267 t268 _ ?side1 ?side2 A57.out).mono ?_); (case side1 => repeat (first | exact (Kd.C_below HR0.out HB.out) | (with_reducible refine Kd.C_alloc ?_ _) | (with_reducible refine Kd.C_drewN ?_ _) | (with_reducible refine Kd.C_drew ?_))); (case side2 => exact HC0.out); rintro e w61 ⟨rfl, hb⟩; refine ⟨_, rfl, ?_⟩; replace BK258 := mB BK258 hb; replace BK259 := mB BK259 hb; replace BK260 := mB BK260 hb; replace HB := sB3 HB hb GE258 GE259 GE260; (try clear hb); (try clear hb2); (try clear hk); (try clear hi)) | ((with_reducible refine gate_dst (N := 7) rfl ?_); refine box_event ?hg (N := 7) ?hd (cs := #[.int .i64 0, .int .i64 0]) (t := 50) ?hr ?_; (case hd => rfl); (case hg => rfl); (case hr => first | (go_simp; done) | (go_simp; rfl)); intro gb269 hg w62 hbox hb; have BK269 := Aside0.mk (hbox); have GW269 := zB3 HB hg GE258 GE259 GE260; have GE269 := zB3 HB hg GE258 GE259 GE260; have NB258_269 := nL BK258 hg; have NB269_258 := nG BK258 hg; have NB259_269 := nL BK259 hg; have NB269_259 := nG BK259 hg; have NB260_269 := nL BK260 hg; have NB269_260 := nG BK260 hg; replace BK258 := mB BK258 hb; replace BK259 := mB BK259 hb; replace BK260 := mB BK260 hb; replace HB := sB3 HB hb GE258 GE259 GE260; clear hb hbox hg) | ((with_reducible refine gate_dst (N := 8) rfl ?_); refine box_event ?hg (N := 8) ?hd (cs := #[.int .i64 0, .int .i64 0]) (t := 50) ?hr ?_; (case hd => rfl); (case hg => rfl); (case hr => first | (go_simp; done) | (go_simp; rfl)); intro gb270 hg w63 hbox hb; have BK270 := Aside0.mk (hbox); have GW270 := zB4 HB hg GE258 GE259 GE260 GE269; have GE270 := zB4 HB hg GE258 GE259 GE260 GE269; have NB258_270 := nL BK258 hg; have NB270_258 := nG BK258 hg; have NB259_270 := nL BK259 hg; have NB270_259 := nG BK259 hg; have NB260_270 := nL BK260 hg; have NB270_260 := nG BK260 hg; have NB269_270 := nL BK269 hg; have NB270_269 := nG BK269 hg; replace BK258 := mB BK258 hb; replace BK259 := mB BK259 hb; replace BK260 := mB BK260 hb; replace BK269 := mB BK269 hb; replace HB := sB4 HB hb GE258 GE259 GE260 GE269; clear hb hbox hg; have hnb64 := NB269_258.out; have hnc64 := NB258_269.out; have hnb65 := NB269_259.out; have hnc65 := NB259_269.out; have hnb66 := NB269_260.out; have hnc66 := NB260_269.out; have hnb67 := NB269_270.out; have hnc67 := NB270_269.out; have hcz68_0 : w63.cell? ⟨gb269, 0, none⟩ = some (.int .i64 0) := (blk_cell BK269.out 0).trans rfl; have hcz68_1 : w63.cell? ⟨gb269, 1, none⟩ = some (.int .i64 0) := (blk_cell BK269.out 1).trans rfl; have hfz68_0 := blk_frozen BK269.out 0; have hfz68_1 := blk_frozen BK269.out 1; have hnb69 := NB270_258.out; have hnc69 := NB258_270.out; have hnb70 := NB270_259.out; have hnc70 := NB259_270.out; have hnb71 := NB270_260.out; have hnc71 := NB260_270.out; have hcz72_0 : w63.cell? ⟨gb270, 0, none⟩ = some (.int .i64 0) := (blk_cell BK270.out 0).trans rfl; have hcz72_1 : w63.cell? ⟨gb270, 1, none⟩ = some (.int .i64 0) := (blk_cell BK270.out 1).trans rfl; have hfz72_0 := blk_frozen BK270.out 0; have hfz72_1 := blk_frozen BK270.out 1) | ((with_reducible refine gate_callee (f := 38) rfl ?_); refine goesL_ (some 60) rfl rfl Try.func38 (by kernel_rfl) rfl #[.agg #[.int .i64 t265, .int .i64 t266], .agg #[.int .i64 t267, .int .i64 t268]] rfl (by (try simp only [List.map_toArray, List.map_cons, List.map_nil]); first | done | rfl | (simp only [List.length_drop, List.length_take]; rfl)) ?_; (with_reducible refine (impl_FarSquared.calls t265 t266 t267 t268 t271 _ A58.out).mono ?_); rintro e w73 ⟨rfl, hb⟩; refine ⟨_, rfl, ?_⟩; replace BK258 := Aside0.mk (blk_below (g := gb258) (o := .cells #[.int .i64 t252, .int .i64 t253] 50 (0, 0)) (by (with_reducible repeat (first | refine blk_drewN ?_ _ | refine blk_drew ?_ | refine blk_alloc ?_ _)); refine blk_far ?_ NB258_270.out _; (with_reducible repeat (first | refine blk_drewN ?_ _ | refine blk_drew ?_ | refine blk_alloc ?_ _)); refine blk_far ?_ NB258_270.out _; (with_reducible repeat (first | refine blk_drewN ?_ _ | refine blk_drew ?_ | refine blk_alloc ?_ _)); refine blk_far ?_ NB258_269.out _; (with_reducible repeat (first | refine blk_drewN ?_ _ | refine blk_drew ?_ | refine blk_alloc ?_ _)); refine blk_far ?_ NB258_269.out _; (with_reducible repeat (first | refine blk_drewN ?_ _ | refine blk_drew ?_ | refine blk_alloc ?_ _)); exact BK258.out) hb); replace BK259 := Aside0.mk (blk_below (g := gb259) (o := .cells #[.int .i64 t254, .int .i64 t255] 50 (0, 0)) (by (with_reducible repeat (first | refine blk_drewN ?_ _ | refine blk_drew ?_ | refine blk_alloc ?_ _)); refine blk_far ?_ NB259_270.out _; (with_reducible repeat (first | refine blk_drewN ?_ _ | refine blk_drew ?_ | refine blk_alloc ?_ _)); refine blk_far ?_ NB259_270.out _; (with_reducible repeat (first | refine blk_drewN ?_ _ | refine blk_drew ?_ | refine blk_alloc ?_ _)); refine blk_far ?_ NB259_269.out _; (with_reducible repeat (first | refine blk_drewN ?_ _ | refine blk_drew ?_ | refine blk_alloc ?_ _)); refine blk_far ?_ NB259_269.out _; (with_reducible repeat (first | refine blk_drewN ?_ _ | refine blk_drew ?_ | refine blk_alloc ?_ _)); exact BK259.out) hb); replace BK260 := Aside0.mk (blk_below (g := gb260) (o := .cells #[.int .i64 t256, .int .i64 t257] 50 (0, 0)) (by (with_reducible repeat (first | refine blk_drewN ?_ _ | refine blk_drew ?_ | refine blk_alloc ?_ _)); refine blk_far ?_ NB260_270.out _; (with_reducible repeat (first | refine blk_drewN ?_ _ | refine blk_drew ?_ | refine blk_alloc ?_ _)); refine blk_far ?_ NB260_270.out _; (with_reducible repeat (first | refine blk_drewN ?_ _ | refine blk_drew ?_ | refine blk_alloc ?_ _)); refine blk_far ?_ NB260_269.out _; (with_reducible repeat (first | refine blk_drewN ?_ _ | refine blk_drew ?_ | refine blk_alloc ?_ _)); refine blk_far ?_ NB260_269.out _; (with_reducible repeat (first | refine blk_drewN ?_ _ | refine blk_drew ?_ | refine blk_alloc ?_ _)); exact BK260.out) hb); replace BK269 := Aside0.mk (blk_below (g := gb269) (o := .cells #[.int .i64 t265, .int .i64 t266] 50 (0, 0)) (by (with_reducible repeat (first | refine blk_drewN ?_ _ | refine blk_drew ?_ | refine blk_alloc ?_ _)); refine blk_far ?_ NB269_270.out _; (with_reducible repeat (first | refine blk_drewN ?_ _ | refine blk_drew ?_ | refine blk_alloc ?_ _)); refine blk_far ?_ NB269_270.out _; (with_reducible repeat (first | refine blk_drewN ?_ _ | refine blk_drew ?_ | refine blk_alloc ?_ _)); refine blk_put (cs := #[.int .i64 t265, .int .i64 0]) ?_ 1 _ rfl; (with_reducible repeat (first | refine blk_drewN ?_ _ | refine blk_drew ?_ | refine blk_alloc ?_ _)); refine blk_put (cs := #[.int .i64 0, .int .i64 0]) ?_ 0 _ rfl; (with_reducible repeat (first | refine blk_drewN ?_ _ | refine blk_drew ?_ | refine blk_alloc ?_ _)); exact BK269.out) hb); replace BK270 := Aside0.mk (blk_below (g := gb270) (o := .cells #[.int .i64 t267, .int .i64 t268] 50 (0, 0)) (by (with_reducible repeat (first | refine blk_drewN ?_ _ | refine blk_drew ?_ | refine blk_alloc ?_ _)); refine blk_put (cs := #[.int .i64 t267, .int .i64 0]) ?_ 1 _ rfl; (with_reducible repeat (first | refine blk_drewN ?_ _ | refine blk_drew ?_ | refine blk_alloc ?_ _)); refine blk_put (cs := #[.int .i64 0, .int .i64 0]) ?_ 0 _ rfl; (with_reducible repeat (first | refine blk_drewN ?_ _ | refine blk_drew ?_ | refine blk_alloc ?_ _)); refine blk_far ?_ NB270_269.out _; (with_reducible repeat (first | refine blk_drewN ?_ _ | refine blk_drew ?_ | refine blk_alloc ?_ _)); refine blk_far ?_ NB270_269.out _; (with_reducible repeat (first | refine blk_drewN ?_ _ | refine blk_drew ?_ | refine blk_alloc ?_ _)); exact BK270.out) hb); replace HB := sB5 HB hb GE258 GE259 GE260 GE269 GE270; (try clear hb); (try clear hb2); (try clear hk); (try clear hi); have hcz74_0 : w73.cell? ⟨gb269, 0, none⟩ = some (.int .i64 t265) := (blk_cell BK269.out 0).trans rfl; have hcz74_1 : w73.cell? ⟨gb269, 1, none⟩ = some (.int .i64 t266) := (blk_cell BK269.out 1).trans rfl; have hfz74_0 := blk_frozen BK269.out 0; have hfz74_1 := blk_frozen BK269.out 1; have hcz75_0 : w73.cell? ⟨gb270, 0, none⟩ = some (.int .i64 t267) := (blk_cell BK270.out 0).trans rfl; have hcz75_1 : w73.cell? ⟨gb270, 1, none⟩ = some (.int .i64 t268) := (blk_cell BK270.out 1).trans rfl; have hfz75_0 := blk_frozen BK270.out 0; have hfz75_1 := blk_frozen BK270.out 1) | ((with_reducible refine gate_callee (f := 39) rfl ?_); refine goesL_ (some 63) rfl rfl Try.func39 (by kernel_rfl) rfl #[.agg #[.int .i64 t265, .int .i64 t266], .agg #[.int .i64 t267, .int .i64 t268]] rfl (by (try simp only [List.map_toArray, List.map_cons, List.map_nil]); first | done | rfl | (simp only [List.length_drop, List.length_take]; rfl)) ?_; (with_reducible refine (impl_StepsBetween.calls t265 t266 t267 t268 t272 _ A59.out).mono ?_); rintro e w76 ⟨rfl, hb⟩; refine ⟨_, rfl, ?_⟩; replace BK258 := mB BK258 hb; replace BK259 := mB BK259 hb; replace BK260 := mB BK260 hb; replace BK269 := mB BK269 hb; replace BK270 := mB BK270 hb; replace HB := sB5 HB hb GE258 GE259 GE260 GE269 GE270; (try clear hb); (try clear hb2); (try clear hk); (try clear hi)))
     (try simp only [Act.put, List.setIfInBounds_toArray, List.set_cons_zero, List.set_cons_succ])
     go_cut [101] (fun v101 wc => ∃ (kq : Nat) (x101_59 : Bool), v101 = .bool x101_59 ∧ Aside0 (laws_FnPoints.j1 kq l0 x101_59 t265 t266 t267 t268 = some r) ∧ Aside0 (kq ≤ kj5) ∧ Aside0 (wc.heap[gb258]? = some (.cells #[.int .i64 t252, .int .i64 t253] 50 (0, 0))) ∧ Aside0 (wc.heap[gb259]? = some (.cells #[.int .i64 t254, .int .i64 t255] 50 (0, 0))) ∧ Aside0 (wc.heap[gb260]? = some (.cells #[.int .i64 t256, .int .i64 t257] 50 (0, 0))) ∧ Aside0 (wc.heap[gb269]? = some (.cells #[.int .i64 t265, .int .i64 t266] 50 (0, 0))) ∧ Aside0 (wc.heap[gb270]? = some (.cells #[.int .i64 t267, .int .i64 t268] 50 (0, 0))) ∧ Aside0 (Below w.heap.size w wc))
     case first =>
      have H := HC60.out
      clear HC60
      replace H := Option.bind_eq_some_iff.mp H
      obtain ⟨t273, A770, H⟩ := H
      replace H : (if t271 = t273 then ((impl_StepsBetween.f t267 t268 t265 t266).bind fun t274 => (if t272 = t274 then (if ((t271 == (-1)) != (t272 == (-1))) = true then (laws_FnPoints.j1 kj5 l0 true t265 t266 t267 t268) else (if t271 ≥ 0 then (if t271 > (wrap64 (t272 * t272)) then (laws_FnPoints.j1 kj5 l0 true t265 t266 t267 t268) else (laws_FnPoints.j1 kj5 l0 (decide ((wrap64 (2 * t271)) < (wrap64 (t272 * t272)))) t265 t266 t267 t268)) else (laws_FnPoints.j1 kj5 l0 false t265 t266 t267 t268))) else (laws_FnPoints.j1 kj5 l0 true t265 t266 t267 t268))) else (laws_FnPoints.j1 kj5 l0 true t265 t266 t267 t268)) = some r := H
      have A77 := Aside0.mk A770
      clear A770
      by_cases c78 : t271 = t273
      ·rw [if_pos c78] at H
       have c78b0 : (t271 == t273) = true := beq_iff_eq.mpr c78
       have c78b1 : (t271 != t273) = false := bne_eq_false_iff_eq.mpr c78
       clear c78
       (first | rw [c78b0] | (simp only [i64_w, i32_w]; rw [c78b0]) | skip)
       replace H := Option.bind_eq_some_iff.mp H
       obtain ⟨t274, A790, H⟩ := H
       replace H : (if t272 = t274 then (if ((t271 == (-1)) != (t272 == (-1))) = true then (laws_FnPoints.j1 kj5 l0 true t265 t266 t267 t268) else (if t271 ≥ 0 then (if t271 > (wrap64 (t272 * t272)) then (laws_FnPoints.j1 kj5 l0 true t265 t266 t267 t268) else (laws_FnPoints.j1 kj5 l0 (decide ((wrap64 (2 * t271)) < (wrap64 (t272 * t272)))) t265 t266 t267 t268)) else (laws_FnPoints.j1 kj5 l0 false t265 t266 t267 t268))) else (laws_FnPoints.j1 kj5 l0 true t265 t266 t267 t268)) = some r := H
       have A79 := Aside0.mk A790
       clear A790
       by_cases c80 : t272 = t274
       ·rw [if_pos c80] at H
        have c80b0 : (t272 == t274) = true := beq_iff_eq.mpr c80
        have c80b1 : (t272 != t274) = false := bne_eq_false_iff_eq.mpr c80
        clear c80
        by_cases c81 : ((t271 == (-1)) != (t272 == (-1))) = true
        ·rw [if_pos c81] at H
         have c81b0 : ((t271 == (-1)) != (t272 == (-1))) = true := c81
         (try (have c81b1 : decide ((t271 == (-1)) = (t272 == (-1))) = false := by simpa using c81))
         (try (have c81b2 : ((t271 == (-1)) == (t272 == (-1))) = false := by simpa using c81))
         (try (have c81b3 : ¬ ((t271 == (-1)) = (t272 == (-1))) := by simpa using c81))
         clear c81
         have H' := Aside0.mk H
         clear H
         have hnb82 := NB270_258.out
         have hnc82 := NB258_270.out
         have hnb83 := NB270_259.out
         have hnc83 := NB259_270.out
         have hnb84 := NB270_260.out
         have hnc84 := NB260_270.out
         have hnb85 := NB270_269.out
         have hnc85 := NB269_270.out
         have hcz86_0 : w76.cell? ⟨gb270, 0, none⟩ = some (.int .i64 t267) := (blk_cell BK270.out 0).trans rfl
         have hcz86_1 : w76.cell? ⟨gb270, 1, none⟩ = some (.int .i64 t268) := (blk_cell BK270.out 1).trans rfl
         have hfz86_0 := blk_frozen BK270.out 0
         have hfz86_1 := blk_frozen BK270.out 1
         have hnb87 := NB269_258.out
         have hnc87 := NB258_269.out
         have hnb88 := NB269_259.out
         have hnc88 := NB259_269.out
         have hnb89 := NB269_260.out
         have hnc89 := NB260_269.out
         have hcz90_0 : w76.cell? ⟨gb269, 0, none⟩ = some (.int .i64 t265) := (blk_cell BK269.out 0).trans rfl
         have hcz90_1 : w76.cell? ⟨gb269, 1, none⟩ = some (.int .i64 t266) := (blk_cell BK269.out 1).trans rfl
         have hfz90_0 := blk_frozen BK269.out 0
         have hfz90_1 := blk_frozen BK269.out 1
         go_wp2_with (first | ((with_reducible refine gate_callee (f := 38) rfl ?_); refine goesL_ (some 67) rfl rfl Try.func38 (by kernel_rfl) rfl #[.agg #[.int .i64 t267, .int .i64 t268], .agg #[.int .i64 t265, .int .i64 t266]] rfl (by (try simp only [List.map_toArray, List.map_cons, List.map_nil]); first | done | rfl | (simp only [List.length_drop, List.length_take]; rfl)) ?_; (with_reducible refine (impl_FarSquared.calls t267 t268 t265 t266 t273 _ A77.out).mono ?_); rintro e w91 ⟨rfl, hb⟩; refine ⟨_, rfl, ?_⟩; replace BK258 := mB BK258 hb; replace BK259 := mB BK259 hb; replace BK260 := mB BK260 hb; replace BK269 := mB BK269 hb; replace BK270 := mB BK270 hb; replace HB := sB5 HB hb GE258 GE259 GE260 GE269 GE270; (try clear hb); (try clear hb2); (try clear hk); (try clear hi); have hcz92_0 : w91.cell? ⟨gb270, 0, none⟩ = some (.int .i64 t267) := (blk_cell BK270.out 0).trans rfl; have hcz92_1 : w91.cell? ⟨gb270, 1, none⟩ = some (.int .i64 t268) := (blk_cell BK270.out 1).trans rfl; have hfz92_0 := blk_frozen BK270.out 0; have hfz92_1 := blk_frozen BK270.out 1; have hcz93_0 : w91.cell? ⟨gb269, 0, none⟩ = some (.int .i64 t265) := (blk_cell BK269.out 0).trans rfl; have hcz93_1 : w91.cell? ⟨gb269, 1, none⟩ = some (.int .i64 t266) := (blk_cell BK269.out 1).trans rfl; have hfz93_0 := blk_frozen BK269.out 0; have hfz93_1 := blk_frozen BK269.out 1) | (go_at_call 39; (with_reducible refine (impl_StepsBetween.calls t267 t268 t265 t266 t274 _ A79.out).mono ?_); rintro e w94 ⟨rfl, hb⟩; replace BK258 := mB BK258 hb; replace BK259 := mB BK259 hb; replace BK260 := mB BK260 hb; replace BK269 := mB BK269 hb; replace BK270 := mB BK270 hb; replace HB := sB5 HB hb GE258 GE259 GE260 GE269 GE270; (try clear hb); (try clear hb2); (try clear hk); (try clear hi)))
         go_meet
         case rel => exact ⟨_, (true), (by first | rfl | (simp; done) | (simp [*]; done)), H', ⟨by have := HJ5.out; first | omega | exact Nat.le_refl _⟩, ⟨by (with_reducible repeat (first | refine blk_drewN ?_ _ | refine blk_drew ?_ | refine blk_alloc ?_ _)); exact BK258.out⟩, ⟨by (with_reducible repeat (first | refine blk_drewN ?_ _ | refine blk_drew ?_ | refine blk_alloc ?_ _)); exact BK259.out⟩, ⟨by (with_reducible repeat (first | refine blk_drewN ?_ _ | refine blk_drew ?_ | refine blk_alloc ?_ _)); exact BK260.out⟩, ⟨by (with_reducible repeat (first | refine blk_drewN ?_ _ | refine blk_drew ?_ | refine blk_alloc ?_ _)); exact BK269.out⟩, ⟨by (with_reducible repeat (first | refine blk_drewN ?_ _ | refine blk_drew ?_ | refine blk_alloc ?_ _)); exact BK270.out⟩, ⟨by repeat (first | (with_reducible first | exact HB.out | apply below_alloc | apply pw_below_drewN | apply below_drew1 | refine below_set ?_ GE258.out | refine below_set ?_ GE259.out | refine below_set ?_ GE260.out | refine below_set ?_ GE269.out | refine below_set ?_ GE270.out) | exact HB.out)⟩⟩
        ·rw [if_neg c81] at H
         have c81b0 : ((t271 == (-1)) != (t272 == (-1))) = false := by simpa using c81
         (try (have c81b1 : decide ((t271 == (-1)) = (t272 == (-1))) = true := by simpa using c81))
         (try (have c81b2 : ((t271 == (-1)) == (t272 == (-1))) = true := by simpa using c81))
         clear c81
         by_cases c95 : t271 ≥ 0
         ·rw [if_pos c95] at H
          have c95b0 : decide (0 ≤ t271) = true := decide_eq_true c95
          clear c95
          by_cases c96 : t271 > (wrap64 (t272 * t272))
          ·rw [if_pos c96] at H
           have c96b0 : decide ((wrap64 (t272 * t272)) < t271) = true := decide_eq_true c96
           clear c96
           have H' := Aside0.mk H
           clear H
           have hnb97 := NB270_258.out
           have hnc97 := NB258_270.out
           have hnb98 := NB270_259.out
           have hnc98 := NB259_270.out
           have hnb99 := NB270_260.out
           have hnc99 := NB260_270.out
           have hnb100 := NB270_269.out
           have hnc100 := NB269_270.out
           have hcz101_0 : w76.cell? ⟨gb270, 0, none⟩ = some (.int .i64 t267) := (blk_cell BK270.out 0).trans rfl
           have hcz101_1 : w76.cell? ⟨gb270, 1, none⟩ = some (.int .i64 t268) := (blk_cell BK270.out 1).trans rfl
           have hfz101_0 := blk_frozen BK270.out 0
           have hfz101_1 := blk_frozen BK270.out 1
           have hnb102 := NB269_258.out
           have hnc102 := NB258_269.out
           have hnb103 := NB269_259.out
           have hnc103 := NB259_269.out
           have hnb104 := NB269_260.out
           have hnc104 := NB260_269.out
           have hcz105_0 : w76.cell? ⟨gb269, 0, none⟩ = some (.int .i64 t265) := (blk_cell BK269.out 0).trans rfl
           have hcz105_1 : w76.cell? ⟨gb269, 1, none⟩ = some (.int .i64 t266) := (blk_cell BK269.out 1).trans rfl
           have hfz105_0 := blk_frozen BK269.out 0
           have hfz105_1 := blk_frozen BK269.out 1
           go_wp2_with (first | ((with_reducible refine gate_callee (f := 38) rfl ?_); refine goesL_ (some 67) rfl rfl Try.func38 (by kernel_rfl) rfl #[.agg #[.int .i64 t267, .int .i64 t268], .agg #[.int .i64 t265, .int .i64 t266]] rfl (by (try simp only [List.map_toArray, List.map_cons, List.map_nil]); first | done | rfl | (simp only [List.length_drop, List.length_take]; rfl)) ?_; (with_reducible refine (impl_FarSquared.calls t267 t268 t265 t266 t273 _ A77.out).mono ?_); rintro e w106 ⟨rfl, hb⟩; refine ⟨_, rfl, ?_⟩; replace BK258 := mB BK258 hb; replace BK259 := mB BK259 hb; replace BK260 := mB BK260 hb; replace BK269 := mB BK269 hb; replace BK270 := mB BK270 hb; replace HB := sB5 HB hb GE258 GE259 GE260 GE269 GE270; (try clear hb); (try clear hb2); (try clear hk); (try clear hi); have hcz107_0 : w106.cell? ⟨gb270, 0, none⟩ = some (.int .i64 t267) := (blk_cell BK270.out 0).trans rfl; have hcz107_1 : w106.cell? ⟨gb270, 1, none⟩ = some (.int .i64 t268) := (blk_cell BK270.out 1).trans rfl; have hfz107_0 := blk_frozen BK270.out 0; have hfz107_1 := blk_frozen BK270.out 1; have hcz108_0 : w106.cell? ⟨gb269, 0, none⟩ = some (.int .i64 t265) := (blk_cell BK269.out 0).trans rfl; have hcz108_1 : w106.cell? ⟨gb269, 1, none⟩ = some (.int .i64 t266) := (blk_cell BK269.out 1).trans rfl; have hfz108_0 := blk_frozen BK269.out 0; have hfz108_1 := blk_frozen BK269.out 1) | (go_at_call 39; (with_reducible refine (impl_StepsBetween.calls t267 t268 t265 t266 t274 _ A79.out).mono ?_); rintro e w109 ⟨rfl, hb⟩; replace BK258 := mB BK258 hb; replace BK259 := mB BK259 hb; replace BK260 := mB BK260 hb; replace BK269 := mB BK269 hb; replace BK270 := mB BK270 hb; replace HB := sB5 HB hb GE258 GE259 GE260 GE269 GE270; (try clear hb); (try clear hb2); (try clear hk); (try clear hi)))
           go_meet
           case rel => exact ⟨_, (true), (by first | rfl | (simp; done) | (simp [*]; done)), H', ⟨by have := HJ5.out; first | omega | exact Nat.le_refl _⟩, ⟨by (with_reducible repeat (first | refine blk_drewN ?_ _ | refine blk_drew ?_ | refine blk_alloc ?_ _)); exact BK258.out⟩, ⟨by (with_reducible repeat (first | refine blk_drewN ?_ _ | refine blk_drew ?_ | refine blk_alloc ?_ _)); exact BK259.out⟩, ⟨by (with_reducible repeat (first | refine blk_drewN ?_ _ | refine blk_drew ?_ | refine blk_alloc ?_ _)); exact BK260.out⟩, ⟨by (with_reducible repeat (first | refine blk_drewN ?_ _ | refine blk_drew ?_ | refine blk_alloc ?_ _)); exact BK269.out⟩, ⟨by (with_reducible repeat (first | refine blk_drewN ?_ _ | refine blk_drew ?_ | refine blk_alloc ?_ _)); exact BK270.out⟩, ⟨by repeat (first | (with_reducible first | exact HB.out | apply below_alloc | apply pw_below_drewN | apply below_drew1 | refine below_set ?_ GE258.out | refine below_set ?_ GE259.out | refine below_set ?_ GE260.out | refine below_set ?_ GE269.out | refine below_set ?_ GE270.out) | exact HB.out)⟩⟩
          ·rw [if_neg c96] at H
           have c96b0 : decide ((wrap64 (t272 * t272)) < t271) = false := decide_eq_false c96
           clear c96
           have H' := Aside0.mk H
           clear H
           have hnb110 := NB270_258.out
           have hnc110 := NB258_270.out
           have hnb111 := NB270_259.out
           have hnc111 := NB259_270.out
           have hnb112 := NB270_260.out
           have hnc112 := NB260_270.out
           have hnb113 := NB270_269.out
           have hnc113 := NB269_270.out
           have hcz114_0 : w76.cell? ⟨gb270, 0, none⟩ = some (.int .i64 t267) := (blk_cell BK270.out 0).trans rfl
           have hcz114_1 : w76.cell? ⟨gb270, 1, none⟩ = some (.int .i64 t268) := (blk_cell BK270.out 1).trans rfl
           have hfz114_0 := blk_frozen BK270.out 0
           have hfz114_1 := blk_frozen BK270.out 1
           have hnb115 := NB269_258.out
           have hnc115 := NB258_269.out
           have hnb116 := NB269_259.out
           have hnc116 := NB259_269.out
           have hnb117 := NB269_260.out
           have hnc117 := NB260_269.out
           have hcz118_0 : w76.cell? ⟨gb269, 0, none⟩ = some (.int .i64 t265) := (blk_cell BK269.out 0).trans rfl
           have hcz118_1 : w76.cell? ⟨gb269, 1, none⟩ = some (.int .i64 t266) := (blk_cell BK269.out 1).trans rfl
           have hfz118_0 := blk_frozen BK269.out 0
           have hfz118_1 := blk_frozen BK269.out 1
           go_wp2_with (first | ((with_reducible refine gate_callee (f := 38) rfl ?_); refine goesL_ (some 67) rfl rfl Try.func38 (by kernel_rfl) rfl #[.agg #[.int .i64 t267, .int .i64 t268], .agg #[.int .i64 t265, .int .i64 t266]] rfl (by (try simp only [List.map_toArray, List.map_cons, List.map_nil]); first | done | rfl | (simp only [List.length_drop, List.length_take]; rfl)) ?_; (with_reducible refine (impl_FarSquared.calls t267 t268 t265 t266 t273 _ A77.out).mono ?_); rintro e w119 ⟨rfl, hb⟩; refine ⟨_, rfl, ?_⟩; replace BK258 := mB BK258 hb; replace BK259 := mB BK259 hb; replace BK260 := mB BK260 hb; replace BK269 := mB BK269 hb; replace BK270 := mB BK270 hb; replace HB := sB5 HB hb GE258 GE259 GE260 GE269 GE270; (try clear hb); (try clear hb2); (try clear hk); (try clear hi); have hcz120_0 : w119.cell? ⟨gb270, 0, none⟩ = some (.int .i64 t267) := (blk_cell BK270.out 0).trans rfl; have hcz120_1 : w119.cell? ⟨gb270, 1, none⟩ = some (.int .i64 t268) := (blk_cell BK270.out 1).trans rfl; have hfz120_0 := blk_frozen BK270.out 0; have hfz120_1 := blk_frozen BK270.out 1; have hcz121_0 : w119.cell? ⟨gb269, 0, none⟩ = some (.int .i64 t265) := (blk_cell BK269.out 0).trans rfl; have hcz121_1 : w119.cell? ⟨gb269, 1, none⟩ = some (.int .i64 t266) := (blk_cell BK269.out 1).trans rfl; have hfz121_0 := blk_frozen BK269.out 0; have hfz121_1 := blk_frozen BK269.out 1) | (go_at_call 39; (with_reducible refine (impl_StepsBetween.calls t267 t268 t265 t266 t274 _ A79.out).mono ?_); rintro e w122 ⟨rfl, hb⟩; replace BK258 := mB BK258 hb; replace BK259 := mB BK259 hb; replace BK260 := mB BK260 hb; replace BK269 := mB BK269 hb; replace BK270 := mB BK270 hb; replace HB := sB5 HB hb GE258 GE259 GE260 GE269 GE270; (try clear hb); (try clear hb2); (try clear hk); (try clear hi)))
           go_meet
           case rel => exact ⟨_, (decide ((wrap64 (2 * t271)) < (wrap64 (t272 * t272)))), (by first | rfl | (simp; done) | (simp [*]; done)), H', ⟨by have := HJ5.out; first | omega | exact Nat.le_refl _⟩, ⟨by (with_reducible repeat (first | refine blk_drewN ?_ _ | refine blk_drew ?_ | refine blk_alloc ?_ _)); exact BK258.out⟩, ⟨by (with_reducible repeat (first | refine blk_drewN ?_ _ | refine blk_drew ?_ | refine blk_alloc ?_ _)); exact BK259.out⟩, ⟨by (with_reducible repeat (first | refine blk_drewN ?_ _ | refine blk_drew ?_ | refine blk_alloc ?_ _)); exact BK260.out⟩, ⟨by (with_reducible repeat (first | refine blk_drewN ?_ _ | refine blk_drew ?_ | refine blk_alloc ?_ _)); exact BK269.out⟩, ⟨by (with_reducible repeat (first | refine blk_drewN ?_ _ | refine blk_drew ?_ | refine blk_alloc ?_ _)); exact BK270.out⟩, ⟨by repeat (first | (with_reducible first | exact HB.out | apply below_alloc | apply pw_below_drewN | apply below_drew1 | refine below_set ?_ GE258.out | refine below_set ?_ GE259.out | refine below_set ?_ GE260.out | refine below_set ?_ GE269.out | refine below_set ?_ GE270.out) | exact HB.out)⟩⟩
         ·rw [if_neg c95] at H
          have c95b0 : decide (0 ≤ t271) = false := decide_eq_false c95
          clear c95
          have H' := Aside0.mk H
          clear H
          have hnb123 := NB270_258.out
          have hnc123 := NB258_270.out
          have hnb124 := NB270_259.out
          have hnc124 := NB259_270.out
          have hnb125 := NB270_260.out
          have hnc125 := NB260_270.out
          have hnb126 := NB270_269.out
          have hnc126 := NB269_270.out
          have hcz127_0 : w76.cell? ⟨gb270, 0, none⟩ = some (.int .i64 t267) := (blk_cell BK270.out 0).trans rfl
          have hcz127_1 : w76.cell? ⟨gb270, 1, none⟩ = some (.int .i64 t268) := (blk_cell BK270.out 1).trans rfl
          have hfz127_0 := blk_frozen BK270.out 0
          have hfz127_1 := blk_frozen BK270.out 1
          have hnb128 := NB269_258.out
          have hnc128 := NB258_269.out
          have hnb129 := NB269_259.out
          have hnc129 := NB259_269.out
          have hnb130 := NB269_260.out
          have hnc130 := NB260_269.out
          have hcz131_0 : w76.cell? ⟨gb269, 0, none⟩ = some (.int .i64 t265) := (blk_cell BK269.out 0).trans rfl
          have hcz131_1 : w76.cell? ⟨gb269, 1, none⟩ = some (.int .i64 t266) := (blk_cell BK269.out 1).trans rfl
          have hfz131_0 := blk_frozen BK269.out 0
          have hfz131_1 := blk_frozen BK269.out 1
          go_wp2_with (first | ((with_reducible refine gate_callee (f := 38) rfl ?_); refine goesL_ (some 67) rfl rfl Try.func38 (by kernel_rfl) rfl #[.agg #[.int .i64 t267, .int .i64 t268], .agg #[.int .i64 t265, .int .i64 t266]] rfl (by (try simp only [List.map_toArray, List.map_cons, List.map_nil]); first | done | rfl | (simp only [List.length_drop, List.length_take]; rfl)) ?_; (with_reducible refine (impl_FarSquared.calls t267 t268 t265 t266 t273 _ A77.out).mono ?_); rintro e w132 ⟨rfl, hb⟩; refine ⟨_, rfl, ?_⟩; replace BK258 := mB BK258 hb; replace BK259 := mB BK259 hb; replace BK260 := mB BK260 hb; replace BK269 := mB BK269 hb; replace BK270 := mB BK270 hb; replace HB := sB5 HB hb GE258 GE259 GE260 GE269 GE270; (try clear hb); (try clear hb2); (try clear hk); (try clear hi); have hcz133_0 : w132.cell? ⟨gb270, 0, none⟩ = some (.int .i64 t267) := (blk_cell BK270.out 0).trans rfl; have hcz133_1 : w132.cell? ⟨gb270, 1, none⟩ = some (.int .i64 t268) := (blk_cell BK270.out 1).trans rfl; have hfz133_0 := blk_frozen BK270.out 0; have hfz133_1 := blk_frozen BK270.out 1; have hcz134_0 : w132.cell? ⟨gb269, 0, none⟩ = some (.int .i64 t265) := (blk_cell BK269.out 0).trans rfl; have hcz134_1 : w132.cell? ⟨gb269, 1, none⟩ = some (.int .i64 t266) := (blk_cell BK269.out 1).trans rfl; have hfz134_0 := blk_frozen BK269.out 0; have hfz134_1 := blk_frozen BK269.out 1) | (go_at_call 39; (with_reducible refine (impl_StepsBetween.calls t267 t268 t265 t266 t274 _ A79.out).mono ?_); rintro e w135 ⟨rfl, hb⟩; replace BK258 := mB BK258 hb; replace BK259 := mB BK259 hb; replace BK260 := mB BK260 hb; replace BK269 := mB BK269 hb; replace BK270 := mB BK270 hb; replace HB := sB5 HB hb GE258 GE259 GE260 GE269 GE270; (try clear hb); (try clear hb2); (try clear hk); (try clear hi)))
          go_meet
          case rel => exact ⟨_, (false), (by first | rfl | (simp; done) | (simp [*]; done)), H', ⟨by have := HJ5.out; first | omega | exact Nat.le_refl _⟩, ⟨by (with_reducible repeat (first | refine blk_drewN ?_ _ | refine blk_drew ?_ | refine blk_alloc ?_ _)); exact BK258.out⟩, ⟨by (with_reducible repeat (first | refine blk_drewN ?_ _ | refine blk_drew ?_ | refine blk_alloc ?_ _)); exact BK259.out⟩, ⟨by (with_reducible repeat (first | refine blk_drewN ?_ _ | refine blk_drew ?_ | refine blk_alloc ?_ _)); exact BK260.out⟩, ⟨by (with_reducible repeat (first | refine blk_drewN ?_ _ | refine blk_drew ?_ | refine blk_alloc ?_ _)); exact BK269.out⟩, ⟨by (with_reducible repeat (first | refine blk_drewN ?_ _ | refine blk_drew ?_ | refine blk_alloc ?_ _)); exact BK270.out⟩, ⟨by repeat (first | (with_reducible first | exact HB.out | apply below_alloc | apply pw_below_drewN | apply below_drew1 | refine below_set ?_ GE258.out | refine below_set ?_ GE259.out | refine below_set ?_ GE260.out | refine below_set ?_ GE269.out | refine below_set ?_ GE270.out) | exact HB.out)⟩⟩
       ·rw [if_neg c80] at H
        have c80b0 : (t272 == t274) = false := beq_eq_false_iff_ne.mpr c80
        have c80b1 : (t272 != t274) = true := bne_iff_ne.mpr c80
        have H' := Aside0.mk H
        clear H
        have hnb136 := NB270_258.out
        have hnc136 := NB258_270.out
        have hnb137 := NB270_259.out
        have hnc137 := NB259_270.out
        have hnb138 := NB270_260.out
        have hnc138 := NB260_270.out
        have hnb139 := NB270_269.out
        have hnc139 := NB269_270.out
        have hcz140_0 : w76.cell? ⟨gb270, 0, none⟩ = some (.int .i64 t267) := (blk_cell BK270.out 0).trans rfl
        have hcz140_1 : w76.cell? ⟨gb270, 1, none⟩ = some (.int .i64 t268) := (blk_cell BK270.out 1).trans rfl
        have hfz140_0 := blk_frozen BK270.out 0
        have hfz140_1 := blk_frozen BK270.out 1
        have hnb141 := NB269_258.out
        have hnc141 := NB258_269.out
        have hnb142 := NB269_259.out
        have hnc142 := NB259_269.out
        have hnb143 := NB269_260.out
        have hnc143 := NB260_269.out
        have hcz144_0 : w76.cell? ⟨gb269, 0, none⟩ = some (.int .i64 t265) := (blk_cell BK269.out 0).trans rfl
        have hcz144_1 : w76.cell? ⟨gb269, 1, none⟩ = some (.int .i64 t266) := (blk_cell BK269.out 1).trans rfl
        have hfz144_0 := blk_frozen BK269.out 0
        have hfz144_1 := blk_frozen BK269.out 1
        go_wp2_with (first | ((with_reducible refine gate_callee (f := 38) rfl ?_); refine goesL_ (some 67) rfl rfl Try.func38 (by kernel_rfl) rfl #[.agg #[.int .i64 t267, .int .i64 t268], .agg #[.int .i64 t265, .int .i64 t266]] rfl (by (try simp only [List.map_toArray, List.map_cons, List.map_nil]); first | done | rfl | (simp only [List.length_drop, List.length_take]; rfl)) ?_; (with_reducible refine (impl_FarSquared.calls t267 t268 t265 t266 t273 _ A77.out).mono ?_); rintro e w145 ⟨rfl, hb⟩; refine ⟨_, rfl, ?_⟩; replace BK258 := mB BK258 hb; replace BK259 := mB BK259 hb; replace BK260 := mB BK260 hb; replace BK269 := mB BK269 hb; replace BK270 := mB BK270 hb; replace HB := sB5 HB hb GE258 GE259 GE260 GE269 GE270; (try clear hb); (try clear hb2); (try clear hk); (try clear hi); have hcz146_0 : w145.cell? ⟨gb270, 0, none⟩ = some (.int .i64 t267) := (blk_cell BK270.out 0).trans rfl; have hcz146_1 : w145.cell? ⟨gb270, 1, none⟩ = some (.int .i64 t268) := (blk_cell BK270.out 1).trans rfl; have hfz146_0 := blk_frozen BK270.out 0; have hfz146_1 := blk_frozen BK270.out 1; have hcz147_0 : w145.cell? ⟨gb269, 0, none⟩ = some (.int .i64 t265) := (blk_cell BK269.out 0).trans rfl; have hcz147_1 : w145.cell? ⟨gb269, 1, none⟩ = some (.int .i64 t266) := (blk_cell BK269.out 1).trans rfl; have hfz147_0 := blk_frozen BK269.out 0; have hfz147_1 := blk_frozen BK269.out 1) | (go_at_call 39; (with_reducible refine (impl_StepsBetween.calls t267 t268 t265 t266 t274 _ A79.out).mono ?_); rintro e w148 ⟨rfl, hb⟩; replace BK258 := mB BK258 hb; replace BK259 := mB BK259 hb; replace BK260 := mB BK260 hb; replace BK269 := mB BK269 hb; replace BK270 := mB BK270 hb; replace HB := sB5 HB hb GE258 GE259 GE260 GE269 GE270; (try clear hb); (try clear hb2); (try clear hk); (try clear hi)))
        go_meet
        case rel => exact ⟨_, (true), (by first | rfl | (simp; done) | (simp [*]; done)), H', ⟨by have := HJ5.out; first | omega | exact Nat.le_refl _⟩, ⟨by (with_reducible repeat (first | refine blk_drewN ?_ _ | refine blk_drew ?_ | refine blk_alloc ?_ _)); exact BK258.out⟩, ⟨by (with_reducible repeat (first | refine blk_drewN ?_ _ | refine blk_drew ?_ | refine blk_alloc ?_ _)); exact BK259.out⟩, ⟨by (with_reducible repeat (first | refine blk_drewN ?_ _ | refine blk_drew ?_ | refine blk_alloc ?_ _)); exact BK260.out⟩, ⟨by (with_reducible repeat (first | refine blk_drewN ?_ _ | refine blk_drew ?_ | refine blk_alloc ?_ _)); exact BK269.out⟩, ⟨by (with_reducible repeat (first | refine blk_drewN ?_ _ | refine blk_drew ?_ | refine blk_alloc ?_ _)); exact BK270.out⟩, ⟨by repeat (first | (with_reducible first | exact HB.out | apply below_alloc | apply pw_below_drewN | apply below_drew1 | refine below_set ?_ GE258.out | refine below_set ?_ GE259.out | refine below_set ?_ GE260.out | refine below_set ?_ GE269.out | refine below_set ?_ GE270.out) | exact HB.out)⟩⟩
      ·rw [if_neg c78] at H
       have c78b0 : (t271 == t273) = false := beq_eq_false_iff_ne.mpr c78
       have c78b1 : (t271 != t273) = true := bne_iff_ne.mpr c78
       (first | rw [c78b0] | (simp only [i64_w, i32_w]; rw [c78b0]) | skip)
       have H' := Aside0.mk H
       clear H
       have hnb149 := NB270_258.out
       have hnc149 := NB258_270.out
       have hnb150 := NB270_259.out
       have hnc150 := NB259_270.out
       have hnb151 := NB270_260.out
       have hnc151 := NB260_270.out
       have hnb152 := NB270_269.out
       have hnc152 := NB269_270.out
       have hcz153_0 : w76.cell? ⟨gb270, 0, none⟩ = some (.int .i64 t267) := (blk_cell BK270.out 0).trans rfl
       have hcz153_1 : w76.cell? ⟨gb270, 1, none⟩ = some (.int .i64 t268) := (blk_cell BK270.out 1).trans rfl
       have hfz153_0 := blk_frozen BK270.out 0
       have hfz153_1 := blk_frozen BK270.out 1
       have hnb154 := NB269_258.out
       have hnc154 := NB258_269.out
       have hnb155 := NB269_259.out
       have hnc155 := NB259_269.out
       have hnb156 := NB269_260.out
       have hnc156 := NB260_269.out
       have hcz157_0 : w76.cell? ⟨gb269, 0, none⟩ = some (.int .i64 t265) := (blk_cell BK269.out 0).trans rfl
       have hcz157_1 : w76.cell? ⟨gb269, 1, none⟩ = some (.int .i64 t266) := (blk_cell BK269.out 1).trans rfl
       have hfz157_0 := blk_frozen BK269.out 0
       have hfz157_1 := blk_frozen BK269.out 1
       go_wp2_with (first | ((with_reducible refine gate_callee (f := 38) rfl ?_); refine goesL_ (some 67) rfl rfl Try.func38 (by kernel_rfl) rfl #[.agg #[.int .i64 t267, .int .i64 t268], .agg #[.int .i64 t265, .int .i64 t266]] rfl (by (try simp only [List.map_toArray, List.map_cons, List.map_nil]); first | done | rfl | (simp only [List.length_drop, List.length_take]; rfl)) ?_; (with_reducible refine (impl_FarSquared.calls t267 t268 t265 t266 t273 _ A77.out).mono ?_); rintro e w158 ⟨rfl, hb⟩; refine ⟨_, rfl, ?_⟩; replace BK258 := mB BK258 hb; replace BK259 := mB BK259 hb; replace BK260 := mB BK260 hb; replace BK269 := mB BK269 hb; replace BK270 := mB BK270 hb; replace HB := sB5 HB hb GE258 GE259 GE260 GE269 GE270; (try clear hb); (try clear hb2); (try clear hk); (try clear hi)))
       go_meet
       case rel => exact ⟨_, (true), (by first | rfl | (simp; done) | (simp [*]; done)), H', ⟨by have := HJ5.out; first | omega | exact Nat.le_refl _⟩, ⟨by (with_reducible repeat (first | refine blk_drewN ?_ _ | refine blk_drew ?_ | refine blk_alloc ?_ _)); exact BK258.out⟩, ⟨by (with_reducible repeat (first | refine blk_drewN ?_ _ | refine blk_drew ?_ | refine blk_alloc ?_ _)); exact BK259.out⟩, ⟨by (with_reducible repeat (first | refine blk_drewN ?_ _ | refine blk_drew ?_ | refine blk_alloc ?_ _)); exact BK260.out⟩, ⟨by (with_reducible repeat (first | refine blk_drewN ?_ _ | refine blk_drew ?_ | refine blk_alloc ?_ _)); exact BK269.out⟩, ⟨by (with_reducible repeat (first | refine blk_drewN ?_ _ | refine blk_drew ?_ | refine blk_alloc ?_ _)); exact BK270.out⟩, ⟨by repeat (first | (with_reducible first | exact HB.out | apply below_alloc | apply pw_below_drewN | apply below_drew1 | refine below_set ?_ GE258.out | refine below_set ?_ GE259.out | refine below_set ?_ GE260.out | refine below_set ?_ GE269.out | refine below_set ?_ GE270.out) | exact HB.out)⟩⟩
     case rest =>
      clear HC60
      try clear c1
      try clear c2
      try clear p2
      try clear c3
      try clear c4
      try clear c5
      try clear c6
      try clear p6
      try clear c7
      try clear c8
      try clear c9
      try clear c10
      try clear c11
      try clear c12
      try clear c13
      try clear c14
      try clear c15
      try clear c19
      try clear c19b0
      try clear c19b1
      try clear c21
      try clear c21b0
      try clear c21b1
      try clear c23
      try clear c24
      try clear c26
      try clear c35
      try clear c36
      try clear c37
      try clear c38
      try clear c39
      try clear c41
      try clear c49
      try clear c50
      try clear c52
      try clear c56
      try clear c64
      try clear p64
      try clear c65
      try clear c66
      try clear c67
      try clear c69
      try clear c70
      try clear c71
      try clear c78
      try clear c78b0
      try clear c78b1
      try clear c80
      try clear c80b0
      try clear c80b1
      try clear c81
      try clear c81b0
      try clear c81b1
      try clear c81b2
      try clear c82
      try clear c83
      try clear c84
      try clear c85
      try clear c87
      try clear c88
      try clear c89
      try clear c95
      try clear c95b0
      try clear c96
      try clear c96b0
      try clear c97
      try clear c98
      try clear c99
      try clear c100
      try clear c102
      try clear c103
      try clear c104
      try clear c110
      try clear c111
      try clear c112
      try clear c113
      try clear c115
      try clear c116
      try clear c117
      try clear c123
      try clear c124
      try clear c125
      try clear c126
      try clear c128
      try clear c129
      try clear c130
      try clear c136
      try clear c137
      try clear c138
      try clear c139
      try clear c141
      try clear c142
      try clear c143
      try clear c149
      try clear c150
      try clear c151
      try clear c152
      try clear c154
      try clear c155
      try clear c156
      try clear hcz101_0
      try clear hcz101_1
      try clear hcz105_0
      try clear hcz105_1
      try clear hcz107_0
      try clear hcz107_1
      try clear hcz108_0
      try clear hcz108_1
      try clear hcz114_0
      try clear hcz114_1
      try clear hcz118_0
      try clear hcz118_1
      try clear hcz120_0
      try clear hcz120_1
      try clear hcz121_0
      try clear hcz121_1
      try clear hcz127_0
      try clear hcz127_1
      try clear hcz131_0
      try clear hcz131_1
      try clear hcz133_0
      try clear hcz133_1
      try clear hcz134_0
      try clear hcz134_1
      try clear hcz13_0
      try clear hcz13_1
      try clear hcz140_0
      try clear hcz140_1
      try clear hcz144_0
      try clear hcz144_1
      try clear hcz146_0
      try clear hcz146_1
      try clear hcz147_0
      try clear hcz147_1
      try clear hcz153_0
      try clear hcz153_1
      try clear hcz157_0
      try clear hcz157_1
      try clear hcz15_0
      try clear hcz15_1
      try clear hcz16_0
      try clear hcz16_1
      try clear hcz25_0
      try clear hcz25_1
      try clear hcz27_0
      try clear hcz27_1
      try clear hcz28_0
      try clear hcz28_1
      try clear hcz30_0
      try clear hcz30_1
      try clear hcz31_0
      try clear hcz31_1
      try clear hcz32_0
      try clear hcz32_1
      try clear hcz34_0
      try clear hcz34_1
      try clear hcz35_0
      try clear hcz35_1
      try clear hcz36_0
      try clear hcz36_1
      try clear hcz40_0
      try clear hcz40_1
      try clear hcz42_0
      try clear hcz42_1
      try clear hcz43_0
      try clear hcz43_1
      try clear hcz45_0
      try clear hcz45_1
      try clear hcz46_0
      try clear hcz46_1
      try clear hcz47_0
      try clear hcz47_1
      try clear hcz51_0
      try clear hcz51_1
      try clear hcz53_0
      try clear hcz53_1
      try clear hcz54_0
      try clear hcz54_1
      try clear hcz68_0
      try clear hcz68_1
      try clear hcz72_0
      try clear hcz72_1
      try clear hcz74_0
      try clear hcz74_1
      try clear hcz75_0
      try clear hcz75_1
      try clear hcz86_0
      try clear hcz86_1
      try clear hcz90_0
      try clear hcz90_1
      try clear hcz92_0
      try clear hcz92_1
      try clear hcz93_0
      try clear hcz93_1
      try clear hfz101_0
      try clear hfz101_1
      try clear hfz105_0
      try clear hfz105_1
      try clear hfz107_0
      try clear hfz107_1
      try clear hfz108_0
      try clear hfz108_1
      try clear hfz114_0
      try clear hfz114_1
      try clear hfz118_0
      try clear hfz118_1
      try clear hfz120_0
      try clear hfz120_1
      try clear hfz121_0
      try clear hfz121_1
      try clear hfz127_0
      try clear hfz127_1
      try clear hfz131_0
      try clear hfz131_1
      try clear hfz133_0
      try clear hfz133_1
      try clear hfz134_0
      try clear hfz134_1
      try clear hfz13_0
      try clear hfz13_1
      try clear hfz140_0
      try clear hfz140_1
      try clear hfz144_0
      try clear hfz144_1
      try clear hfz146_0
      try clear hfz146_1
      try clear hfz147_0
      try clear hfz147_1
      try clear hfz153_0
      try clear hfz153_1
      try clear hfz157_0
      try clear hfz157_1
      try clear hfz15_0
      try clear hfz15_1
      try clear hfz16_0
      try clear hfz16_1
      try clear hfz25_0
      try clear hfz25_1
      try clear hfz27_0
      try clear hfz27_1
      try clear hfz28_0
      try clear hfz28_1
      try clear hfz30_0
      try clear hfz30_1
      try clear hfz31_0
      try clear hfz31_1
      try clear hfz32_0
      try clear hfz32_1
      try clear hfz34_0
      try clear hfz34_1
      try clear hfz35_0
      try clear hfz35_1
      try clear hfz36_0
      try clear hfz36_1
      try clear hfz40_0
      try clear hfz40_1
      try clear hfz42_0
      try clear hfz42_1
      try clear hfz43_0
      try clear hfz43_1
      try clear hfz45_0
      try clear hfz45_1
      try clear hfz46_0
      try clear hfz46_1
      try clear hfz47_0
      try clear hfz47_1
      try clear hfz51_0
      try clear hfz51_1
      try clear hfz53_0
      try clear hfz53_1
      try clear hfz54_0
      try clear hfz54_1
      try clear hfz68_0
      try clear hfz68_1
      try clear hfz72_0
      try clear hfz72_1
      try clear hfz74_0
      try clear hfz74_1
      try clear hfz75_0
      try clear hfz75_1
      try clear hfz86_0
      try clear hfz86_1
      try clear hfz90_0
      try clear hfz90_1
      try clear hfz92_0
      try clear hfz92_1
      try clear hfz93_0
      try clear hfz93_1
      try clear p2
      try clear p6
      obtain ⟨kq, x101_59, rfl, HA, HJ59, BK258, BK259, BK260, BK269, BK270, HB⟩ := hcut
      cases kq with
      | zero => exact absurd HA.out (by simp [laws_FnPoints.j1])
      | succ kj59 =>
       have H := HA.out
       clear HA
       simp only [laws_FnPoints.j1] at H
       by_cases c159 : x101_59 = true
       ·subst c159
        have H1 : (some false) = some r := by rw [if_pos rfl] at H; exact H
        clear H
        have H := H1
        clear H1
        obtain rfl := Option.some.inj H
        go_wp2
        go_ret
        exact ⟨by first | rfl | (simp [errW_none, errW_some] <;> rfl) | (simp [*, errW_none, errW_some] <;> rfl), by repeat (first | (with_reducible first | exact HB.out | apply below_alloc | apply pw_below_drewN | apply below_drew1 | refine below_set ?_ GE258.out | refine below_set ?_ GE259.out | refine below_set ?_ GE260.out | refine below_set ?_ GE269.out | refine below_set ?_ GE270.out) | exact HB.out)⟩
       ·replace c159 := Bool.eq_false_iff.mpr c159
        subst c159
        have H1 : ((spec_DrawMovePoint.f kj59 l0).bind fun bt275 => ((impl_MovePoint.f bt275.1 bt275.2.1 bt275.2.2.1 bt275.2.2.2).bind fun bt280 => (if bt280.2.2 = true then ((impl_MovePoint.f bt280.1 bt280.2.1 (wrap64 (-bt275.2.2.1)) (wrap64 (-bt275.2.2.2))).bind fun bt284 => (if bt284.2.2 = true then (if (!(bt284.1 == bt275.1) || (!(bt284.2.1 == bt275.2.1))) = true then (some false) else (laws_FnPoints.j2 kj59 t265 t266 t267 t268)) else (some false))) else (laws_FnPoints.j2 kj59 t265 t266 t267 t268)))) = some r := by rw [if_neg (show ¬ (false = true) by decide)] at H; exact H
        clear H
        have H := H1
        clear H1
        replace H := Option.bind_eq_some_iff.mp H
        obtain ⟨⟨t275, t276, t277, t278⟩, A1600, H⟩ := H
        replace H : ((impl_MovePoint.f t275 t276 t277 t278).bind fun bt280 => (if bt280.2.2 = true then ((impl_MovePoint.f bt280.1 bt280.2.1 (wrap64 (-t277)) (wrap64 (-t278))).bind fun bt284 => (if bt284.2.2 = true then (if (!(bt284.1 == t275) || (!(bt284.2.1 == t276))) = true then (some false) else (laws_FnPoints.j2 kj59 t265 t266 t267 t268)) else (some false))) else (laws_FnPoints.j2 kj59 t265 t266 t267 t268))) = some r := H
        have A160 := Aside0.mk A1600
        clear A1600
        replace H := Option.bind_eq_some_iff.mp H
        obtain ⟨⟨t280, t281, t282⟩, A1610, H⟩ := H
        replace H : (if t282 = true then ((impl_MovePoint.f t280 t281 (wrap64 (-t277)) (wrap64 (-t278))).bind fun bt284 => (if bt284.2.2 = true then (if (!(bt284.1 == t275) || (!(bt284.2.1 == t276))) = true then (some false) else (laws_FnPoints.j2 kj59 t265 t266 t267 t268)) else (some false))) else (laws_FnPoints.j2 kj59 t265 t266 t267 t268)) = some r := H
        have A161 := Aside0.mk A1610
        clear A1610
        have HC162 := Aside0.mk H
        clear H
        go_upto_if 115 with (first | ((with_reducible refine gate_callee (f := 40) rfl ?_); refine goesL_ (some 104) rfl rfl Try.func40 (by kernel_rfl) rfl #[.slice A0 l0.length c0] rfl (by (try simp only [List.map_toArray, List.map_cons, List.map_nil]); first | done | rfl | (simp only [List.length_drop, List.length_take]; rfl)) ?_; (with_reducible refine (spec_DrawMovePoint.calls kj59 _ _ l0 t275 t276 t277 t278 _ ?side1 ?side2 A160.out).mono ?_); (case side1 => repeat (first | exact (Kd.C_below HR0.out HB.out) | (with_reducible refine Kd.C_alloc ?_ _) | (with_reducible refine Kd.C_drewN ?_ _) | (with_reducible refine Kd.C_drew ?_))); (case side2 => exact HC0.out); rintro e w163 ⟨rfl, hb⟩; refine ⟨_, rfl, ?_⟩; replace BK258 := mB BK258 hb; replace BK259 := mB BK259 hb; replace BK260 := mB BK260 hb; replace BK269 := mB BK269 hb; replace BK270 := mB BK270 hb; replace HB := sB5 HB hb GE258 GE259 GE260 GE269 GE270; (try clear hb); (try clear hb2); (try clear hk); (try clear hi)) | ((with_reducible refine gate_dst (N := 11) rfl ?_); refine box_event ?hg (N := 11) ?hd (cs := #[.int .i64 0, .int .i64 0]) (t := 50) ?hr ?_; (case hd => rfl); (case hg => rfl); (case hr => first | (go_simp; done) | (go_simp; rfl)); intro gb279 hg w164 hbox hb; have BK279 := Aside0.mk (hbox); have GW279 := zB5 HB hg GE258 GE259 GE260 GE269 GE270; have GE279 := zB5 HB hg GE258 GE259 GE260 GE269 GE270; have NB258_279 := nL BK258 hg; have NB279_258 := nG BK258 hg; have NB259_279 := nL BK259 hg; have NB279_259 := nG BK259 hg; have NB260_279 := nL BK260 hg; have NB279_260 := nG BK260 hg; have NB269_279 := nL BK269 hg; have NB279_269 := nG BK269 hg; have NB270_279 := nL BK270 hg; have NB279_270 := nG BK270 hg; replace BK258 := mB BK258 hb; replace BK259 := mB BK259 hb; replace BK260 := mB BK260 hb; replace BK269 := mB BK269 hb; replace BK270 := mB BK270 hb; replace HB := sB5 HB hb GE258 GE259 GE260 GE269 GE270; clear hb hbox hg; have hnb165 := NB279_258.out; have hnc165 := NB258_279.out; have hnb166 := NB279_259.out; have hnc166 := NB259_279.out; have hnb167 := NB279_260.out; have hnc167 := NB260_279.out; have hnb168 := NB279_269.out; have hnc168 := NB269_279.out; have hnb169 := NB279_270.out; have hnc169 := NB270_279.out; have hcz170_0 : w164.cell? ⟨gb279, 0, none⟩ = some (.int .i64 0) := (blk_cell BK279.out 0).trans rfl; have hcz170_1 : w164.cell? ⟨gb279, 1, none⟩ = some (.int .i64 0) := (blk_cell BK279.out 1).trans rfl; have hfz170_0 := blk_frozen BK279.out 0; have hfz170_1 := blk_frozen BK279.out 1) | ((with_reducible refine gate_callee (f := 41) rfl ?_); refine goesL_ (some 112) rfl rfl Try.func41 (by kernel_rfl) rfl #[.agg #[.int .i64 t275, .int .i64 t276], .int .i64 t277, .int .i64 t278] rfl (by (try simp only [List.map_toArray, List.map_cons, List.map_nil]); first | done | rfl | (simp only [List.length_drop, List.length_take]; rfl)) ?_; (with_reducible refine (impl_MovePoint.calls t275 t276 t277 t278 t280 t281 t282 _ A161.out).mono ?_); rintro e w171 ⟨rfl, hb⟩; refine ⟨_, rfl, ?_⟩; replace BK258 := Aside0.mk (blk_below (g := gb258) (o := .cells #[.int .i64 t252, .int .i64 t253] 50 (0, 0)) (by (with_reducible repeat (first | refine blk_drewN ?_ _ | refine blk_drew ?_ | refine blk_alloc ?_ _)); refine blk_far ?_ NB258_279.out _; (with_reducible repeat (first | refine blk_drewN ?_ _ | refine blk_drew ?_ | refine blk_alloc ?_ _)); refine blk_far ?_ NB258_279.out _; (with_reducible repeat (first | refine blk_drewN ?_ _ | refine blk_drew ?_ | refine blk_alloc ?_ _)); exact BK258.out) hb); replace BK259 := Aside0.mk (blk_below (g := gb259) (o := .cells #[.int .i64 t254, .int .i64 t255] 50 (0, 0)) (by (with_reducible repeat (first | refine blk_drewN ?_ _ | refine blk_drew ?_ | refine blk_alloc ?_ _)); refine blk_far ?_ NB259_279.out _; (with_reducible repeat (first | refine blk_drewN ?_ _ | refine blk_drew ?_ | refine blk_alloc ?_ _)); refine blk_far ?_ NB259_279.out _; (with_reducible repeat (first | refine blk_drewN ?_ _ | refine blk_drew ?_ | refine blk_alloc ?_ _)); exact BK259.out) hb); replace BK260 := Aside0.mk (blk_below (g := gb260) (o := .cells #[.int .i64 t256, .int .i64 t257] 50 (0, 0)) (by (with_reducible repeat (first | refine blk_drewN ?_ _ | refine blk_drew ?_ | refine blk_alloc ?_ _)); refine blk_far ?_ NB260_279.out _; (with_reducible repeat (first | refine blk_drewN ?_ _ | refine blk_drew ?_ | refine blk_alloc ?_ _)); refine blk_far ?_ NB260_279.out _; (with_reducible repeat (first | refine blk_drewN ?_ _ | refine blk_drew ?_ | refine blk_alloc ?_ _)); exact BK260.out) hb); replace BK269 := Aside0.mk (blk_below (g := gb269) (o := .cells #[.int .i64 t265, .int .i64 t266] 50 (0, 0)) (by (with_reducible repeat (first | refine blk_drewN ?_ _ | refine blk_drew ?_ | refine blk_alloc ?_ _)); refine blk_far ?_ NB269_279.out _; (with_reducible repeat (first | refine blk_drewN ?_ _ | refine blk_drew ?_ | refine blk_alloc ?_ _)); refine blk_far ?_ NB269_279.out _; (with_reducible repeat (first | refine blk_drewN ?_ _ | refine blk_drew ?_ | refine blk_alloc ?_ _)); exact BK269.out) hb); replace BK270 := Aside0.mk (blk_below (g := gb270) (o := .cells #[.int .i64 t267, .int .i64 t268] 50 (0, 0)) (by (with_reducible repeat (first | refine blk_drewN ?_ _ | refine blk_drew ?_ | refine blk_alloc ?_ _)); refine blk_far ?_ NB270_279.out _; (with_reducible repeat (first | refine blk_drewN ?_ _ | refine blk_drew ?_ | refine blk_alloc ?_ _)); refine blk_far ?_ NB270_279.out _; (with_reducible repeat (first | refine blk_drewN ?_ _ | refine blk_drew ?_ | refine blk_alloc ?_ _)); exact BK270.out) hb); replace BK279 := Aside0.mk (blk_below (g := gb279) (o := .cells #[.int .i64 t275, .int .i64 t276] 50 (0, 0)) (by (with_reducible repeat (first | refine blk_drewN ?_ _ | refine blk_drew ?_ | refine blk_alloc ?_ _)); refine blk_put (cs := #[.int .i64 t275, .int .i64 0]) ?_ 1 _ rfl; (with_reducible repeat (first | refine blk_drewN ?_ _ | refine blk_drew ?_ | refine blk_alloc ?_ _)); refine blk_put (cs := #[.int .i64 0, .int .i64 0]) ?_ 0 _ rfl; (with_reducible repeat (first | refine blk_drewN ?_ _ | refine blk_drew ?_ | refine blk_alloc ?_ _)); exact BK279.out) hb); replace HB := sB6 HB hb GE258 GE259 GE260 GE269 GE270 GE279; (try clear hb); (try clear hb2); (try clear hk); (try clear hi)) | ((with_reducible refine gate_dst (N := 14) rfl ?_); refine box_event ?hg (N := 14) ?hd (cs := #[.int .i64 0, .int .i64 0]) (t := 50) ?hr ?_; (case hd => rfl); (case hg => rfl); (case hr => first | (go_simp; done) | (go_simp; rfl)); intro gb283 hg w172 hbox hb; have BK283 := Aside0.mk (hbox); have GW283 := zB6 HB hg GE258 GE259 GE260 GE269 GE270 GE279; have GE283 := zB6 HB hg GE258 GE259 GE260 GE269 GE270 GE279; have NB258_283 := nL BK258 hg; have NB283_258 := nG BK258 hg; have NB259_283 := nL BK259 hg; have NB283_259 := nG BK259 hg; have NB260_283 := nL BK260 hg; have NB283_260 := nG BK260 hg; have NB269_283 := nL BK269 hg; have NB283_269 := nG BK269 hg; have NB270_283 := nL BK270 hg; have NB283_270 := nG BK270 hg; have NB279_283 := nL BK279 hg; have NB283_279 := nG BK279 hg; replace BK258 := mB BK258 hb; replace BK259 := mB BK259 hb; replace BK260 := mB BK260 hb; replace BK269 := mB BK269 hb; replace BK270 := mB BK270 hb; replace BK279 := mB BK279 hb; replace HB := sB6 HB hb GE258 GE259 GE260 GE269 GE270 GE279; clear hb hbox hg; have hnb173 := NB283_258.out; have hnc173 := NB258_283.out; have hnb174 := NB283_259.out; have hnc174 := NB259_283.out; have hnb175 := NB283_260.out; have hnc175 := NB260_283.out; have hnb176 := NB283_269.out; have hnc176 := NB269_283.out; have hnb177 := NB283_270.out; have hnc177 := NB270_283.out; have hnb178 := NB283_279.out; have hnc178 := NB279_283.out; have hcz179_0 : w172.cell? ⟨gb283, 0, none⟩ = some (.int .i64 0) := (blk_cell BK283.out 0).trans rfl; have hcz179_1 : w172.cell? ⟨gb283, 1, none⟩ = some (.int .i64 0) := (blk_cell BK283.out 1).trans rfl; have hfz179_0 := blk_frozen BK283.out 0; have hfz179_1 := blk_frozen BK283.out 1))
        (try simp only [Act.put, List.setIfInBounds_toArray, List.set_cons_zero, List.set_cons_succ])
        go_cut [] (fun wc => ∃ (kq : Nat), Aside0 (laws_FnPoints.j2 kq t265 t266 t267 t268 = some r) ∧ Aside0 (kq ≤ kj59) ∧ Aside0 (wc.heap[gb258]? = some (.cells #[.int .i64 t252, .int .i64 t253] 50 (0, 0))) ∧ Aside0 (wc.heap[gb259]? = some (.cells #[.int .i64 t254, .int .i64 t255] 50 (0, 0))) ∧ Aside0 (wc.heap[gb260]? = some (.cells #[.int .i64 t256, .int .i64 t257] 50 (0, 0))) ∧ Aside0 (wc.heap[gb269]? = some (.cells #[.int .i64 t265, .int .i64 t266] 50 (0, 0))) ∧ Aside0 (wc.heap[gb270]? = some (.cells #[.int .i64 t267, .int .i64 t268] 50 (0, 0))) ∧ Aside0 (wc.heap[gb279]? = some (.cells #[.int .i64 t275, .int .i64 t276] 50 (0, 0))) ∧ Aside0 (wc.heap[gb283]? = some (.cells #[.int .i64 t280, .int .i64 t281] 50 (0, 0))) ∧ Aside0 (Below w.heap.size w wc))
        case first =>
         have H := HC162.out
         clear HC162
         by_cases c180 : t282 = true
         ·subst c180
          have H1 : ((impl_MovePoint.f t280 t281 (wrap64 (-t277)) (wrap64 (-t278))).bind fun bt284 => (if bt284.2.2 = true then (if (!(bt284.1 == t275) || (!(bt284.2.1 == t276))) = true then (some false) else (laws_FnPoints.j2 kj59 t265 t266 t267 t268)) else (some false))) = some r := by rw [if_pos rfl] at H; exact H
          clear H
          have H := H1
          clear H1
          replace H := Option.bind_eq_some_iff.mp H
          obtain ⟨⟨t284, t285, t286⟩, A1810, H⟩ := H
          replace H : (if t286 = true then (if (!(t284 == t275) || (!(t285 == t276))) = true then (some false) else (laws_FnPoints.j2 kj59 t265 t266 t267 t268)) else (some false)) = some r := H
          have A181 := Aside0.mk A1810
          clear A1810
          by_cases c182 : t286 = true
          ·subst c182
           have H1 : (if (!(t284 == t275) || (!(t285 == t276))) = true then (some false) else (laws_FnPoints.j2 kj59 t265 t266 t267 t268)) = some r := by rw [if_pos rfl] at H; exact H
           clear H
           have H := H1
           clear H1
           by_cases c183 : (!(t284 == t275) || (!(t285 == t276))) = true
           ·rw [if_pos c183] at H
            have c183b0 : (!(t284 == t275) || (!(t285 == t276))) = true := c183
            clear c183
            (first | rw [c183b0] | (simp only [i64_w, i32_w]; rw [c183b0]) | skip)
            obtain rfl := Option.some.inj H
            have hnb184 := NB283_258.out
            have hnc184 := NB258_283.out
            have hnb185 := NB283_259.out
            have hnc185 := NB259_283.out
            have hnb186 := NB283_260.out
            have hnc186 := NB260_283.out
            have hnb187 := NB283_269.out
            have hnc187 := NB269_283.out
            have hnb188 := NB283_270.out
            have hnc188 := NB270_283.out
            have hnb189 := NB283_279.out
            have hnc189 := NB279_283.out
            have hcz190_0 : w172.cell? ⟨gb283, 0, none⟩ = some (.int .i64 0) := (blk_cell BK283.out 0).trans rfl
            have hcz190_1 : w172.cell? ⟨gb283, 1, none⟩ = some (.int .i64 0) := (blk_cell BK283.out 1).trans rfl
            have hfz190_0 := blk_frozen BK283.out 0
            have hfz190_1 := blk_frozen BK283.out 1
            go_wp2_with (first | ((with_reducible refine gate_callee (f := 41) rfl ?_); refine goesL_ (some 122) rfl rfl Try.func41 (by kernel_rfl) rfl #[.agg #[.int .i64 t280, .int .i64 t281], .int .i64 (wrap64 (-t277)), .int .i64 (wrap64 (-t278))] rfl (by (try simp only [List.map_toArray, List.map_cons, List.map_nil]); first | done | rfl | (simp only [List.length_drop, List.length_take]; rfl)) ?_; (with_reducible refine (impl_MovePoint.calls t280 t281 (wrap64 (-t277)) (wrap64 (-t278)) t284 t285 true _ A181.out).mono ?_); rintro e w191 ⟨rfl, hb⟩; refine ⟨_, rfl, ?_⟩; replace BK258 := Aside0.mk (blk_below (g := gb258) (o := .cells #[.int .i64 t252, .int .i64 t253] 50 (0, 0)) (by (with_reducible repeat (first | refine blk_drewN ?_ _ | refine blk_drew ?_ | refine blk_alloc ?_ _)); refine blk_far ?_ NB258_283.out _; (with_reducible repeat (first | refine blk_drewN ?_ _ | refine blk_drew ?_ | refine blk_alloc ?_ _)); refine blk_far ?_ NB258_283.out _; (with_reducible repeat (first | refine blk_drewN ?_ _ | refine blk_drew ?_ | refine blk_alloc ?_ _)); exact BK258.out) hb); replace BK259 := Aside0.mk (blk_below (g := gb259) (o := .cells #[.int .i64 t254, .int .i64 t255] 50 (0, 0)) (by (with_reducible repeat (first | refine blk_drewN ?_ _ | refine blk_drew ?_ | refine blk_alloc ?_ _)); refine blk_far ?_ NB259_283.out _; (with_reducible repeat (first | refine blk_drewN ?_ _ | refine blk_drew ?_ | refine blk_alloc ?_ _)); refine blk_far ?_ NB259_283.out _; (with_reducible repeat (first | refine blk_drewN ?_ _ | refine blk_drew ?_ | refine blk_alloc ?_ _)); exact BK259.out) hb); replace BK260 := Aside0.mk (blk_below (g := gb260) (o := .cells #[.int .i64 t256, .int .i64 t257] 50 (0, 0)) (by (with_reducible repeat (first | refine blk_drewN ?_ _ | refine blk_drew ?_ | refine blk_alloc ?_ _)); refine blk_far ?_ NB260_283.out _; (with_reducible repeat (first | refine blk_drewN ?_ _ | refine blk_drew ?_ | refine blk_alloc ?_ _)); refine blk_far ?_ NB260_283.out _; (with_reducible repeat (first | refine blk_drewN ?_ _ | refine blk_drew ?_ | refine blk_alloc ?_ _)); exact BK260.out) hb); replace BK269 := Aside0.mk (blk_below (g := gb269) (o := .cells #[.int .i64 t265, .int .i64 t266] 50 (0, 0)) (by (with_reducible repeat (first | refine blk_drewN ?_ _ | refine blk_drew ?_ | refine blk_alloc ?_ _)); refine blk_far ?_ NB269_283.out _; (with_reducible repeat (first | refine blk_drewN ?_ _ | refine blk_drew ?_ | refine blk_alloc ?_ _)); refine blk_far ?_ NB269_283.out _; (with_reducible repeat (first | refine blk_drewN ?_ _ | refine blk_drew ?_ | refine blk_alloc ?_ _)); exact BK269.out) hb); replace BK270 := Aside0.mk (blk_below (g := gb270) (o := .cells #[.int .i64 t267, .int .i64 t268] 50 (0, 0)) (by (with_reducible repeat (first | refine blk_drewN ?_ _ | refine blk_drew ?_ | refine blk_alloc ?_ _)); refine blk_far ?_ NB270_283.out _; (with_reducible repeat (first | refine blk_drewN ?_ _ | refine blk_drew ?_ | refine blk_alloc ?_ _)); refine blk_far ?_ NB270_283.out _; (with_reducible repeat (first | refine blk_drewN ?_ _ | refine blk_drew ?_ | refine blk_alloc ?_ _)); exact BK270.out) hb); replace BK279 := Aside0.mk (blk_below (g := gb279) (o := .cells #[.int .i64 t275, .int .i64 t276] 50 (0, 0)) (by (with_reducible repeat (first | refine blk_drewN ?_ _ | refine blk_drew ?_ | refine blk_alloc ?_ _)); refine blk_far ?_ NB279_283.out _; (with_reducible repeat (first | refine blk_drewN ?_ _ | refine blk_drew ?_ | refine blk_alloc ?_ _)); refine blk_far ?_ NB279_283.out _; (with_reducible repeat (first | refine blk_drewN ?_ _ | refine blk_drew ?_ | refine blk_alloc ?_ _)); exact BK279.out) hb); replace BK283 := Aside0.mk (blk_below (g := gb283) (o := .cells #[.int .i64 t280, .int .i64 t281] 50 (0, 0)) (by (with_reducible repeat (first | refine blk_drewN ?_ _ | refine blk_drew ?_ | refine blk_alloc ?_ _)); refine blk_put (cs := #[.int .i64 t280, .int .i64 0]) ?_ 1 _ rfl; (with_reducible repeat (first | refine blk_drewN ?_ _ | refine blk_drew ?_ | refine blk_alloc ?_ _)); refine blk_put (cs := #[.int .i64 0, .int .i64 0]) ?_ 0 _ rfl; (with_reducible repeat (first | refine blk_drewN ?_ _ | refine blk_drew ?_ | refine blk_alloc ?_ _)); exact BK283.out) hb); replace HB := sB7 HB hb GE258 GE259 GE260 GE269 GE270 GE279 GE283; (try clear hb); (try clear hb2); (try clear hk); (try clear hi)) | ((with_reducible refine gate_dst (N := 16) rfl ?_); refine box_event ?hg (N := 16) ?hd (cs := #[.int .i64 0, .int .i64 0]) (t := 50) ?hr ?_; (case hd => rfl); (case hg => rfl); (case hr => first | (go_simp; done) | (go_simp; rfl)); intro gb287 hg w192 hbox hb; have BK287 := Aside0.mk (hbox); have GW287 := zB7 HB hg GE258 GE259 GE260 GE269 GE270 GE279 GE283; have GE287 := zB7 HB hg GE258 GE259 GE260 GE269 GE270 GE279 GE283; have NB258_287 := nL BK258 hg; have NB287_258 := nG BK258 hg; have NB259_287 := nL BK259 hg; have NB287_259 := nG BK259 hg; have NB260_287 := nL BK260 hg; have NB287_260 := nG BK260 hg; have NB269_287 := nL BK269 hg; have NB287_269 := nG BK269 hg; have NB270_287 := nL BK270 hg; have NB287_270 := nG BK270 hg; have NB279_287 := nL BK279 hg; have NB287_279 := nG BK279 hg; have NB283_287 := nL BK283 hg; have NB287_283 := nG BK283 hg; replace BK258 := mB BK258 hb; replace BK259 := mB BK259 hb; replace BK260 := mB BK260 hb; replace BK269 := mB BK269 hb; replace BK270 := mB BK270 hb; replace BK279 := mB BK279 hb; replace BK283 := mB BK283 hb; replace HB := sB7 HB hb GE258 GE259 GE260 GE269 GE270 GE279 GE283; clear hb hbox hg; have hnb193 := NB287_258.out; have hnc193 := NB258_287.out; have hnb194 := NB287_259.out; have hnc194 := NB259_287.out; have hnb195 := NB287_260.out; have hnc195 := NB260_287.out; have hnb196 := NB287_269.out; have hnc196 := NB269_287.out; have hnb197 := NB287_270.out; have hnc197 := NB270_287.out; have hnb198 := NB287_279.out; have hnc198 := NB279_287.out; have hnb199 := NB287_283.out; have hnc199 := NB283_287.out; have hcz200_0 : w192.cell? ⟨gb287, 0, none⟩ = some (.int .i64 0) := (blk_cell BK287.out 0).trans rfl; have hcz200_1 : w192.cell? ⟨gb287, 1, none⟩ = some (.int .i64 0) := (blk_cell BK287.out 1).trans rfl; have hfz200_0 := blk_frozen BK287.out 0; have hfz200_1 := blk_frozen BK287.out 1; have hnb201 := NB279_258.out; have hnc201 := NB258_279.out; have hnb202 := NB279_259.out; have hnc202 := NB259_279.out; have hnb203 := NB279_260.out; have hnc203 := NB260_279.out; have hnb204 := NB279_269.out; have hnc204 := NB269_279.out; have hnb205 := NB279_270.out; have hnc205 := NB270_279.out; have hcz206_0 : w192.cell? ⟨gb279, 0, none⟩ = some (.int .i64 t275) := (blk_cell BK279.out 0).trans rfl; have hcz206_1 : w192.cell? ⟨gb279, 1, none⟩ = some (.int .i64 t276) := (blk_cell BK279.out 1).trans rfl; have hfz206_0 := blk_frozen BK279.out 0; have hfz206_1 := blk_frozen BK279.out 1))
            go_ret
            exact ⟨by first | rfl | (simp [errW_none, errW_some] <;> rfl) | (simp [*, errW_none, errW_some] <;> rfl), by repeat (first | (with_reducible first | exact HB.out | apply below_alloc | apply pw_below_drewN | apply below_drew1 | refine below_set ?_ GE258.out | refine below_set ?_ GE259.out | refine below_set ?_ GE260.out | refine below_set ?_ GE269.out | refine below_set ?_ GE270.out | refine below_set ?_ GE279.out | refine below_set ?_ GE283.out | refine below_set ?_ GE287.out) | exact HB.out)⟩
           ·rw [if_neg c183] at H
            have c183b0 : (!(t284 == t275) || (!(t285 == t276))) = false := by simpa using c183
            clear c183
            (first | rw [c183b0] | (simp only [i64_w, i32_w]; rw [c183b0]) | skip)
            have H' := Aside0.mk H
            clear H
            have hnb207 := NB283_258.out
            have hnc207 := NB258_283.out
            have hnb208 := NB283_259.out
            have hnc208 := NB259_283.out
            have hnb209 := NB283_260.out
            have hnc209 := NB260_283.out
            have hnb210 := NB283_269.out
            have hnc210 := NB269_283.out
            have hnb211 := NB283_270.out
            have hnc211 := NB270_283.out
            have hnb212 := NB283_279.out
            have hnc212 := NB279_283.out
            have hcz213_0 : w172.cell? ⟨gb283, 0, none⟩ = some (.int .i64 0) := (blk_cell BK283.out 0).trans rfl
            have hcz213_1 : w172.cell? ⟨gb283, 1, none⟩ = some (.int .i64 0) := (blk_cell BK283.out 1).trans rfl
            have hfz213_0 := blk_frozen BK283.out 0
            have hfz213_1 := blk_frozen BK283.out 1
            go_wp2_with (first | ((with_reducible refine gate_callee (f := 41) rfl ?_); refine goesL_ (some 122) rfl rfl Try.func41 (by kernel_rfl) rfl #[.agg #[.int .i64 t280, .int .i64 t281], .int .i64 (wrap64 (-t277)), .int .i64 (wrap64 (-t278))] rfl (by (try simp only [List.map_toArray, List.map_cons, List.map_nil]); first | done | rfl | (simp only [List.length_drop, List.length_take]; rfl)) ?_; (with_reducible refine (impl_MovePoint.calls t280 t281 (wrap64 (-t277)) (wrap64 (-t278)) t284 t285 true _ A181.out).mono ?_); rintro e w214 ⟨rfl, hb⟩; refine ⟨_, rfl, ?_⟩; replace BK258 := Aside0.mk (blk_below (g := gb258) (o := .cells #[.int .i64 t252, .int .i64 t253] 50 (0, 0)) (by (with_reducible repeat (first | refine blk_drewN ?_ _ | refine blk_drew ?_ | refine blk_alloc ?_ _)); refine blk_far ?_ NB258_283.out _; (with_reducible repeat (first | refine blk_drewN ?_ _ | refine blk_drew ?_ | refine blk_alloc ?_ _)); refine blk_far ?_ NB258_283.out _; (with_reducible repeat (first | refine blk_drewN ?_ _ | refine blk_drew ?_ | refine blk_alloc ?_ _)); exact BK258.out) hb); replace BK259 := Aside0.mk (blk_below (g := gb259) (o := .cells #[.int .i64 t254, .int .i64 t255] 50 (0, 0)) (by (with_reducible repeat (first | refine blk_drewN ?_ _ | refine blk_drew ?_ | refine blk_alloc ?_ _)); refine blk_far ?_ NB259_283.out _; (with_reducible repeat (first | refine blk_drewN ?_ _ | refine blk_drew ?_ | refine blk_alloc ?_ _)); refine blk_far ?_ NB259_283.out _; (with_reducible repeat (first | refine blk_drewN ?_ _ | refine blk_drew ?_ | refine blk_alloc ?_ _)); exact BK259.out) hb); replace BK260 := Aside0.mk (blk_below (g := gb260) (o := .cells #[.int .i64 t256, .int .i64 t257] 50 (0, 0)) (by (with_reducible repeat (first | refine blk_drewN ?_ _ | refine blk_drew ?_ | refine blk_alloc ?_ _)); refine blk_far ?_ NB260_283.out _; (with_reducible repeat (first | refine blk_drewN ?_ _ | refine blk_drew ?_ | refine blk_alloc ?_ _)); refine blk_far ?_ NB260_283.out _; (with_reducible repeat (first | refine blk_drewN ?_ _ | refine blk_drew ?_ | refine blk_alloc ?_ _)); exact BK260.out) hb); replace BK269 := Aside0.mk (blk_below (g := gb269) (o := .cells #[.int .i64 t265, .int .i64 t266] 50 (0, 0)) (by (with_reducible repeat (first | refine blk_drewN ?_ _ | refine blk_drew ?_ | refine blk_alloc ?_ _)); refine blk_far ?_ NB269_283.out _; (with_reducible repeat (first | refine blk_drewN ?_ _ | refine blk_drew ?_ | refine blk_alloc ?_ _)); refine blk_far ?_ NB269_283.out _; (with_reducible repeat (first | refine blk_drewN ?_ _ | refine blk_drew ?_ | refine blk_alloc ?_ _)); exact BK269.out) hb); replace BK270 := Aside0.mk (blk_below (g := gb270) (o := .cells #[.int .i64 t267, .int .i64 t268] 50 (0, 0)) (by (with_reducible repeat (first | refine blk_drewN ?_ _ | refine blk_drew ?_ | refine blk_alloc ?_ _)); refine blk_far ?_ NB270_283.out _; (with_reducible repeat (first | refine blk_drewN ?_ _ | refine blk_drew ?_ | refine blk_alloc ?_ _)); refine blk_far ?_ NB270_283.out _; (with_reducible repeat (first | refine blk_drewN ?_ _ | refine blk_drew ?_ | refine blk_alloc ?_ _)); exact BK270.out) hb); replace BK279 := Aside0.mk (blk_below (g := gb279) (o := .cells #[.int .i64 t275, .int .i64 t276] 50 (0, 0)) (by (with_reducible repeat (first | refine blk_drewN ?_ _ | refine blk_drew ?_ | refine blk_alloc ?_ _)); refine blk_far ?_ NB279_283.out _; (with_reducible repeat (first | refine blk_drewN ?_ _ | refine blk_drew ?_ | refine blk_alloc ?_ _)); refine blk_far ?_ NB279_283.out _; (with_reducible repeat (first | refine blk_drewN ?_ _ | refine blk_drew ?_ | refine blk_alloc ?_ _)); exact BK279.out) hb); replace BK283 := Aside0.mk (blk_below (g := gb283) (o := .cells #[.int .i64 t280, .int .i64 t281] 50 (0, 0)) (by (with_reducible repeat (first | refine blk_drewN ?_ _ | refine blk_drew ?_ | refine blk_alloc ?_ _)); refine blk_put (cs := #[.int .i64 t280, .int .i64 0]) ?_ 1 _ rfl; (with_reducible repeat (first | refine blk_drewN ?_ _ | refine blk_drew ?_ | refine blk_alloc ?_ _)); refine blk_put (cs := #[.int .i64 0, .int .i64 0]) ?_ 0 _ rfl; (with_reducible repeat (first | refine blk_drewN ?_ _ | refine blk_drew ?_ | refine blk_alloc ?_ _)); exact BK283.out) hb); replace HB := sB7 HB hb GE258 GE259 GE260 GE269 GE270 GE279 GE283; (try clear hb); (try clear hb2); (try clear hk); (try clear hi)) | ((with_reducible refine gate_dst (N := 16) rfl ?_); refine box_event ?hg (N := 16) ?hd (cs := #[.int .i64 0, .int .i64 0]) (t := 50) ?hr ?_; (case hd => rfl); (case hg => rfl); (case hr => first | (go_simp; done) | (go_simp; rfl)); intro gb287 hg w215 hbox hb; have BK287 := Aside0.mk (hbox); have GW287 := zB7 HB hg GE258 GE259 GE260 GE269 GE270 GE279 GE283; have GE287 := zB7 HB hg GE258 GE259 GE260 GE269 GE270 GE279 GE283; have NB258_287 := nL BK258 hg; have NB287_258 := nG BK258 hg; have NB259_287 := nL BK259 hg; have NB287_259 := nG BK259 hg; have NB260_287 := nL BK260 hg; have NB287_260 := nG BK260 hg; have NB269_287 := nL BK269 hg; have NB287_269 := nG BK269 hg; have NB270_287 := nL BK270 hg; have NB287_270 := nG BK270 hg; have NB279_287 := nL BK279 hg; have NB287_279 := nG BK279 hg; have NB283_287 := nL BK283 hg; have NB287_283 := nG BK283 hg; replace BK258 := mB BK258 hb; replace BK259 := mB BK259 hb; replace BK260 := mB BK260 hb; replace BK269 := mB BK269 hb; replace BK270 := mB BK270 hb; replace BK279 := mB BK279 hb; replace BK283 := mB BK283 hb; replace HB := sB7 HB hb GE258 GE259 GE260 GE269 GE270 GE279 GE283; clear hb hbox hg; have hnb216 := NB287_258.out; have hnc216 := NB258_287.out; have hnb217 := NB287_259.out; have hnc217 := NB259_287.out; have hnb218 := NB287_260.out; have hnc218 := NB260_287.out; have hnb219 := NB287_269.out; have hnc219 := NB269_287.out; have hnb220 := NB287_270.out; have hnc220 := NB270_287.out; have hnb221 := NB287_279.out; have hnc221 := NB279_287.out; have hnb222 := NB287_283.out; have hnc222 := NB283_287.out; have hcz223_0 : w215.cell? ⟨gb287, 0, none⟩ = some (.int .i64 0) := (blk_cell BK287.out 0).trans rfl; have hcz223_1 : w215.cell? ⟨gb287, 1, none⟩ = some (.int .i64 0) := (blk_cell BK287.out 1).trans rfl; have hfz223_0 := blk_frozen BK287.out 0; have hfz223_1 := blk_frozen BK287.out 1; have hnb224 := NB279_258.out; have hnc224 := NB258_279.out; have hnb225 := NB279_259.out; have hnc225 := NB259_279.out; have hnb226 := NB279_260.out; have hnc226 := NB260_279.out; have hnb227 := NB279_269.out; have hnc227 := NB269_279.out; have hnb228 := NB279_270.out; have hnc228 := NB270_279.out; have hcz229_0 : w215.cell? ⟨gb279, 0, none⟩ = some (.int .i64 t275) := (blk_cell BK279.out 0).trans rfl; have hcz229_1 : w215.cell? ⟨gb279, 1, none⟩ = some (.int .i64 t276) := (blk_cell BK279.out 1).trans rfl; have hfz229_0 := blk_frozen BK279.out 0; have hfz229_1 := blk_frozen BK279.out 1))
            go_meet
            case rel => exact ⟨_, H', ⟨by have := HJ5.out; have := HJ59.out; first | omega | exact Nat.le_refl _⟩, ⟨by (with_reducible repeat (first | refine blk_drewN ?_ _ | refine blk_drew ?_ | refine blk_alloc ?_ _)); refine blk_far ?_ NB258_287.out _; (with_reducible repeat (first | refine blk_drewN ?_ _ | refine blk_drew ?_ | refine blk_alloc ?_ _)); refine blk_far ?_ NB258_287.out _; (with_reducible repeat (first | refine blk_drewN ?_ _ | refine blk_drew ?_ | refine blk_alloc ?_ _)); exact BK258.out⟩, ⟨by (with_reducible repeat (first | refine blk_drewN ?_ _ | refine blk_drew ?_ | refine blk_alloc ?_ _)); refine blk_far ?_ NB259_287.out _; (with_reducible repeat (first | refine blk_drewN ?_ _ | refine blk_drew ?_ | refine blk_alloc ?_ _)); refine blk_far ?_ NB259_287.out _; (with_reducible repeat (first | refine blk_drewN ?_ _ | refine blk_drew ?_ | refine blk_alloc ?_ _)); exact BK259.out⟩, ⟨by (with_reducible repeat (first | refine blk_drewN ?_ _ | refine blk_drew ?_ | refine blk_alloc ?_ _)); refine blk_far ?_ NB260_287.out _; (with_reducible repeat (first | refine blk_drewN ?_ _ | refine blk_drew ?_ | refine blk_alloc ?_ _)); refine blk_far ?_ NB260_287.out _; (with_reducible repeat (first | refine blk_drewN ?_ _ | refine blk_drew ?_ | refine blk_alloc ?_ _)); exact BK260.out⟩, ⟨by (with_reducible repeat (first | refine blk_drewN ?_ _ | refine blk_drew ?_ | refine blk_alloc ?_ _)); refine blk_far ?_ NB269_287.out _; (with_reducible repeat (first | refine blk_drewN ?_ _ | refine blk_drew ?_ | refine blk_alloc ?_ _)); refine blk_far ?_ NB269_287.out _; (with_reducible repeat (first | refine blk_drewN ?_ _ | refine blk_drew ?_ | refine blk_alloc ?_ _)); exact BK269.out⟩, ⟨by (with_reducible repeat (first | refine blk_drewN ?_ _ | refine blk_drew ?_ | refine blk_alloc ?_ _)); refine blk_far ?_ NB270_287.out _; (with_reducible repeat (first | refine blk_drewN ?_ _ | refine blk_drew ?_ | refine blk_alloc ?_ _)); refine blk_far ?_ NB270_287.out _; (with_reducible repeat (first | refine blk_drewN ?_ _ | refine blk_drew ?_ | refine blk_alloc ?_ _)); exact BK270.out⟩, ⟨by (with_reducible repeat (first | refine blk_drewN ?_ _ | refine blk_drew ?_ | refine blk_alloc ?_ _)); refine blk_far ?_ NB279_287.out _; (with_reducible repeat (first | refine blk_drewN ?_ _ | refine blk_drew ?_ | refine blk_alloc ?_ _)); refine blk_far ?_ NB279_287.out _; (with_reducible repeat (first | refine blk_drewN ?_ _ | refine blk_drew ?_ | refine blk_alloc ?_ _)); exact BK279.out⟩, ⟨by (with_reducible repeat (first | refine blk_drewN ?_ _ | refine blk_drew ?_ | refine blk_alloc ?_ _)); refine blk_far ?_ NB283_287.out _; (with_reducible repeat (first | refine blk_drewN ?_ _ | refine blk_drew ?_ | refine blk_alloc ?_ _)); refine blk_far ?_ NB283_287.out _; (with_reducible repeat (first | refine blk_drewN ?_ _ | refine blk_drew ?_ | refine blk_alloc ?_ _)); exact BK283.out⟩, ⟨by repeat (first | (with_reducible first | exact HB.out | apply below_alloc | apply pw_below_drewN | apply below_drew1 | refine below_set ?_ GE258.out | refine below_set ?_ GE259.out | refine below_set ?_ GE260.out | refine below_set ?_ GE269.out | refine below_set ?_ GE270.out | refine below_set ?_ GE279.out | refine below_set ?_ GE283.out | refine below_set ?_ GE287.out) | exact HB.out)⟩⟩
          ·replace c182 := Bool.eq_false_iff.mpr c182
           subst c182
           have H1 : (some false) = some r := by rw [if_neg (show ¬ (false = true) by decide)] at H; exact H
           clear H
           have H := H1
           clear H1
           obtain rfl := Option.some.inj H
           have hnb230 := NB283_258.out
           have hnc230 := NB258_283.out
           have hnb231 := NB283_259.out
           have hnc231 := NB259_283.out
           have hnb232 := NB283_260.out
           have hnc232 := NB260_283.out
           have hnb233 := NB283_269.out
           have hnc233 := NB269_283.out
           have hnb234 := NB283_270.out
           have hnc234 := NB270_283.out
           have hnb235 := NB283_279.out
           have hnc235 := NB279_283.out
           have hcz236_0 : w172.cell? ⟨gb283, 0, none⟩ = some (.int .i64 0) := (blk_cell BK283.out 0).trans rfl
           have hcz236_1 : w172.cell? ⟨gb283, 1, none⟩ = some (.int .i64 0) := (blk_cell BK283.out 1).trans rfl
           have hfz236_0 := blk_frozen BK283.out 0
           have hfz236_1 := blk_frozen BK283.out 1
           go_wp2_with (first | ((with_reducible refine gate_callee (f := 41) rfl ?_); refine goesL_ (some 122) rfl rfl Try.func41 (by kernel_rfl) rfl #[.agg #[.int .i64 t280, .int .i64 t281], .int .i64 (wrap64 (-t277)), .int .i64 (wrap64 (-t278))] rfl (by (try simp only [List.map_toArray, List.map_cons, List.map_nil]); first | done | rfl | (simp only [List.length_drop, List.length_take]; rfl)) ?_; (with_reducible refine (impl_MovePoint.calls t280 t281 (wrap64 (-t277)) (wrap64 (-t278)) t284 t285 false _ A181.out).mono ?_); rintro e w237 ⟨rfl, hb⟩; refine ⟨_, rfl, ?_⟩; replace BK258 := Aside0.mk (blk_below (g := gb258) (o := .cells #[.int .i64 t252, .int .i64 t253] 50 (0, 0)) (by (with_reducible repeat (first | refine blk_drewN ?_ _ | refine blk_drew ?_ | refine blk_alloc ?_ _)); refine blk_far ?_ NB258_283.out _; (with_reducible repeat (first | refine blk_drewN ?_ _ | refine blk_drew ?_ | refine blk_alloc ?_ _)); refine blk_far ?_ NB258_283.out _; (with_reducible repeat (first | refine blk_drewN ?_ _ | refine blk_drew ?_ | refine blk_alloc ?_ _)); exact BK258.out) hb); replace BK259 := Aside0.mk (blk_below (g := gb259) (o := .cells #[.int .i64 t254, .int .i64 t255] 50 (0, 0)) (by (with_reducible repeat (first | refine blk_drewN ?_ _ | refine blk_drew ?_ | refine blk_alloc ?_ _)); refine blk_far ?_ NB259_283.out _; (with_reducible repeat (first | refine blk_drewN ?_ _ | refine blk_drew ?_ | refine blk_alloc ?_ _)); refine blk_far ?_ NB259_283.out _; (with_reducible repeat (first | refine blk_drewN ?_ _ | refine blk_drew ?_ | refine blk_alloc ?_ _)); exact BK259.out) hb); replace BK260 := Aside0.mk (blk_below (g := gb260) (o := .cells #[.int .i64 t256, .int .i64 t257] 50 (0, 0)) (by (with_reducible repeat (first | refine blk_drewN ?_ _ | refine blk_drew ?_ | refine blk_alloc ?_ _)); refine blk_far ?_ NB260_283.out _; (with_reducible repeat (first | refine blk_drewN ?_ _ | refine blk_drew ?_ | refine blk_alloc ?_ _)); refine blk_far ?_ NB260_283.out _; (with_reducible repeat (first | refine blk_drewN ?_ _ | refine blk_drew ?_ | refine blk_alloc ?_ _)); exact BK260.out) hb); replace BK269 := Aside0.mk (blk_below (g := gb269) (o := .cells #[.int .i64 t265, .int .i64 t266] 50 (0, 0)) (by (with_reducible repeat (first | refine blk_drewN ?_ _ | refine blk_drew ?_ | refine blk_alloc ?_ _)); refine blk_far ?_ NB269_283.out _; (with_reducible repeat (first | refine blk_drewN ?_ _ | refine blk_drew ?_ | refine blk_alloc ?_ _)); refine blk_far ?_ NB269_283.out _; (with_reducible repeat (first | refine blk_drewN ?_ _ | refine blk_drew ?_ | refine blk_alloc ?_ _)); exact BK269.out) hb); replace BK270 := Aside0.mk (blk_below (g := gb270) (o := .cells #[.int .i64 t267, .int .i64 t268] 50 (0, 0)) (by (with_reducible repeat (first | refine blk_drewN ?_ _ | refine blk_drew ?_ | refine blk_alloc ?_ _)); refine blk_far ?_ NB270_283.out _; (with_reducible repeat (first | refine blk_drewN ?_ _ | refine blk_drew ?_ | refine blk_alloc ?_ _)); refine blk_far ?_ NB270_283.out _; (with_reducible repeat (first | refine blk_drewN ?_ _ | refine blk_drew ?_ | refine blk_alloc ?_ _)); exact BK270.out) hb); replace BK279 := Aside0.mk (blk_below (g := gb279) (o := .cells #[.int .i64 t275, .int .i64 t276] 50 (0, 0)) (by (with_reducible repeat (first | refine blk_drewN ?_ _ | refine blk_drew ?_ | refine blk_alloc ?_ _)); refine blk_far ?_ NB279_283.out _; (with_reducible repeat (first | refine blk_drewN ?_ _ | refine blk_drew ?_ | refine blk_alloc ?_ _)); refine blk_far ?_ NB279_283.out _; (with_reducible repeat (first | refine blk_drewN ?_ _ | refine blk_drew ?_ | refine blk_alloc ?_ _)); exact BK279.out) hb); replace BK283 := Aside0.mk (blk_below (g := gb283) (o := .cells #[.int .i64 t280, .int .i64 t281] 50 (0, 0)) (by (with_reducible repeat (first | refine blk_drewN ?_ _ | refine blk_drew ?_ | refine blk_alloc ?_ _)); refine blk_put (cs := #[.int .i64 t280, .int .i64 0]) ?_ 1 _ rfl; (with_reducible repeat (first | refine blk_drewN ?_ _ | refine blk_drew ?_ | refine blk_alloc ?_ _)); refine blk_put (cs := #[.int .i64 0, .int .i64 0]) ?_ 0 _ rfl; (with_reducible repeat (first | refine blk_drewN ?_ _ | refine blk_drew ?_ | refine blk_alloc ?_ _)); exact BK283.out) hb); replace HB := sB7 HB hb GE258 GE259 GE260 GE269 GE270 GE279 GE283; (try clear hb); (try clear hb2); (try clear hk); (try clear hi)) | ((with_reducible refine gate_dst (N := 16) rfl ?_); refine box_event ?hg (N := 16) ?hd (cs := #[.int .i64 0, .int .i64 0]) (t := 50) ?hr ?_; (case hd => rfl); (case hg => rfl); (case hr => first | (go_simp; done) | (go_simp; rfl)); intro gb287 hg w238 hbox hb; have BK287 := Aside0.mk (hbox); have GW287 := zB7 HB hg GE258 GE259 GE260 GE269 GE270 GE279 GE283; have GE287 := zB7 HB hg GE258 GE259 GE260 GE269 GE270 GE279 GE283; have NB258_287 := nL BK258 hg; have NB287_258 := nG BK258 hg; have NB259_287 := nL BK259 hg; have NB287_259 := nG BK259 hg; have NB260_287 := nL BK260 hg; have NB287_260 := nG BK260 hg; have NB269_287 := nL BK269 hg; have NB287_269 := nG BK269 hg; have NB270_287 := nL BK270 hg; have NB287_270 := nG BK270 hg; have NB279_287 := nL BK279 hg; have NB287_279 := nG BK279 hg; have NB283_287 := nL BK283 hg; have NB287_283 := nG BK283 hg; replace BK258 := mB BK258 hb; replace BK259 := mB BK259 hb; replace BK260 := mB BK260 hb; replace BK269 := mB BK269 hb; replace BK270 := mB BK270 hb; replace BK279 := mB BK279 hb; replace BK283 := mB BK283 hb; replace HB := sB7 HB hb GE258 GE259 GE260 GE269 GE270 GE279 GE283; clear hb hbox hg; have hnb239 := NB287_258.out; have hnc239 := NB258_287.out; have hnb240 := NB287_259.out; have hnc240 := NB259_287.out; have hnb241 := NB287_260.out; have hnc241 := NB260_287.out; have hnb242 := NB287_269.out; have hnc242 := NB269_287.out; have hnb243 := NB287_270.out; have hnc243 := NB270_287.out; have hnb244 := NB287_279.out; have hnc244 := NB279_287.out; have hnb245 := NB287_283.out; have hnc245 := NB283_287.out; have hcz246_0 : w238.cell? ⟨gb287, 0, none⟩ = some (.int .i64 0) := (blk_cell BK287.out 0).trans rfl; have hcz246_1 : w238.cell? ⟨gb287, 1, none⟩ = some (.int .i64 0) := (blk_cell BK287.out 1).trans rfl; have hfz246_0 := blk_frozen BK287.out 0; have hfz246_1 := blk_frozen BK287.out 1))
           go_ret
           exact ⟨by first | rfl | (simp [errW_none, errW_some] <;> rfl) | (simp [*, errW_none, errW_some] <;> rfl), by repeat (first | (with_reducible first | exact HB.out | apply below_alloc | apply pw_below_drewN | apply below_drew1 | refine below_set ?_ GE258.out | refine below_set ?_ GE259.out | refine below_set ?_ GE260.out | refine below_set ?_ GE269.out | refine below_set ?_ GE270.out | refine below_set ?_ GE279.out | refine below_set ?_ GE283.out | refine below_set ?_ GE287.out) | exact HB.out)⟩
         ·replace c180 := Bool.eq_false_iff.mpr c180
          subst c180
          have H1 : (laws_FnPoints.j2 kj59 t265 t266 t267 t268) = some r := by rw [if_neg (show ¬ (false = true) by decide)] at H; exact H
          clear H
          have H := H1
          clear H1
          have H' := Aside0.mk H
          clear H
          go_wp2
          go_meet
          case rel => exact ⟨_, H', ⟨by have := HJ5.out; have := HJ59.out; first | omega | exact Nat.le_refl _⟩, ⟨by (with_reducible repeat (first | refine blk_drewN ?_ _ | refine blk_drew ?_ | refine blk_alloc ?_ _)); refine blk_far ?_ NB258_283.out _; (with_reducible repeat (first | refine blk_drewN ?_ _ | refine blk_drew ?_ | refine blk_alloc ?_ _)); refine blk_far ?_ NB258_283.out _; (with_reducible repeat (first | refine blk_drewN ?_ _ | refine blk_drew ?_ | refine blk_alloc ?_ _)); exact BK258.out⟩, ⟨by (with_reducible repeat (first | refine blk_drewN ?_ _ | refine blk_drew ?_ | refine blk_alloc ?_ _)); refine blk_far ?_ NB259_283.out _; (with_reducible repeat (first | refine blk_drewN ?_ _ | refine blk_drew ?_ | refine blk_alloc ?_ _)); refine blk_far ?_ NB259_283.out _; (with_reducible repeat (first | refine blk_drewN ?_ _ | refine blk_drew ?_ | refine blk_alloc ?_ _)); exact BK259.out⟩, ⟨by (with_reducible repeat (first | refine blk_drewN ?_ _ | refine blk_drew ?_ | refine blk_alloc ?_ _)); refine blk_far ?_ NB260_283.out _; (with_reducible repeat (first | refine blk_drewN ?_ _ | refine blk_drew ?_ | refine blk_alloc ?_ _)); refine blk_far ?_ NB260_283.out _; (with_reducible repeat (first | refine blk_drewN ?_ _ | refine blk_drew ?_ | refine blk_alloc ?_ _)); exact BK260.out⟩, ⟨by (with_reducible repeat (first | refine blk_drewN ?_ _ | refine blk_drew ?_ | refine blk_alloc ?_ _)); refine blk_far ?_ NB269_283.out _; (with_reducible repeat (first | refine blk_drewN ?_ _ | refine blk_drew ?_ | refine blk_alloc ?_ _)); refine blk_far ?_ NB269_283.out _; (with_reducible repeat (first | refine blk_drewN ?_ _ | refine blk_drew ?_ | refine blk_alloc ?_ _)); exact BK269.out⟩, ⟨by (with_reducible repeat (first | refine blk_drewN ?_ _ | refine blk_drew ?_ | refine blk_alloc ?_ _)); refine blk_far ?_ NB270_283.out _; (with_reducible repeat (first | refine blk_drewN ?_ _ | refine blk_drew ?_ | refine blk_alloc ?_ _)); refine blk_far ?_ NB270_283.out _; (with_reducible repeat (first | refine blk_drewN ?_ _ | refine blk_drew ?_ | refine blk_alloc ?_ _)); exact BK270.out⟩, ⟨by (with_reducible repeat (first | refine blk_drewN ?_ _ | refine blk_drew ?_ | refine blk_alloc ?_ _)); refine blk_far ?_ NB279_283.out _; (with_reducible repeat (first | refine blk_drewN ?_ _ | refine blk_drew ?_ | refine blk_alloc ?_ _)); refine blk_far ?_ NB279_283.out _; (with_reducible repeat (first | refine blk_drewN ?_ _ | refine blk_drew ?_ | refine blk_alloc ?_ _)); exact BK279.out⟩, ⟨by (with_reducible repeat (first | refine blk_drewN ?_ _ | refine blk_drew ?_ | refine blk_alloc ?_ _)); refine blk_put (cs := #[.int .i64 t280, .int .i64 0]) ?_ 1 _ rfl; (with_reducible repeat (first | refine blk_drewN ?_ _ | refine blk_drew ?_ | refine blk_alloc ?_ _)); refine blk_put (cs := #[.int .i64 0, .int .i64 0]) ?_ 0 _ rfl; (with_reducible repeat (first | refine blk_drewN ?_ _ | refine blk_drew ?_ | refine blk_alloc ?_ _)); exact BK283.out⟩, ⟨by repeat (first | (with_reducible first | exact HB.out | apply below_alloc | apply pw_below_drewN | apply below_drew1 | refine below_set ?_ GE258.out | refine below_set ?_ GE259.out | refine below_set ?_ GE260.out | refine below_set ?_ GE269.out | refine below_set ?_ GE270.out | refine below_set ?_ GE279.out | refine below_set ?_ GE283.out) | exact HB.out)⟩⟩
        case rest =>
         clear HC162
         try clear c1
         try clear c2
         try clear p2
         try clear c3
         try clear c4
         try clear c5
         try clear c6
         try clear p6
         try clear c7
         try clear c8
         try clear c9
         try clear c10
         try clear c11
         try clear c12
         try clear c13
         try clear c14
         try clear c15
         try clear c16
         try clear c17
         try clear c18
         try clear c19
         try clear c19b0
         try clear c19b1
         try clear c20
         try clear c21
         try clear c21b0
         try clear c21b1
         try clear c22
         try clear c23
         try clear c24
         try clear c26
         try clear c35
         try clear c36
         try clear c37
         try clear c38
         try clear c39
         try clear c40
         try clear c41
         try clear c49
         try clear c50
         try clear c52
         try clear c56
         try clear c64
         try clear p64
         try clear c65
         try clear c66
         try clear c67
         try clear c69
         try clear c70
         try clear c71
         try clear c78
         try clear c78b0
         try clear c78b1
         try clear c80
         try clear c80b0
         try clear c80b1
         try clear c81
         try clear c81b0
         try clear c81b1
         try clear c81b2
         try clear c82
         try clear c83
         try clear c84
         try clear c85
         try clear c87
         try clear c88
         try clear c89
         try clear c95
         try clear c95b0
         try clear c96
         try clear c96b0
         try clear c97
         try clear c98
         try clear c99
         try clear c100
         try clear c102
         try clear c103
         try clear c104
         try clear c110
         try clear c111
         try clear c112
         try clear c113
         try clear c115
         try clear c116
         try clear c117
         try clear c123
         try clear c124
         try clear c125
         try clear c126
         try clear c128
         try clear c129
         try clear c130
         try clear c136
         try clear c137
         try clear c138
         try clear c139
         try clear c141
         try clear c142
         try clear c143
         try clear c149
         try clear c150
         try clear c151
         try clear c152
         try clear c154
         try clear c155
         try clear c156
         try clear c159
         try clear c165
         try clear c166
         try clear c167
         try clear c168
         try clear c169
         try clear c173
         try clear c174
         try clear c175
         try clear c176
         try clear c177
         try clear c178
         try clear c180
         try clear c182
         try clear c183
         try clear c183b0
         try clear c184
         try clear c185
         try clear c186
         try clear c187
         try clear c188
         try clear c189
         try clear c193
         try clear c194
         try clear c195
         try clear c196
         try clear c197
         try clear c198
         try clear c199
         try clear c201
         try clear c202
         try clear c203
         try clear c204
         try clear c205
         try clear c207
         try clear c208
         try clear c209
         try clear c210
         try clear c211
         try clear c212
         try clear c216
         try clear c217
         try clear c218
         try clear c219
         try clear c220
         try clear c221
         try clear c222
         try clear c224
         try clear c225
         try clear c226
         try clear c227
         try clear c228
         try clear c230
         try clear c231
         try clear c232
         try clear c233
         try clear c234
         try clear c235
         try clear c239
         try clear c240
         try clear c241
         try clear c242
         try clear c243
         try clear c244
         try clear c245
         try clear hcz101_0
         try clear hcz101_1
         try clear hcz105_0
         try clear hcz105_1
         try clear hcz107_0
         try clear hcz107_1
         try clear hcz108_0
         try clear hcz108_1
         try clear hcz114_0
         try clear hcz114_1
         try clear hcz118_0
         try clear hcz118_1
         try clear hcz120_0
         try clear hcz120_1
         try clear hcz121_0
         try clear hcz121_1
         try clear hcz127_0
         try clear hcz127_1
         try clear hcz131_0
         try clear hcz131_1
         try clear hcz133_0
         try clear hcz133_1
         try clear hcz134_0
         try clear hcz134_1
         try clear hcz13_0
         try clear hcz13_1
         try clear hcz140_0
         try clear hcz140_1
         try clear hcz144_0
         try clear hcz144_1
         try clear hcz146_0
         try clear hcz146_1
         try clear hcz147_0
         try clear hcz147_1
         try clear hcz153_0
         try clear hcz153_1
         try clear hcz157_0
         try clear hcz157_1
         try clear hcz15_0
         try clear hcz15_1
         try clear hcz16_0
         try clear hcz16_1
         try clear hcz170_0
         try clear hcz170_1
         try clear hcz179_0
         try clear hcz179_1
         try clear hcz190_0
         try clear hcz190_1
         try clear hcz200_0
         try clear hcz200_1
         try clear hcz206_0
         try clear hcz206_1
         try clear hcz213_0
         try clear hcz213_1
         try clear hcz223_0
         try clear hcz223_1
         try clear hcz229_0
         try clear hcz229_1
         try clear hcz236_0
         try clear hcz236_1
         try clear hcz246_0
         try clear hcz246_1
         try clear hcz25_0
         try clear hcz25_1
         try clear hcz27_0
         try clear hcz27_1
         try clear hcz28_0
         try clear hcz28_1
         try clear hcz30_0
         try clear hcz30_1
         try clear hcz31_0
         try clear hcz31_1
         try clear hcz32_0
         try clear hcz32_1
         try clear hcz34_0
         try clear hcz34_1
         try clear hcz35_0
         try clear hcz35_1
         try clear hcz36_0
         try clear hcz36_1
         try clear hcz40_0
         try clear hcz40_1
         try clear hcz42_0
         try clear hcz42_1
         try clear hcz43_0
         try clear hcz43_1
         try clear hcz45_0
         try clear hcz45_1
         try clear hcz46_0
         try clear hcz46_1
         try clear hcz47_0
         try clear hcz47_1
         try clear hcz51_0
         try clear hcz51_1
         try clear hcz53_0
         try clear hcz53_1
         try clear hcz54_0
         try clear hcz54_1
         try clear hcz68_0
         try clear hcz68_1
         try clear hcz72_0
         try clear hcz72_1
         try clear hcz74_0
         try clear hcz74_1
         try clear hcz75_0
         try clear hcz75_1
         try clear hcz86_0
         try clear hcz86_1
         try clear hcz90_0
         try clear hcz90_1
         try clear hcz92_0
         try clear hcz92_1
         try clear hcz93_0
         try clear hcz93_1
         try clear hfz101_0
         try clear hfz101_1
         try clear hfz105_0
         try clear hfz105_1
         try clear hfz107_0
         try clear hfz107_1
         try clear hfz108_0
         try clear hfz108_1
         try clear hfz114_0
         try clear hfz114_1
         try clear hfz118_0
         try clear hfz118_1
         try clear hfz120_0
         try clear hfz120_1
         try clear hfz121_0
         try clear hfz121_1
         try clear hfz127_0
         try clear hfz127_1
         try clear hfz131_0
         try clear hfz131_1
         try clear hfz133_0
         try clear hfz133_1
         try clear hfz134_0
         try clear hfz134_1
         try clear hfz13_0
         try clear hfz13_1
         try clear hfz140_0
         try clear hfz140_1
         try clear hfz144_0
         try clear hfz144_1
         try clear hfz146_0
         try clear hfz146_1
         try clear hfz147_0
         try clear hfz147_1
         try clear hfz153_0
         try clear hfz153_1
         try clear hfz157_0
         try clear hfz157_1
         try clear hfz15_0
         try clear hfz15_1
         try clear hfz16_0
         try clear hfz16_1
         try clear hfz170_0
         try clear hfz170_1
         try clear hfz179_0
         try clear hfz179_1
         try clear hfz190_0
         try clear hfz190_1
         try clear hfz200_0
         try clear hfz200_1
         try clear hfz206_0
         try clear hfz206_1
         try clear hfz213_0
         try clear hfz213_1
         try clear hfz223_0
         try clear hfz223_1
         try clear hfz229_0
         try clear hfz229_1
         try clear hfz236_0
         try clear hfz236_1
         try clear hfz246_0
         try clear hfz246_1
         try clear hfz25_0
         try clear hfz25_1
         try clear hfz27_0
         try clear hfz27_1
         try clear hfz28_0
         try clear hfz28_1
         try clear hfz30_0
         try clear hfz30_1
         try clear hfz31_0
         try clear hfz31_1
         try clear hfz32_0
         try clear hfz32_1
         try clear hfz34_0
         try clear hfz34_1
         try clear hfz35_0
         try clear hfz35_1
         try clear hfz36_0
         try clear hfz36_1
         try clear hfz40_0
         try clear hfz40_1
         try clear hfz42_0
         try clear hfz42_1
         try clear hfz43_0
         try clear hfz43_1
         try clear hfz45_0
         try clear hfz45_1
         try clear hfz46_0
         try clear hfz46_1
         try clear hfz47_0
         try clear hfz47_1
         try clear hfz51_0
         try clear hfz51_1
         try clear hfz53_0
         try clear hfz53_1
         try clear hfz54_0
         try clear hfz54_1
         try clear hfz68_0
         try clear hfz68_1
         try clear hfz72_0
         try clear hfz72_1
         try clear hfz74_0
         try clear hfz74_1
         try clear hfz75_0
         try clear hfz75_1
         try clear hfz86_0
         try clear hfz86_1
         try clear hfz90_0
         try clear hfz90_1
         try clear hfz92_0
         try clear hfz92_1
         try clear hfz93_0
         try clear hfz93_1
         try clear p2
         try clear p6
         try clear p64
         obtain ⟨kq, HA, HJ161, BK258, BK259, BK260, BK269, BK270, BK279, BK283, HB⟩ := hcut
         cases kq with
         | zero => exact absurd HA.out (by simp [laws_FnPoints.j2])
         | succ kj161 =>
          have H := HA.out
          clear HA
          simp only [laws_FnPoints.j2] at H
          replace H := Option.bind_eq_some_iff.mp H
          obtain ⟨t288, A2470, H⟩ := H
          replace H : (if t288 = true then ((impl_BeforePoint.f t267 t268 t265 t266).bind fun t289 => (if t289 = true then (some false) else ((impl_BeforePoint.f t265 t266 t267 t268).bind fun t290 => (if t290 = true then (some true) else ((impl_BeforePoint.f t267 t268 t265 t266).bind fun t291 => (if t291 = true then (some true) else (some (t265 == t267 && (t266 == t268))))))))) else ((impl_BeforePoint.f t265 t266 t267 t268).bind fun t292 => (if t292 = true then (some true) else ((impl_BeforePoint.f t267 t268 t265 t266).bind fun t293 => (if t293 = true then (some true) else (some (t265 == t267 && (t266 == t268)))))))) = some r := H
          have A247 := Aside0.mk A2470
          clear A2470
          by_cases c248 : t288 = true
          ·subst c248
           have H1 : ((impl_BeforePoint.f t267 t268 t265 t266).bind fun t289 => (if t289 = true then (some false) else ((impl_BeforePoint.f t265 t266 t267 t268).bind fun t290 => (if t290 = true then (some true) else ((impl_BeforePoint.f t267 t268 t265 t266).bind fun t291 => (if t291 = true then (some true) else (some (t265 == t267 && (t266 == t268))))))))) = some r := by rw [if_pos rfl] at H; exact H
           clear H
           have H := H1
           clear H1
           replace H := Option.bind_eq_some_iff.mp H
           obtain ⟨t289, A2490, H⟩ := H
           replace H : (if t289 = true then (some false) else ((impl_BeforePoint.f t265 t266 t267 t268).bind fun t290 => (if t290 = true then (some true) else ((impl_BeforePoint.f t267 t268 t265 t266).bind fun t291 => (if t291 = true then (some true) else (some (t265 == t267 && (t266 == t268)))))))) = some r := H
           have A249 := Aside0.mk A2490
           clear A2490
           by_cases c250 : t289 = true
           ·subst c250
            have H1 : (some false) = some r := by rw [if_pos rfl] at H; exact H
            clear H
            have H := H1
            clear H1
            obtain rfl := Option.some.inj H
            have hnb251 := NB269_258.out
            have hnc251 := NB258_269.out
            have hnb252 := NB269_259.out
            have hnc252 := NB259_269.out
            have hnb253 := NB269_260.out
            have hnc253 := NB260_269.out
            have hnb254 := NB269_270.out
            have hnc254 := NB270_269.out
            have hnb255 := NB269_279.out
            have hnc255 := NB279_269.out
            have hnb256 := NB269_283.out
            have hnc256 := NB283_269.out
            have hcz257_0 : wc.cell? ⟨gb269, 0, none⟩ = some (.int .i64 t265) := (blk_cell BK269.out 0).trans rfl
            have hcz257_1 : wc.cell? ⟨gb269, 1, none⟩ = some (.int .i64 t266) := (blk_cell BK269.out 1).trans rfl
            have hfz257_0 := blk_frozen BK269.out 0
            have hfz257_1 := blk_frozen BK269.out 1
            have hnb258 := NB270_258.out
            have hnc258 := NB258_270.out
            have hnb259 := NB270_259.out
            have hnc259 := NB259_270.out
            have hnb260 := NB270_260.out
            have hnc260 := NB260_270.out
            have hnb261 := NB270_279.out
            have hnc261 := NB279_270.out
            have hnb262 := NB270_283.out
            have hnc262 := NB283_270.out
            have hcz263_0 : wc.cell? ⟨gb270, 0, none⟩ = some (.int .i64 t267) := (blk_cell BK270.out 0).trans rfl
            have hcz263_1 : wc.cell? ⟨gb270, 1, none⟩ = some (.int .i64 t268) := (blk_cell BK270.out 1).trans rfl
            have hfz263_0 := blk_frozen BK270.out 0
            have hfz263_1 := blk_frozen BK270.out 1
            go_wp2_with (first | ((with_reducible refine gate_callee (f := 42) rfl ?_); refine goesL_ (some 134) rfl rfl Try.func42 (by kernel_rfl) rfl #[.agg #[.int .i64 t265, .int .i64 t266], .agg #[.int .i64 t267, .int .i64 t268]] rfl (by (try simp only [List.map_toArray, List.map_cons, List.map_nil]); first | done | rfl | (simp only [List.length_drop, List.length_take]; rfl)) ?_; (with_reducible refine (impl_BeforePoint.calls t265 t266 t267 t268 true _ A247.out).mono ?_); rintro e w264 ⟨rfl, hb⟩; refine ⟨_, rfl, ?_⟩; replace BK258 := mB BK258 hb; replace BK259 := mB BK259 hb; replace BK260 := mB BK260 hb; replace BK269 := mB BK269 hb; replace BK270 := mB BK270 hb; replace BK279 := mB BK279 hb; replace BK283 := mB BK283 hb; replace HB := sB7 HB hb GE258 GE259 GE260 GE269 GE270 GE279 GE283; (try clear hb); (try clear hb2); (try clear hk); (try clear hi); have hcz265_0 : w264.cell? ⟨gb270, 0, none⟩ = some (.int .i64 t267) := (blk_cell BK270.out 0).trans rfl; have hcz265_1 : w264.cell? ⟨gb270, 1, none⟩ = some (.int .i64 t268) := (blk_cell BK270.out 1).trans rfl; have hfz265_0 := blk_frozen BK270.out 0; have hfz265_1 := blk_frozen BK270.out 1; have hcz266_0 : w264.cell? ⟨gb269, 0, none⟩ = some (.int .i64 t265) := (blk_cell BK269.out 0).trans rfl; have hcz266_1 : w264.cell? ⟨gb269, 1, none⟩ = some (.int .i64 t266) := (blk_cell BK269.out 1).trans rfl; have hfz266_0 := blk_frozen BK269.out 0; have hfz266_1 := blk_frozen BK269.out 1) | (go_at_call 42; (with_reducible refine (impl_BeforePoint.calls t267 t268 t265 t266 true _ A249.out).mono ?_); rintro e w267 ⟨rfl, hb⟩; replace BK258 := mB BK258 hb; replace BK259 := mB BK259 hb; replace BK260 := mB BK260 hb; replace BK269 := mB BK269 hb; replace BK270 := mB BK270 hb; replace BK279 := mB BK279 hb; replace BK283 := mB BK283 hb; replace HB := sB7 HB hb GE258 GE259 GE260 GE269 GE270 GE279 GE283; (try clear hb); (try clear hb2); (try clear hk); (try clear hi)))
            go_ret
            exact ⟨by first | rfl | (simp [errW_none, errW_some] <;> rfl) | (simp [*, errW_none, errW_some] <;> rfl), by repeat (first | (with_reducible first | exact HB.out | apply below_alloc | apply pw_below_drewN | apply below_drew1 | refine below_set ?_ GE258.out | refine below_set ?_ GE259.out | refine below_set ?_ GE260.out | refine below_set ?_ GE269.out | refine below_set ?_ GE270.out | refine below_set ?_ GE279.out | refine below_set ?_ GE283.out) | exact HB.out)⟩
           ·replace c250 := Bool.eq_false_iff.mpr c250
            subst c250
            have H1 : ((impl_BeforePoint.f t265 t266 t267 t268).bind fun t290 => (if t290 = true then (some true) else ((impl_BeforePoint.f t267 t268 t265 t266).bind fun t291 => (if t291 = true then (some true) else (some (t265 == t267 && (t266 == t268))))))) = some r := by rw [if_neg (show ¬ (false = true) by decide)] at H; exact H
            clear H
            have H := H1
            clear H1
            replace H := Option.bind_eq_some_iff.mp H
            obtain ⟨t290, A2680, H⟩ := H
            replace H : (if t290 = true then (some true) else ((impl_BeforePoint.f t267 t268 t265 t266).bind fun t291 => (if t291 = true then (some true) else (some (t265 == t267 && (t266 == t268)))))) = some r := H
            have A268 := Aside0.mk A2680
            clear A2680
            by_cases c269 : t290 = true
            ·subst c269
             have H1 : (some true) = some r := by rw [if_pos rfl] at H; exact H
             clear H
             have H := H1
             clear H1
             obtain rfl := Option.some.inj H
             have hnb270 := NB269_258.out
             have hnc270 := NB258_269.out
             have hnb271 := NB269_259.out
             have hnc271 := NB259_269.out
             have hnb272 := NB269_260.out
             have hnc272 := NB260_269.out
             have hnb273 := NB269_270.out
             have hnc273 := NB270_269.out
             have hnb274 := NB269_279.out
             have hnc274 := NB279_269.out
             have hnb275 := NB269_283.out
             have hnc275 := NB283_269.out
             have hcz276_0 : wc.cell? ⟨gb269, 0, none⟩ = some (.int .i64 t265) := (blk_cell BK269.out 0).trans rfl
             have hcz276_1 : wc.cell? ⟨gb269, 1, none⟩ = some (.int .i64 t266) := (blk_cell BK269.out 1).trans rfl
             have hfz276_0 := blk_frozen BK269.out 0
             have hfz276_1 := blk_frozen BK269.out 1
             have hnb277 := NB270_258.out
             have hnc277 := NB258_270.out
             have hnb278 := NB270_259.out
             have hnc278 := NB259_270.out
             have hnb279 := NB270_260.out
             have hnc279 := NB260_270.out
             have hnb280 := NB270_279.out
             have hnc280 := NB279_270.out
             have hnb281 := NB270_283.out
             have hnc281 := NB283_270.out
             have hcz282_0 : wc.cell? ⟨gb270, 0, none⟩ = some (.int .i64 t267) := (blk_cell BK270.out 0).trans rfl
             have hcz282_1 : wc.cell? ⟨gb270, 1, none⟩ = some (.int .i64 t268) := (blk_cell BK270.out 1).trans rfl
             have hfz282_0 := blk_frozen BK270.out 0
             have hfz282_1 := blk_frozen BK270.out 1
             go_wp2_with (first | ((with_reducible refine gate_callee (f := 42) rfl ?_); refine goesL_ (some 134) rfl rfl Try.func42 (by kernel_rfl) rfl #[.agg #[.int .i64 t265, .int .i64 t266], .agg #[.int .i64 t267, .int .i64 t268]] rfl (by (try simp only [List.map_toArray, List.map_cons, List.map_nil]); first | done | rfl | (simp only [List.length_drop, List.length_take]; rfl)) ?_; (with_reducible refine (impl_BeforePoint.calls t265 t266 t267 t268 true _ A247.out).mono ?_); rintro e w283 ⟨rfl, hb⟩; refine ⟨_, rfl, ?_⟩; replace BK258 := mB BK258 hb; replace BK259 := mB BK259 hb; replace BK260 := mB BK260 hb; replace BK269 := mB BK269 hb; replace BK270 := mB BK270 hb; replace BK279 := mB BK279 hb; replace BK283 := mB BK283 hb; replace HB := sB7 HB hb GE258 GE259 GE260 GE269 GE270 GE279 GE283; (try clear hb); (try clear hb2); (try clear hk); (try clear hi); have hcz284_0 : w283.cell? ⟨gb270, 0, none⟩ = some (.int .i64 t267) := (blk_cell BK270.out 0).trans rfl; have hcz284_1 : w283.cell? ⟨gb270, 1, none⟩ = some (.int .i64 t268) := (blk_cell BK270.out 1).trans rfl; have hfz284_0 := blk_frozen BK270.out 0; have hfz284_1 := blk_frozen BK270.out 1; have hcz285_0 : w283.cell? ⟨gb269, 0, none⟩ = some (.int .i64 t265) := (blk_cell BK269.out 0).trans rfl; have hcz285_1 : w283.cell? ⟨gb269, 1, none⟩ = some (.int .i64 t266) := (blk_cell BK269.out 1).trans rfl; have hfz285_0 := blk_frozen BK269.out 0; have hfz285_1 := blk_frozen BK269.out 1) | (go_at_call 42; (with_reducible refine (impl_BeforePoint.calls t267 t268 t265 t266 false _ A249.out).mono ?_); rintro e w286 ⟨rfl, hb⟩; replace BK258 := mB BK258 hb; replace BK259 := mB BK259 hb; replace BK260 := mB BK260 hb; replace BK269 := mB BK269 hb; replace BK270 := mB BK270 hb; replace BK279 := mB BK279 hb; replace BK283 := mB BK283 hb; replace HB := sB7 HB hb GE258 GE259 GE260 GE269 GE270 GE279 GE283; (try clear hb); (try clear hb2); (try clear hk); (try clear hi); have hcz287_0 : w286.cell? ⟨gb269, 0, none⟩ = some (.int .i64 t265) := (blk_cell BK269.out 0).trans rfl; have hcz287_1 : w286.cell? ⟨gb269, 1, none⟩ = some (.int .i64 t266) := (blk_cell BK269.out 1).trans rfl; have hfz287_0 := blk_frozen BK269.out 0; have hfz287_1 := blk_frozen BK269.out 1; have hcz288_0 : w286.cell? ⟨gb270, 0, none⟩ = some (.int .i64 t267) := (blk_cell BK270.out 0).trans rfl; have hcz288_1 : w286.cell? ⟨gb270, 1, none⟩ = some (.int .i64 t268) := (blk_cell BK270.out 1).trans rfl; have hfz288_0 := blk_frozen BK270.out 0; have hfz288_1 := blk_frozen BK270.out 1) | (go_at_call 42; (with_reducible refine (impl_BeforePoint.calls t265 t266 t267 t268 true _ A268.out).mono ?_); rintro e w289 ⟨rfl, hb⟩; replace BK258 := mB BK258 hb; replace BK259 := mB BK259 hb; replace BK260 := mB BK260 hb; replace BK269 := mB BK269 hb; replace BK270 := mB BK270 hb; replace BK279 := mB BK279 hb; replace BK283 := mB BK283 hb; replace HB := sB7 HB hb GE258 GE259 GE260 GE269 GE270 GE279 GE283; (try clear hb); (try clear hb2); (try clear hk); (try clear hi)))
             go_ret
             exact ⟨by first | rfl | (simp [errW_none, errW_some] <;> rfl) | (simp [*, errW_none, errW_some] <;> rfl), by repeat (first | (with_reducible first | exact HB.out | apply below_alloc | apply pw_below_drewN | apply below_drew1 | refine below_set ?_ GE258.out | refine below_set ?_ GE259.out | refine below_set ?_ GE260.out | refine below_set ?_ GE269.out | refine below_set ?_ GE270.out | refine below_set ?_ GE279.out | refine below_set ?_ GE283.out) | exact HB.out)⟩
            ·replace c269 := Bool.eq_false_iff.mpr c269
             subst c269
             exact absurd (A247.out.symm.trans A268.out) (by decide)
          ·replace c248 := Bool.eq_false_iff.mpr c248
           subst c248
           have H1 : ((impl_BeforePoint.f t265 t266 t267 t268).bind fun t292 => (if t292 = true then (some true) else ((impl_BeforePoint.f t267 t268 t265 t266).bind fun t293 => (if t293 = true then (some true) else (some (t265 == t267 && (t266 == t268))))))) = some r := by rw [if_neg (show ¬ (false = true) by decide)] at H; exact H
           clear H
           have H := H1
           clear H1
           replace H := Option.bind_eq_some_iff.mp H
           obtain ⟨t292, A3400, H⟩ := H
           replace H : (if t292 = true then (some true) else ((impl_BeforePoint.f t267 t268 t265 t266).bind fun t293 => (if t293 = true then (some true) else (some (t265 == t267 && (t266 == t268)))))) = some r := H
           have A340 := Aside0.mk A3400
           clear A3400
           by_cases c341 : t292 = true
           ·subst c341
            have H1 : (some true) = some r := by rw [if_pos rfl] at H; exact H
            clear H
            have H := H1
            clear H1
            obtain rfl := Option.some.inj H
            have hnb342 := NB269_258.out
            have hnc342 := NB258_269.out
            have hnb343 := NB269_259.out
            have hnc343 := NB259_269.out
            have hnb344 := NB269_260.out
            have hnc344 := NB260_269.out
            have hnb345 := NB269_270.out
            have hnc345 := NB270_269.out
            have hnb346 := NB269_279.out
            have hnc346 := NB279_269.out
            have hnb347 := NB269_283.out
            have hnc347 := NB283_269.out
            have hcz348_0 : wc.cell? ⟨gb269, 0, none⟩ = some (.int .i64 t265) := (blk_cell BK269.out 0).trans rfl
            have hcz348_1 : wc.cell? ⟨gb269, 1, none⟩ = some (.int .i64 t266) := (blk_cell BK269.out 1).trans rfl
            have hfz348_0 := blk_frozen BK269.out 0
            have hfz348_1 := blk_frozen BK269.out 1
            have hnb349 := NB270_258.out
            have hnc349 := NB258_270.out
            have hnb350 := NB270_259.out
            have hnc350 := NB259_270.out
            have hnb351 := NB270_260.out
            have hnc351 := NB260_270.out
            have hnb352 := NB270_279.out
            have hnc352 := NB279_270.out
            have hnb353 := NB270_283.out
            have hnc353 := NB283_270.out
            have hcz354_0 : wc.cell? ⟨gb270, 0, none⟩ = some (.int .i64 t267) := (blk_cell BK270.out 0).trans rfl
            have hcz354_1 : wc.cell? ⟨gb270, 1, none⟩ = some (.int .i64 t268) := (blk_cell BK270.out 1).trans rfl
            have hfz354_0 := blk_frozen BK270.out 0
            have hfz354_1 := blk_frozen BK270.out 1
            go_wp2_with (first | ((with_reducible refine gate_callee (f := 42) rfl ?_); refine goesL_ (some 134) rfl rfl Try.func42 (by kernel_rfl) rfl #[.agg #[.int .i64 t265, .int .i64 t266], .agg #[.int .i64 t267, .int .i64 t268]] rfl (by (try simp only [List.map_toArray, List.map_cons, List.map_nil]); first | done | rfl | (simp only [List.length_drop, List.length_take]; rfl)) ?_; (with_reducible refine (impl_BeforePoint.calls t265 t266 t267 t268 false _ A247.out).mono ?_); rintro e w355 ⟨rfl, hb⟩; refine ⟨_, rfl, ?_⟩; replace BK258 := mB BK258 hb; replace BK259 := mB BK259 hb; replace BK260 := mB BK260 hb; replace BK269 := mB BK269 hb; replace BK270 := mB BK270 hb; replace BK279 := mB BK279 hb; replace BK283 := mB BK283 hb; replace HB := sB7 HB hb GE258 GE259 GE260 GE269 GE270 GE279 GE283; (try clear hb); (try clear hb2); (try clear hk); (try clear hi); have hcz356_0 : w355.cell? ⟨gb269, 0, none⟩ = some (.int .i64 t265) := (blk_cell BK269.out 0).trans rfl; have hcz356_1 : w355.cell? ⟨gb269, 1, none⟩ = some (.int .i64 t266) := (blk_cell BK269.out 1).trans rfl; have hfz356_0 := blk_frozen BK269.out 0; have hfz356_1 := blk_frozen BK269.out 1; have hcz357_0 : w355.cell? ⟨gb270, 0, none⟩ = some (.int .i64 t267) := (blk_cell BK270.out 0).trans rfl; have hcz357_1 : w355.cell? ⟨gb270, 1, none⟩ = some (.int .i64 t268) := (blk_cell BK270.out 1).trans rfl; have hfz357_0 := blk_frozen BK270.out 0; have hfz357_1 := blk_frozen BK270.out 1) | (go_at_call 42; (with_reducible refine (impl_BeforePoint.calls t265 t266 t267 t268 true _ A340.out).mono ?_); rintro e w358 ⟨rfl, hb⟩; replace BK258 := mB BK258 hb; replace BK259 := mB BK259 hb; replace BK260 := mB BK260 hb; replace BK269 := mB BK269 hb; replace BK270 := mB BK270 hb; replace BK279 := mB BK279 hb; replace BK283 := mB BK283 hb; replace HB := sB7 HB hb GE258 GE259 GE260 GE269 GE270 GE279 GE283; (try clear hb); (try clear hb2); (try clear hk); (try clear hi)))
            go_ret
            exact ⟨by first | rfl | (simp [errW_none, errW_some] <;> rfl) | (simp [*, errW_none, errW_some] <;> rfl), by repeat (first | (with_reducible first | exact HB.out | apply below_alloc | apply pw_below_drewN | apply below_drew1 | refine below_set ?_ GE258.out | refine below_set ?_ GE259.out | refine below_set ?_ GE260.out | refine below_set ?_ GE269.out | refine below_set ?_ GE270.out | refine below_set ?_ GE279.out | refine below_set ?_ GE283.out) | exact HB.out)⟩
           ·replace c341 := Bool.eq_false_iff.mpr c341
            subst c341
            have H1 : ((impl_BeforePoint.f t267 t268 t265 t266).bind fun t293 => (if t293 = true then (some true) else (some (t265 == t267 && (t266 == t268))))) = some r := by rw [if_neg (show ¬ (false = true) by decide)] at H; exact H
            clear H
            have H := H1
            clear H1
            replace H := Option.bind_eq_some_iff.mp H
            obtain ⟨t293, A3590, H⟩ := H
            replace H : (if t293 = true then (some true) else (some (t265 == t267 && (t266 == t268)))) = some r := H
            have A359 := Aside0.mk A3590
            clear A3590
            by_cases c360 : t293 = true
            ·subst c360
             have H1 : (some true) = some r := by rw [if_pos rfl] at H; exact H
             clear H
             have H := H1
             clear H1
             obtain rfl := Option.some.inj H
             have hnb361 := NB269_258.out
             have hnc361 := NB258_269.out
             have hnb362 := NB269_259.out
             have hnc362 := NB259_269.out
             have hnb363 := NB269_260.out
             have hnc363 := NB260_269.out
             have hnb364 := NB269_270.out
             have hnc364 := NB270_269.out
             have hnb365 := NB269_279.out
             have hnc365 := NB279_269.out
             have hnb366 := NB269_283.out
             have hnc366 := NB283_269.out
             have hcz367_0 : wc.cell? ⟨gb269, 0, none⟩ = some (.int .i64 t265) := (blk_cell BK269.out 0).trans rfl
             have hcz367_1 : wc.cell? ⟨gb269, 1, none⟩ = some (.int .i64 t266) := (blk_cell BK269.out 1).trans rfl
             have hfz367_0 := blk_frozen BK269.out 0
             have hfz367_1 := blk_frozen BK269.out 1
             have hnb368 := NB270_258.out
             have hnc368 := NB258_270.out
             have hnb369 := NB270_259.out
             have hnc369 := NB259_270.out
             have hnb370 := NB270_260.out
             have hnc370 := NB260_270.out
             have hnb371 := NB270_279.out
             have hnc371 := NB279_270.out
             have hnb372 := NB270_283.out
             have hnc372 := NB283_270.out
             have hcz373_0 : wc.cell? ⟨gb270, 0, none⟩ = some (.int .i64 t267) := (blk_cell BK270.out 0).trans rfl
             have hcz373_1 : wc.cell? ⟨gb270, 1, none⟩ = some (.int .i64 t268) := (blk_cell BK270.out 1).trans rfl
             have hfz373_0 := blk_frozen BK270.out 0
             have hfz373_1 := blk_frozen BK270.out 1
             go_wp2_with (first | ((with_reducible refine gate_callee (f := 42) rfl ?_); refine goesL_ (some 134) rfl rfl Try.func42 (by kernel_rfl) rfl #[.agg #[.int .i64 t265, .int .i64 t266], .agg #[.int .i64 t267, .int .i64 t268]] rfl (by (try simp only [List.map_toArray, List.map_cons, List.map_nil]); first | done | rfl | (simp only [List.length_drop, List.length_take]; rfl)) ?_; (with_reducible refine (impl_BeforePoint.calls t265 t266 t267 t268 false _ A247.out).mono ?_); rintro e w374 ⟨rfl, hb⟩; refine ⟨_, rfl, ?_⟩; replace BK258 := mB BK258 hb; replace BK259 := mB BK259 hb; replace BK260 := mB BK260 hb; replace BK269 := mB BK269 hb; replace BK270 := mB BK270 hb; replace BK279 := mB BK279 hb; replace BK283 := mB BK283 hb; replace HB := sB7 HB hb GE258 GE259 GE260 GE269 GE270 GE279 GE283; (try clear hb); (try clear hb2); (try clear hk); (try clear hi); have hcz375_0 : w374.cell? ⟨gb269, 0, none⟩ = some (.int .i64 t265) := (blk_cell BK269.out 0).trans rfl; have hcz375_1 : w374.cell? ⟨gb269, 1, none⟩ = some (.int .i64 t266) := (blk_cell BK269.out 1).trans rfl; have hfz375_0 := blk_frozen BK269.out 0; have hfz375_1 := blk_frozen BK269.out 1; have hcz376_0 : w374.cell? ⟨gb270, 0, none⟩ = some (.int .i64 t267) := (blk_cell BK270.out 0).trans rfl; have hcz376_1 : w374.cell? ⟨gb270, 1, none⟩ = some (.int .i64 t268) := (blk_cell BK270.out 1).trans rfl; have hfz376_0 := blk_frozen BK270.out 0; have hfz376_1 := blk_frozen BK270.out 1) | (go_at_call 42; (with_reducible refine (impl_BeforePoint.calls t265 t266 t267 t268 false _ A340.out).mono ?_); rintro e w377 ⟨rfl, hb⟩; replace BK258 := mB BK258 hb; replace BK259 := mB BK259 hb; replace BK260 := mB BK260 hb; replace BK269 := mB BK269 hb; replace BK270 := mB BK270 hb; replace BK279 := mB BK279 hb; replace BK283 := mB BK283 hb; replace HB := sB7 HB hb GE258 GE259 GE260 GE269 GE270 GE279 GE283; (try clear hb); (try clear hb2); (try clear hk); (try clear hi); have hcz378_0 : w377.cell? ⟨gb270, 0, none⟩ = some (.int .i64 t267) := (blk_cell BK270.out 0).trans rfl; have hcz378_1 : w377.cell? ⟨gb270, 1, none⟩ = some (.int .i64 t268) := (blk_cell BK270.out 1).trans rfl; have hfz378_0 := blk_frozen BK270.out 0; have hfz378_1 := blk_frozen BK270.out 1; have hcz379_0 : w377.cell? ⟨gb269, 0, none⟩ = some (.int .i64 t265) := (blk_cell BK269.out 0).trans rfl; have hcz379_1 : w377.cell? ⟨gb269, 1, none⟩ = some (.int .i64 t266) := (blk_cell BK269.out 1).trans rfl; have hfz379_0 := blk_frozen BK269.out 0; have hfz379_1 := blk_frozen BK269.out 1) | (go_at_call 42; (with_reducible refine (impl_BeforePoint.calls t267 t268 t265 t266 true _ A359.out).mono ?_); rintro e w380 ⟨rfl, hb⟩; replace BK258 := mB BK258 hb; replace BK259 := mB BK259 hb; replace BK260 := mB BK260 hb; replace BK269 := mB BK269 hb; replace BK270 := mB BK270 hb; replace BK279 := mB BK279 hb; replace BK283 := mB BK283 hb; replace HB := sB7 HB hb GE258 GE259 GE260 GE269 GE270 GE279 GE283; (try clear hb); (try clear hb2); (try clear hk); (try clear hi)))
             go_ret
             exact ⟨by first | rfl | (simp [errW_none, errW_some] <;> rfl) | (simp [*, errW_none, errW_some] <;> rfl), by repeat (first | (with_reducible first | exact HB.out | apply below_alloc | apply pw_below_drewN | apply below_drew1 | refine below_set ?_ GE258.out | refine below_set ?_ GE259.out | refine below_set ?_ GE260.out | refine below_set ?_ GE269.out | refine below_set ?_ GE270.out | refine below_set ?_ GE279.out | refine below_set ?_ GE283.out) | exact HB.out)⟩
            ·replace c360 := Bool.eq_false_iff.mpr c360
             subst c360
             have H1 : (some (t265 == t267 && (t266 == t268))) = some r := by rw [if_neg (show ¬ (false = true) by decide)] at H; exact H
             clear H
             have H := H1
             clear H1
             obtain rfl := Option.some.inj H
             have hnb381 := NB269_258.out
             have hnc381 := NB258_269.out
             have hnb382 := NB269_259.out
             have hnc382 := NB259_269.out
             have hnb383 := NB269_260.out
             have hnc383 := NB260_269.out
             have hnb384 := NB269_270.out
             have hnc384 := NB270_269.out
             have hnb385 := NB269_279.out
             have hnc385 := NB279_269.out
             have hnb386 := NB269_283.out
             have hnc386 := NB283_269.out
             have hcz387_0 : wc.cell? ⟨gb269, 0, none⟩ = some (.int .i64 t265) := (blk_cell BK269.out 0).trans rfl
             have hcz387_1 : wc.cell? ⟨gb269, 1, none⟩ = some (.int .i64 t266) := (blk_cell BK269.out 1).trans rfl
             have hfz387_0 := blk_frozen BK269.out 0
             have hfz387_1 := blk_frozen BK269.out 1
             have hnb388 := NB270_258.out
             have hnc388 := NB258_270.out
             have hnb389 := NB270_259.out
             have hnc389 := NB259_270.out
             have hnb390 := NB270_260.out
             have hnc390 := NB260_270.out
             have hnb391 := NB270_279.out
             have hnc391 := NB279_270.out
             have hnb392 := NB270_283.out
             have hnc392 := NB283_270.out
             have hcz393_0 : wc.cell? ⟨gb270, 0, none⟩ = some (.int .i64 t267) := (blk_cell BK270.out 0).trans rfl
             have hcz393_1 : wc.cell? ⟨gb270, 1, none⟩ = some (.int .i64 t268) := (blk_cell BK270.out 1).trans rfl
             have hfz393_0 := blk_frozen BK270.out 0
             have hfz393_1 := blk_frozen BK270.out 1
             go_wp2_with (first | ((with_reducible refine gate_callee (f := 42) rfl ?_); refine goesL_ (some 134) rfl rfl Try.func42 (by kernel_rfl) rfl #[.agg #[.int .i64 t265, .int .i64 t266], .agg #[.int .i64 t267, .int .i64 t268]] rfl (by (try simp only [List.map_toArray, List.map_cons, List.map_nil]); first | done | rfl | (simp only [List.length_drop, List.length_take]; rfl)) ?_; (with_reducible refine (impl_BeforePoint.calls t265 t266 t267 t268 false _ A247.out).mono ?_); rintro e w394 ⟨rfl, hb⟩; refine ⟨_, rfl, ?_⟩; replace BK258 := mB BK258 hb; replace BK259 := mB BK259 hb; replace BK260 := mB BK260 hb; replace BK269 := mB BK269 hb; replace BK270 := mB BK270 hb; replace BK279 := mB BK279 hb; replace BK283 := mB BK283 hb; replace HB := sB7 HB hb GE258 GE259 GE260 GE269 GE270 GE279 GE283; (try clear hb); (try clear hb2); (try clear hk); (try clear hi); have hcz395_0 : w394.cell? ⟨gb269, 0, none⟩ = some (.int .i64 t265) := (blk_cell BK269.out 0).trans rfl; have hcz395_1 : w394.cell? ⟨gb269, 1, none⟩ = some (.int .i64 t266) := (blk_cell BK269.out 1).trans rfl; have hfz395_0 := blk_frozen BK269.out 0; have hfz395_1 := blk_frozen BK269.out 1; have hcz396_0 : w394.cell? ⟨gb270, 0, none⟩ = some (.int .i64 t267) := (blk_cell BK270.out 0).trans rfl; have hcz396_1 : w394.cell? ⟨gb270, 1, none⟩ = some (.int .i64 t268) := (blk_cell BK270.out 1).trans rfl; have hfz396_0 := blk_frozen BK270.out 0; have hfz396_1 := blk_frozen BK270.out 1) | (go_at_call 42; (with_reducible refine (impl_BeforePoint.calls t265 t266 t267 t268 false _ A340.out).mono ?_); rintro e w397 ⟨rfl, hb⟩; replace BK258 := mB BK258 hb; replace BK259 := mB BK259 hb; replace BK260 := mB BK260 hb; replace BK269 := mB BK269 hb; replace BK270 := mB BK270 hb; replace BK279 := mB BK279 hb; replace BK283 := mB BK283 hb; replace HB := sB7 HB hb GE258 GE259 GE260 GE269 GE270 GE279 GE283; (try clear hb); (try clear hb2); (try clear hk); (try clear hi); have hcz398_0 : w397.cell? ⟨gb270, 0, none⟩ = some (.int .i64 t267) := (blk_cell BK270.out 0).trans rfl; have hcz398_1 : w397.cell? ⟨gb270, 1, none⟩ = some (.int .i64 t268) := (blk_cell BK270.out 1).trans rfl; have hfz398_0 := blk_frozen BK270.out 0; have hfz398_1 := blk_frozen BK270.out 1; have hcz399_0 : w397.cell? ⟨gb269, 0, none⟩ = some (.int .i64 t265) := (blk_cell BK269.out 0).trans rfl; have hcz399_1 : w397.cell? ⟨gb269, 1, none⟩ = some (.int .i64 t266) := (blk_cell BK269.out 1).trans rfl; have hfz399_0 := blk_frozen BK269.out 0; have hfz399_1 := blk_frozen BK269.out 1) | (go_at_call 42; (with_reducible refine (impl_BeforePoint.calls t267 t268 t265 t266 false _ A359.out).mono ?_); rintro e w400 ⟨rfl, hb⟩; replace BK258 := mB BK258 hb; replace BK259 := mB BK259 hb; replace BK260 := mB BK260 hb; replace BK269 := mB BK269 hb; replace BK270 := mB BK270 hb; replace BK279 := mB BK279 hb; replace BK283 := mB BK283 hb; replace HB := sB7 HB hb GE258 GE259 GE260 GE269 GE270 GE279 GE283; (try clear hb); (try clear hb2); (try clear hk); (try clear hi); have hcz401_0 : w400.cell? ⟨gb269, 0, none⟩ = some (.int .i64 t265) := (blk_cell BK269.out 0).trans rfl; have hcz401_1 : w400.cell? ⟨gb269, 1, none⟩ = some (.int .i64 t266) := (blk_cell BK269.out 1).trans rfl; have hfz401_0 := blk_frozen BK269.out 0; have hfz401_1 := blk_frozen BK269.out 1; have hcz402_0 : w400.cell? ⟨gb270, 0, none⟩ = some (.int .i64 t267) := (blk_cell BK270.out 0).trans rfl; have hcz402_1 : w400.cell? ⟨gb270, 1, none⟩ = some (.int .i64 t268) := (blk_cell BK270.out 1).trans rfl; have hfz402_0 := blk_frozen BK270.out 0; have hfz402_1 := blk_frozen BK270.out 1))
             go_ret
             exact ⟨by first | rfl | (simp [errW_none, errW_some] <;> rfl) | (simp [*, errW_none, errW_some] <;> rfl), by repeat (first | (with_reducible first | exact HB.out | apply below_alloc | apply pw_below_drewN | apply below_drew1 | refine below_set ?_ GE258.out | refine below_set ?_ GE259.out | refine below_set ?_ GE260.out | refine below_set ?_ GE269.out | refine below_set ?_ GE270.out | refine below_set ?_ GE279.out | refine below_set ?_ GE283.out) | exact HB.out)⟩

/-- THE ONE PURE STATEMENT of laws_FnPoints: yours. -/
def laws_FnPoints.Pure : Prop := ∀ (l0 : List Int), l0.length ≤ maxLen → l0.length * 1 ≤ 140737488351232 → (∀ x ∈ l0, (Lit.int .u8 x).wf = true) → ∃ k, laws_FnPoints.f k l0 = some true
theorem laws_FnPoints.walk (P : laws_FnPoints.Pure) (a0 : Option Addr) (len0 cap0 : Nat) (z0 : List Int) (w : World) (w0 : (a0 = none ∧ len0 = 0 ∧ cap0 = 0 ∧ z0 = []) ∨ ∃ x, a0 = some x ∧ len0 ≤ cap0 ∧ cap0 ≤ maxLen ∧ z0.length = cap0 ∧ (∀ i, i < z0.length → w.cell? (x.add i) = some (.int .u8 (z0.getD i 0))) ∧ ∀ n ∈ z0, (Lit.int .u8 n).wf = true) (y0 : len0 * 1 ≤ 140737488351232) :
  Calls Try.prog 7 #[.slice a0 len0 cap0] w fun e w' => e = .returned (.bool true) ∧ Below w.heap.size w w' := by
 obtain ⟨l0, rfl, hr0, hm0, hw0, hc0⟩ := ReadsInt.ofRowC w0
 obtain ⟨k, h⟩ := P l0 hm0 y0 hw0
 refine (laws_FnPoints.calls k _ _ l0 true w (Kd.C_of_reads (d := (0 : Int)) (h1 := fun _ => rfl) hr0) hc0 h).mono ?_
 rintro e w' ⟨rfl, hd⟩
 exact ⟨rfl, hd⟩

end Go.Proofs.Ytelngjhdpbfifaa.PFnPoints
