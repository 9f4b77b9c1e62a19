/- The row of FnExactDeriveFromString: called with any arguments that read as data, the law returns true and leaves every argument as it was. No condition. -/
import Derived.Test.YtppdidoingbgiaaRows
import Derived.Test.YtppdidoingbgiaaPFnExactDeriveFromStringx1
import Derived.Test.YtppdidoingbgiaaPureFnExactDeriveFromString
import Derived.Lib.ConvBytes
import Derived.WalkKit
import Derived.ProofKit
import Derived.OpenShut
import Derived.ShutString
import Derived.ChangeOld
import Derived.Below
import Derived.SizedLaws
namespace Go.Proofs.Ytppdidoingbgiaa.DeriveWalk
open Go Go.RowKit Go.Proofs.YtppdidoingbgiaaW.PrintWords Go.Proofs.YtppdidoingbgiaaW.PrintLast Go.Proofs.YtppdidoingbgiaaW.PrintMore Go.Proofs.Ytppdidoingbgiaa.PFnExactDeriveFromString Go.Proofs.Ytppdidoingbgiaa.Pure
set_option linter.unusedVariables false
set_option linter.unusedSimpArgs false
theorem conv_below {w0 w : World} (e : TypeId) (s : ByteArray) (h : Below w0.heap.size w0 w) : Below w0.heap.size w0 (Lib.bytesWorld w e s) := by
  refine h.trans ⟨?_, ?_, ?_, ?_, fun k hk => Lib.bytesWorld_at_old w e s k (Nat.lt_of_lt_of_le hk h.size)⟩
  · simp [Lib.bytesWorld, World.freeze, World.alloc, World.drew, -World.alloc_eq, -World.drew_eq]
  · simp [Lib.bytesWorld, World.freeze, World.alloc, World.drew, -World.alloc_eq, -World.drew_eq]
  · simp [Lib.bytesWorld, World.freeze, World.alloc, World.drew, -World.alloc_eq, -World.drew_eq]
  · rw [Lib.bytesWorld_size]; omega
theorem conv_reads (w : World) (e : TypeId) (s : ByteArray) (hs : s.size ≤ 1048576) : Kd.C (Kd.int .u8) (Lib.bytesWorld w e s) (some ⟨w.heap.size, 0, none⟩) (bs s).length (bs s) := by
  refine ⟨rfl, by rw [bs_length]; omega, fun _ => ⟨_, rfl, fun j p hp => ⟨[.int .u8 p], rfl, rfl, fun i u hu => ?_⟩⟩⟩
  have hj : j < s.size := by
    rcases Nat.lt_or_ge j (bs s).length with h | h
    · rw [bs_length] at h; exact h
    · rw [List.getElem?_eq_none h] at hp; cases hp
  cases i with
  | succ i => simp at hu
  | zero =>
    have hu' : Value.int .u8 p = u := by simpa using hu
    rw [← hu', bs_getD s hp, add_plain]
    have hc := Lib.bytesWorld_cell w e s j hj
    simpa [Kd.int, Kd.scalar] using hc
set_option maxHeartbeats 8000000 in
set_option maxRecDepth 100000 in
theorem spec_walk (k : Nat) (a0 : Int) (s : ByteArray) (hs : s.size ≤ 1048576) (t : List Int) (n v : Int) (w : World) (A1 : spec_BytesToInts.f k (bs s) = some t) (A2 : spec_KeyedHash.f k a0 t = some n) (A3 : spec_Max.f 1 n = some v) :
    Calls Try.prog 22 #[.int .i64 a0, .string s] w fun e w' => e = .returned (.int .i64 v) ∧ Below w.heap.size w w' := by
  have HB := Aside0.mk (Below.refl w.heap.size w)
  have hq := fun w => Lib.run_convert_string_bytes (P := Try.prog) w 9 32 5 s Try.underlying9 Try.underlying32 Try.underlying5
  simp only [← bs_length] at hq
  go_enter Try.func22, Try.ntmps22
  go_wp2_with (first | ((with_reducible refine gate_callee (f := 24) rfl ?_); refine goesL_ (some 8) rfl rfl Try.func24 (by kernel_rfl) rfl #[.slice (some ⟨w.heap.size, 0, none⟩) (bs s).length (grownCap w (bs s).length 0 5)] rfl (by (try simp only [List.map_toArray, List.map_cons, List.map_nil]); first | done | rfl | (simp only [List.length_drop, List.length_take]; rfl)) ?_; (with_reducible refine (spec_BytesToInts.calls k _ _ (bs s) t _ ?side1 ?side2 A1).mono ?_); (case side1 => exact conv_reads _ _ s hs); (case side2 => exact grownCap_ge _ _ _ _); rintro e w15 ⟨v0, rfl, ho0, hb⟩; refine ⟨_, rfl, ?_⟩; have HO := Aside0.mk ho0; replace HB := Aside0.mk (below_step (conv_below _ _ HB.out) hb); (try clear hb); (try clear ho0); obtain ⟨Ao, co, eo⟩ := Kd.R_slice HO.out; subst eo) | ((with_reducible refine gate_callee (f := 60) rfl ?_); refine goesL_ (some 9) rfl rfl Try.func60 (by kernel_rfl) rfl #[.int .i64 a0, .slice Ao t.length co] rfl (by (try simp only [List.map_toArray, List.map_cons, List.map_nil]); first | done | rfl | (simp only [List.length_drop, List.length_take]; rfl)) ?_; (with_reducible refine (spec_KeyedHash.calls k a0 _ _ t n _ ?side1 ?side2 A2).mono ?_); (case side1 => exact (Kd.R_reads' HO.out).2.2); (case side2 => exact (Kd.R_reads' HO.out).2.1); rintro e w16 ⟨rfl, hb⟩; refine ⟨_, rfl, ?_⟩; replace HB := Aside0.mk (below_step HB.out hb); (try clear hb)) | ((with_reducible refine gate_callee (f := 59) rfl ?_); refine goesL_ (some 10) rfl rfl Try.func59 (by kernel_rfl) rfl #[.int .i64 1, .int .i64 n] rfl (by (try simp only [List.map_toArray, List.map_cons, List.map_nil]); first | done | rfl | (simp only [List.length_drop, List.length_take]; rfl)) ?_; (with_reducible refine (spec_Max.calls 1 n v _ A3).mono ?_); rintro e w' ⟨rfl, ⟨nd, rfl⟩⟩; refine ⟨_, rfl, ?_⟩))
  go_ret
  exact ⟨by first | rfl | (simp [errW_none, errW_some] <;> rfl) | (simp [*, errW_none, errW_some] <;> rfl), by repeat (first | (with_reducible first | exact HB.out | apply below_alloc | apply pw_below_drewN | apply below_drew1) | exact HB.out)⟩
set_option maxHeartbeats 8000000 in
set_option maxRecDepth 100000 in
theorem impl_walk (k : Nat) (a0 : Int) (s : ByteArray) (hs : s.size ≤ 1048576) (t : List Int) (n : Int) (w : World) (A1 : impl_BytesToInts.f k (bs s) = some t) (A2 : impl_KeyedHash.f k a0 t = some n) :
    Calls Try.prog 23 #[.int .i64 a0, .string s] w fun e w' => e = .returned (.int .i64 (if n = 0 then 1 else n)) ∧ Below w.heap.size w w' := by
  have HB := Aside0.mk (Below.refl w.heap.size w)
  have hq := fun w => Lib.run_convert_string_bytes (P := Try.prog) w 9 32 5 s Try.underlying9 Try.underlying32 Try.underlying5
  simp only [← bs_length] at hq
  by_cases c5 : n = 0
  · rw [if_pos c5]
    have c5b0 : (n == 0) = true := beq_iff_eq.mpr c5
    have c5b1 : (n != 0) = false := bne_eq_false_iff_eq.mpr c5
    have c5b2 : decide (n = 0) = true := decide_eq_true c5
    clear c5
    go_enter Try.func23, Try.ntmps23
    go_wp2_with (first | ((with_reducible refine gate_callee (f := 26) rfl ?_); refine goesL_ (some 9) rfl rfl Try.func26 (by kernel_rfl) rfl #[.slice (some ⟨w.heap.size, 0, none⟩) (bs s).length (grownCap w (bs s).length 0 5)] rfl (by (try simp only [List.map_toArray, List.map_cons, List.map_nil]); first | done | rfl | (simp only [List.length_drop, List.length_take]; rfl)) ?_; (with_reducible refine (impl_BytesToInts.calls k _ _ (bs s) t _ ?side1 ?side2 A1).mono ?_); (case side1 => exact conv_reads _ _ s hs); (case side2 => exact grownCap_ge _ _ _ _); rintro e w15 ⟨v0, rfl, ho0, hb⟩; refine ⟨_, rfl, ?_⟩; have HO := Aside0.mk ho0; replace HB := Aside0.mk (below_step (conv_below _ _ HB.out) hb); (try clear hb); (try clear ho0); obtain ⟨Ao, co, eo⟩ := Kd.R_slice HO.out; subst eo) | ((with_reducible refine gate_callee (f := 61) rfl ?_); refine goesL_ (some 10) rfl rfl Try.func61 (by kernel_rfl) rfl #[.int .i64 a0, .slice Ao t.length co] rfl (by (try simp only [List.map_toArray, List.map_cons, List.map_nil]); first | done | rfl | (simp only [List.length_drop, List.length_take]; rfl)) ?_; (with_reducible refine (impl_KeyedHash.calls k a0 _ _ t n _ ?side1 ?side2 A2).mono ?_); (case side1 => exact (Kd.R_reads' HO.out).2.2); (case side2 => exact (Kd.R_reads' HO.out).2.1); rintro e w' ⟨rfl, ⟨nd, rfl⟩⟩; refine ⟨_, rfl, ?_⟩))
    go_ret
    exact ⟨by first | rfl | (simp [errW_none, errW_some] <;> rfl) | (simp [*, errW_none, errW_some] <;> rfl), by repeat (first | (with_reducible first | exact HB.out | apply below_alloc | apply pw_below_drewN | apply below_drew1) | exact HB.out)⟩
  · rw [if_neg c5]
    have c5b0 : (n == 0) = false := beq_eq_false_iff_ne.mpr c5
    have c5b1 : (n != 0) = true := bne_iff_ne.mpr c5
    have c5b2 : decide (n = 0) = false := decide_eq_false c5
    go_enter Try.func23, Try.ntmps23
    go_wp2_with (first | ((with_reducible refine gate_callee (f := 26) rfl ?_); refine goesL_ (some 9) rfl rfl Try.func26 (by kernel_rfl) rfl #[.slice (some ⟨w.heap.size, 0, none⟩) (bs s).length (grownCap w (bs s).length 0 5)] rfl (by (try simp only [List.map_toArray, List.map_cons, List.map_nil]); first | done | rfl | (simp only [List.length_drop, List.length_take]; rfl)) ?_; (with_reducible refine (impl_BytesToInts.calls k _ _ (bs s) t _ ?side1 ?side2 A1).mono ?_); (case side1 => exact conv_reads _ _ s hs); (case side2 => exact grownCap_ge _ _ _ _); rintro e w15 ⟨v0, rfl, ho0, hb⟩; refine ⟨_, rfl, ?_⟩; have HO := Aside0.mk ho0; replace HB := Aside0.mk (below_step (conv_below _ _ HB.out) hb); (try clear hb); (try clear ho0); obtain ⟨Ao, co, eo⟩ := Kd.R_slice HO.out; subst eo) | ((with_reducible refine gate_callee (f := 61) rfl ?_); refine goesL_ (some 10) rfl rfl Try.func61 (by kernel_rfl) rfl #[.int .i64 a0, .slice Ao t.length co] rfl (by (try simp only [List.map_toArray, List.map_cons, List.map_nil]); first | done | rfl | (simp only [List.length_drop, List.length_take]; rfl)) ?_; (with_reducible refine (impl_KeyedHash.calls k a0 _ _ t n _ ?side1 ?side2 A2).mono ?_); (case side1 => exact (Kd.R_reads' HO.out).2.2); (case side2 => exact (Kd.R_reads' HO.out).2.1); rintro e w' ⟨rfl, ⟨nd, rfl⟩⟩; refine ⟨_, rfl, ?_⟩))
    go_ret
    exact ⟨by first | rfl | (simp [errW_none, errW_some] <;> rfl) | (simp [*, errW_none, errW_some] <;> rfl), by repeat (first | (with_reducible first | exact HB.out | apply below_alloc | apply pw_below_drewN | apply below_drew1) | exact HB.out)⟩
set_option maxHeartbeats 8000000 in
set_option maxRecDepth 100000 in
theorem walk (a0 : Int) (s : ByteArray) (w : World) : Calls Try.prog 5 #[.int .i64 a0, .string s] w fun e w' => e = .returned (.bool true) ∧ Below w.heap.size w w' := by
  have HB := Aside0.mk (Below.refl w.heap.size w)
  by_cases c2 : (s.size : Int) > 1048576
  · have c2b0 : decide (1048576 < (s.size : Int)) = true := decide_eq_true c2
    have c2b1 : decide (1048576 < s.size) = true := decide_eq_true (by omega)
    clear c2
    go_enter Try.func5, Try.ntmps5
    go_wp2
    go_ret
    exact ⟨by first | rfl | (simp [errW_none, errW_some] <;> rfl) | (simp [*, errW_none, errW_some] <;> rfl), by repeat (first | (with_reducible first | exact HB.out | apply below_alloc | apply pw_below_drewN | apply below_drew1) | exact HB.out)⟩
  · have hs : s.size ≤ 1048576 := by omega
    have c2b0 : decide (1048576 < (s.size : Int)) = false := decide_eq_false c2
    have c2b1 : decide (1048576 < s.size) = false := decide_eq_false (by omega)
    clear c2
    obtain ⟨k, t, n, v, h1, h2, h3, h4, h5, h6⟩ := Pure.same a0 s hs
    have hI : ∀ w, Calls Try.prog 23 #[.int .i64 a0, .string s] w fun e w' => e = .returned (.int .i64 v) ∧ Below w.heap.size w w' := by
      intro w
      rw [h6]
      exact impl_walk k a0 s hs t n w h4 h5
    clear h6
    have cv : (v == v) = true := beq_iff_eq.mpr rfl
    have cw : (v != v) = false := bne_eq_false_iff_eq.mpr rfl
    go_enter Try.func5, Try.ntmps5
    go_wp2_with (first | ((with_reducible refine gate_callee (f := 22) rfl ?_); refine goesL_ (some 12) rfl rfl Try.func22 (by kernel_rfl) rfl #[.int .i64 a0, .string s] rfl (by (try simp only [List.map_toArray, List.map_cons, List.map_nil]); first | done | rfl) ?_; (with_reducible refine (spec_walk k a0 s hs t n v _ h1 h2 h3).mono ?_); rintro e w7 ⟨rfl, hb⟩; refine ⟨_, rfl, ?_⟩; replace HB := Aside0.mk (below_step HB.out hb); (try clear hb)) | ((with_reducible refine gate_callee (f := 23) rfl ?_); refine goesL_ (some 15) rfl rfl Try.func23 (by kernel_rfl) rfl #[.int .i64 a0, .string s] rfl (by (try simp only [List.map_toArray, List.map_cons, List.map_nil]); first | done | rfl) ?_; (with_reducible refine (hI _).mono ?_); rintro e w8 ⟨rfl, hb⟩; refine ⟨_, rfl, ?_⟩; replace HB := Aside0.mk (below_step HB.out hb); (try clear hb)))
    go_ret
    exact ⟨by first | rfl | (simp [errW_none, errW_some] <;> rfl) | (simp [*, errW_none, errW_some] <;> rfl), by repeat (first | (with_reducible first | exact HB.out | apply below_alloc | apply pw_below_drewN | apply below_drew1) | exact HB.out)⟩
end Go.Proofs.Ytppdidoingbgiaa.DeriveWalk
namespace Go.Proofs.Ytppdidoingbgiaa.fnExactDeriveFromString
open Go.ChangeShapes Go.WideShapes Go.ChangeAt Go.RowKit
open Go.ChangeMaps (open_string shut_string)
set_option linter.unusedVariables false
theorem own : ownKnob Try.prog.godebug = none := by kernel_rfl
set_option maxRecDepth 100000 in
theorem lifted (os : Os) (started : os.Started) (H : Type) (enc : TypeId × Value → H) :
    ReturnsInHanded {} Try.checked os 5 .any (Rows.fnExactDeriveFromStringSpec.pre6 enc Try.prog Try.f5 Rows.fnExactDeriveFromStringRow.domain false) (Rows.fnExactDeriveFromStringSpec.post enc Try.prog Try.f5 false true false false) := by
  refine returnsInHanded_of_change_sized (C := Try.checked) own started (by kernel_rfl) Try.func5
    (ChangeSpec.witness6 (enc := enc) (C := Try.checked) false ⟨#[], #[.int .i64 0, .string ByteArray.empty], []⟩ 8 (by kernel_rfl) (by kernel_rfl) (by kernel_rfl) (by kernel_rfl)) ?_
  intro W base args ds gs before hval0 hW hcnd hsz0 _
  have hval : ∀ (j : Nat) t v, Try.f5.params[j]? = some t → args[j]? = some v → Value.okWide Try.prog W .any base t v := hval0
  have hW' := hW
  obtain ⟨p, q, hA0, hV, rfl, hfz, hnd⟩ := hW
  have hA : DataW.TrodAll enc Try.prog W 0 (fun _ => true) true Try.f5.params.toList args.toList ds p := hA0
  rw [Try.params5] at hA hval
  obtain ⟨v0, vs0, d0, ds0, p0, q0, hargs, rfl, rfl, h0, r0⟩ := trodAll_cons hA
  obtain ⟨v1, vs1, d1, ds1, p1, q1, rfl, rfl, rfl, h1, r1⟩ := trodAll_cons r0
  obtain ⟨rfl, rfl, rfl⟩ := trodAll_nil r1
  obtain rfl : args = #[v0, v1] := by cases args; simp_all
  obtain ⟨rfl, rfl⟩ := trodVars_none hV
  obtain ⟨a0, rfl, rfl, rfl, w0⟩ := open_int Try.underlying3 (hval 0 3 v0 rfl rfl) h0
  obtain ⟨a1, rfl, rfl, rfl, y1⟩ := open_string Try.underlying9 (hval 1 9 v1 rfl rfl) h1
  clear hA0 hval0 hsz0
  refine (DeriveWalk.walk a0 a1 W).mono fun e W' ⟨he, bel⟩ => ?_
  subst he
  exact ⟨_, rfl, _, _, _, [], _, [], hW', trodAll_mk1 (shut_bool Try.underlying4 _), (trodAll_cons_mk (shut_int Try.underlying3 w0) (trodAll_cons_mk (shut_string Try.underlying9 y1) trodAll_mk0)), rfl, bel.frame _, fun h => by cases h⟩
theorem over : Rows.fnExactDeriveFromStringRow.holds Try.pinned (OpenSpec.ofChange Rows.fnExactDeriveFromStringSpec) :=
  OpenClaim.holds_of_wide 5 Try.f5 rfl rfl rfl rfl rfl rfl rfl ⟨rfl, rfl, rfl, rfl, rfl⟩ rfl rfl rfl rfl rfl (by kernel_rfl) Try.func5 (by kernel_rfl)
    (of_decide_eq_true (by kernel_rfl)) (by unfold Func.isWrapper; first | (rw [if_pos (by decide +kernel)]; kernel_rfl) | (rw [if_neg (by decide +kernel)]; exact ⟨rfl, rfl⟩))
    (fun os started H enc _ => lifted os started H enc)
theorem proved : Rows.FnExactDeriveFromStringSaid := over
#print axioms proved
end Go.Proofs.Ytppdidoingbgiaa.fnExactDeriveFromString
namespace Go.Proofs.Ytppdidoingbgiaa
/-- The row, under a short name, for the claim. -/
theorem fnExactDeriveFromString_holds : Rows.FnExactDeriveFromStringSaid := fnExactDeriveFromString.proved
end Go.Proofs.Ytppdidoingbgiaa
