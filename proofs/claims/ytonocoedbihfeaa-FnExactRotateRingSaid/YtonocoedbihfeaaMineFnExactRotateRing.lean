/- The row of FnExactRotateRing: called with any arguments that read as data, the law returns true and leaves every argument as it was. No condition. -/
import Derived.Test.YtonocoedbihfeaaRows
import Derived.Test.YtonocoedbihfeaaQFnExactRotateRingx2
import Derived.Test.YtonocoedbihfeaaPureFnExactRotateRing
import Derived.Test.YtonocoedbihfeaaArg
import Derived.WalkKit
import Derived.ProofKit
import Derived.OpenShut
import Derived.ShutString
import Derived.ChangeOld
import Derived.Below
import Derived.SizedLaws
import Derived.Carry
namespace Go.Proofs.Ytonocoedbihfeaa.fnExactRotateRing
open Go.ChangeShapes Go.WideShapes Go.ChangeAt Go.RowKit Go.Proofs.Ytonocoedbihfeaa.Arg Go.Proofs.YtonocoedbihfeaaW.PrintWords
set_option linter.unusedVariables false
theorem own : ownKnob Try.prog.godebug = none := by kernel_rfl
theorem lay : laidOutB Try.prog = true := by kernel_rfl
/-- The slice of points, as the contract reads it. -/
theorem reads {w : World} {A : Option Addr} {ps : List (Int × Int)} (hb : ps.length ≤ 9223372036854775807) (hc : 0 < ps.length → ∃ ad, A = some ad ∧ ∀ (j : Nat) (q : Int × Int), ps[j]? = some q → w.cell? (ad.add (j * 2)) = some (.int .i64 q.1) ∧ w.cell? (ad.add (j * 2 + 1)) = some (.int .i64 q.2)) :
    ∃ l : List PFnExactRotateRing.S39, ps.length = l.length ∧ Kd.C PFnExactRotateRing.k39 w A l.length l := by
  refine ⟨ps.map fun q => ⟨q.1, q.2⟩, by simp, by simp, by simpa using hb, fun hn => ?_⟩
  obtain ⟨ad, e, h⟩ := hc (by simpa using hn)
  refine ⟨ad, e, fun j p hj => ?_⟩
  simp only [List.getElem?_map, Option.map_eq_some_iff] at hj
  obtain ⟨q, hq, rfl⟩ := hj
  obtain ⟨h0, h1⟩ := h j q hq
  refine ⟨[.int .i64 q.1, .int .i64 q.2], rfl, PFnExactRotateRing.k39_mk w ⟨q.1, q.2⟩, fun i u hu => ?_⟩
  match i, hu with
  | 0, hu => cases hu; exact h0
  | 1, hu => cases hu; exact h1
set_option maxRecDepth 100000 in
theorem lifted (os : Os) (started : os.Started) (H : Type) (enc : TypeId × Value → H) :
    ReturnsInHanded {} Try.checked os 4 .any (Rows.fnExactRotateRingSpec.pre6 enc Try.prog Try.f4 Rows.fnExactRotateRingRow.domain false) (Rows.fnExactRotateRingSpec.post enc Try.prog Try.f4 false true false false) := by
  refine returnsInHanded_of_change_sized (C := Try.checked) own started (by kernel_rfl) Try.func4
    (ChangeSpec.witness6 (enc := enc) (C := Try.checked) false ⟨#[], #[.slice none 0 0, .int .i64 0], []⟩ 8 (by kernel_rfl) (by kernel_rfl) (by kernel_rfl) (by kernel_rfl)) ?_
  intro W base args ds gs before hval0 hW hcnd hsz0 _
  have hsz : (DataW.weightsEach Try.prog (Try.f4.params.toList ++ Rows.fnExactRotateRingSpec.plain.varTypes Try.prog) (ds ++ gs)).all (· ≤ reachBytes) = true := hsz0
  have hval : ∀ (j : Nat) t v, Try.f4.params[j]? = some t → args[j]? = some v → Value.okWide Try.prog W .any base t v := hval0
  have hW' := hW
  obtain ⟨p, q, hA0, hV, rfl, hfz, hnd⟩ := hW
  have hA : DataW.TrodAll enc Try.prog W 0 (fun _ => true) true Try.f4.params.toList args.toList ds p := hA0
  rw [Try.params4] at hA hval hsz
  obtain ⟨v0, vs0, d0, ds0, p0, q0, hargs, rfl, rfl, h0, r0⟩ := trodAll_cons hA
  obtain ⟨v1, vs1, d1, ds1, p1, q1, rfl, rfl, rfl, h1, r1⟩ := trodAll_cons r0
  obtain ⟨rfl, rfl, rfl⟩ := trodAll_nil r1
  obtain rfl : args = #[v0, v1] := by cases args; simp_all
  obtain ⟨rfl, rfl⟩ := trodVars_none hV
  have lt0 : ∀ x ∈ p0, x.block < W.heap.size := fun x hx => hW'.lt x (by simp [hx])
  have lt1 : ∀ x ∈ p1, x.block < W.heap.size := fun x hx => hW'.lt x (by simp [hx])
  have k0 := h0
  have k1 := h1
  obtain ⟨A0, c0, ps0, rfl, hc0, hb0, wp0, cell0⟩ := open_points Try.underlying22 Try.underlying39 Try.underlying3 (by kernel_rfl) (hval 0 22 v0 rfl rfl) h0
  obtain ⟨l0, n0, rd0⟩ := reads hb0 cell0
  rw [n0] at k0 hc0 hW' hb0 ⊢
  obtain ⟨a1, rfl, _, _, w1⟩ := open_int Try.underlying3 (hval 1 3 v1 rfl rfl) h1
  clear hA0 hval0 hsz0 hsz
  obtain ⟨k, hk⟩ := Pure.FnExactRotateRing l0 a1 hb0 w1
  --CALL
  refine (PFnExactRotateRing.laws_FnExactRotateRing.calls k A0 c0 l0 a1 true W rd0 hc0 hk).mono fun e W' ⟨he, bel⟩ => ?_
  subst he
  exact ⟨_, rfl, _, _, _, [], _, [], hW', trodAll_mk1 (shut_bool Try.underlying4 _), (trodAll_cons_mk (Below.trod lay (by kernel_rfl) (of_decide_eq_true (by kernel_rfl)) k0 bel lt0) (trodAll_cons_mk (Below.trod lay (by kernel_rfl) (of_decide_eq_true (by kernel_rfl)) k1 bel lt1) trodAll_mk0)), rfl, bel.frame _, fun h => by cases h⟩
theorem over : Rows.fnExactRotateRingRow.holds Try.pinned (OpenSpec.ofChange Rows.fnExactRotateRingSpec) :=
  OpenClaim.holds_of_wide 4 Try.f4 rfl rfl rfl rfl rfl rfl rfl ⟨rfl, rfl, rfl, rfl, rfl⟩ rfl rfl rfl rfl rfl (by kernel_rfl) Try.func4 (by kernel_rfl)
    (of_decide_eq_true (by kernel_rfl)) (by unfold Func.isWrapper; first | (rw [if_pos (by decide +kernel)]; kernel_rfl) | (rw [if_neg (by decide +kernel)]; exact ⟨rfl, rfl⟩))
    (fun os started H enc _ => lifted os started H enc)
theorem proved : Rows.FnExactRotateRingSaid := over
#print axioms proved
end Go.Proofs.Ytonocoedbihfeaa.fnExactRotateRing
namespace Go.Proofs.Ytonocoedbihfeaa
theorem fnExactRotateRing_holds : Rows.FnExactRotateRingSaid := fnExactRotateRing.proved
end Go.Proofs.Ytonocoedbihfeaa
