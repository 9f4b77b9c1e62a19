/- The program's MovePoint answers as the reference's, for every point and every step. -/
import Derived.Test.YtjejfhjkilhbbaaPFnExactMovePointx1
import Derived.Test.YtjejfhjkilhbbaaBase
namespace Go.Proofs.Ytjejfhjkilhbbaa.Pure
open Go Go.RowKit Go.Proofs.Ytjejfhjkilhbbaa.PFnExactMovePoint Go.Proofs.YtjejfhjkilhbbaaW.PrintWords Go.Proofs.YtjejfhjkilhbbaaW.PrintLast Go.Proofs.YtjejfhjkilhbbaaW.PrintMore Go.Proofs.Ytjejfhjkilhbbaa.Base
set_option linter.unusedVariables false
set_option linter.unusedSimpArgs false
theorem spec_l1In.eq (a b c : Int) : spec_l1In.f a b c = some (decide (b ≤ a ∧ a ≤ c)) := by
  unfold spec_l1In.f
  by_cases h : b ≤ a
  · rw [if_pos h]; simp [h]
  · rw [if_neg h]; simp [h]
theorem spec_IsPoint.eq (x y : Int) : spec_IsPoint.f x y = some (isPt x y) := isPt_bind x y (spec_l1In.eq ..) (spec_l1In.eq ..)
theorem spec_MovePoint.eq (k : Nat) (a b x y : Int) : spec_MovePoint.f (k + 1) a b x y = some (movePt a b x y) := by
  unfold spec_MovePoint.f movePt
  rw [spec_IsPoint.eq, spec_l1In.eq, spec_l1In.eq]
  by_cases h1 : -1000 ≤ x ∧ x ≤ 1000 <;> by_cases h2 : -1000 ≤ y ∧ y ≤ 1000 <;> cases isPt a b <;> simp [h1, h2, spec_MovePoint.j0, spec_IsPoint.eq]
  split <;> rfl
theorem impl_InRange.eq (a b c : Int) : impl_InRange.f a b c = some (decide (b ≤ a ∧ a ≤ c)) := by
  unfold impl_InRange.f
  by_cases h : b ≤ a
  · rw [if_pos h]; simp [h]
  · rw [if_neg h]; simp [h]
theorem impl_IsPoint.eq (x y : Int) : impl_IsPoint.f x y = some (isPt x y) := isPt_bind x y (impl_InRange.eq ..) (impl_InRange.eq ..)
theorem impl_MovePoint.eq (a b x y : Int) : impl_MovePoint.f a b x y = some (movePt a b x y) := by
  unfold impl_MovePoint.f movePt
  rw [impl_IsPoint.eq, impl_InRange.eq, impl_InRange.eq]
  by_cases h1 : -1000 ≤ x ∧ x ≤ 1000 <;> by_cases h2 : -1000 ≤ y ∧ y ≤ 1000 <;> cases isPt a b <;> simp [h1, h2, impl_IsPoint.eq]
  split <;> rfl
theorem FnExactMovePoint (a b x y : Int) (_wa : (Lit.int .i64 a).wf = true) (_wb : (Lit.int .i64 b).wf = true) (_wx : (Lit.int .i64 x).wf = true) (_wy : (Lit.int .i64 y).wf = true) : ∃ k, laws_FnExactMovePoint.f k a b x y = some true := by
  refine ⟨1, ?_⟩
  unfold laws_FnExactMovePoint.f laws_toPoint.f
  simp only [Option.bind_some]
  rw [spec_MovePoint.eq, impl_MovePoint.eq]
  simp [laws_eqPoint.f]

end Go.Proofs.Ytjejfhjkilhbbaa.Pure
