/- The program's SideOf answers as the reference's, for all three points, valid or not. -/
import Derived.Test.YtjejfhjkilhbbaaPFnExactSideOfx2
import Derived.Test.YtjejfhjkilhbbaaBase
namespace Go.Proofs.Ytjejfhjkilhbbaa.Pure
open Go Go.RowKit Go.Proofs.Ytjejfhjkilhbbaa.PFnExactSideOf Go.Proofs.YtjejfhjkilhbbaaW.PrintWords Go.Proofs.YtjejfhjkilhbbaaW.PrintLast Go.Proofs.YtjejfhjkilhbbaaW.PrintMore Go.Proofs.Ytjejfhjkilhbbaa.Base
set_option linter.unusedVariables false
set_option linter.unusedSimpArgs false
theorem spec_l1In.eq (a b c : Int) : spec_l1In.f a b c = some (decide (b ≤ a ∧ a ≤ c)) := by
  unfold spec_l1In.f
  by_cases h : b ≤ a
  · rw [if_pos h]; simp [h]
  · rw [if_neg h]; simp [h]
theorem spec_IsPoint.eq (x y : Int) : spec_IsPoint.f x y = some (isPt x y) := isPt_bind x y (spec_l1In.eq ..) (spec_l1In.eq ..)
theorem spec_l4Cross.eq (a b c d e f : Int) : spec_l4Cross.f a b c d e f = some (crossW a b c d e f) := rfl
theorem spec_SideOf.eq (k : Nat) (a b c d e f : Int) : spec_SideOf.f (k + 1) a b c d e f = some (sideOf a b c d e f) := by
  unfold spec_SideOf.f sideOf
  rw [spec_IsPoint.eq, spec_IsPoint.eq, spec_IsPoint.eq]
  cases isPt a b <;> cases isPt c d <;> cases isPt e f <;> simp [spec_SideOf.j0, spec_l4Cross.eq]
  generalize crossW a b c d e f = z
  by_cases h : 0 < z
  · rw [if_pos h, if_neg (by omega), if_pos h]
  · rw [if_neg h]
    by_cases h2 : z < 0
    · rw [if_pos h2, if_pos h2]
    · rw [if_neg h2, if_neg h2, if_neg h]
theorem impl_InRange.eq (a b c : Int) : impl_InRange.f a b c = some (decide (b ≤ a ∧ a ≤ c)) := by
  unfold impl_InRange.f
  by_cases h : b ≤ a
  · rw [if_pos h]; simp [h]
  · rw [if_neg h]; simp [h]
theorem impl_IsPoint.eq (x y : Int) : impl_IsPoint.f x y = some (isPt x y) := isPt_bind x y (impl_InRange.eq ..) (impl_InRange.eq ..)
theorem cmp_Compare_int.eq (a b : Int) : cmp_Compare_int.f a b = some (if a < b then -1 else if a > b then 1 else 0) := by
  unfold cmp_Compare_int.f cmp_isNaN_int.f
  simp
  split
  · rfl
  · split <;> rfl
theorem impl_cross.eq (a b c d e f : Int) : impl_cross.f a b c d e f = some (crossW a b c d e f) := rfl
theorem impl_SideOf.eq (k : Nat) (a b c d e f : Int) : impl_SideOf.f (k + 1) a b c d e f = some (sideOf a b c d e f) := by
  unfold impl_SideOf.f sideOf
  rw [impl_IsPoint.eq, impl_IsPoint.eq, impl_IsPoint.eq]
  cases isPt a b <;> cases isPt c d <;> cases isPt e f <;> simp [impl_SideOf.j0, impl_cross.eq, cmp_Compare_int.eq]
theorem FnExactSideOf (a b c d e f : Int) (_wa : (Lit.int .i64 a).wf = true) (_wb : (Lit.int .i64 b).wf = true) (_wc : (Lit.int .i64 c).wf = true) (_wd : (Lit.int .i64 d).wf = true) (_we : (Lit.int .i64 e).wf = true) (_wf : (Lit.int .i64 f).wf = true) : ∃ k, laws_FnExactSideOf.f k a b c d e f = some true := by
  refine ⟨1, ?_⟩
  unfold laws_FnExactSideOf.f laws_toPoint.f
  simp only [Option.bind_some]
  exact agree_int (spec_SideOf.eq 0 a b c d e f) (impl_SideOf.eq 0 a b c d e f)

end Go.Proofs.Ytjejfhjkilhbbaa.Pure
