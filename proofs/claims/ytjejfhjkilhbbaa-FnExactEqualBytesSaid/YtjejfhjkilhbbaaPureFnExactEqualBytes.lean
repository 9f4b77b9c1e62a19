/- The program's EqualBytes answers as the reference's and leaves both slices as they were, for all two slices of bytes. -/
import Derived.Test.YtjejfhjkilhbbaaPFnExactEqualBytesx1
import Derived.Test.YtjejfhjkilhbbaaBase
import Derived.Test.YtjejfhjkilhbbaaLst
namespace Go.Proofs.Ytjejfhjkilhbbaa.Pure
open Go Go.RowKit Go.Proofs.Ytjejfhjkilhbbaa.PFnExactEqualBytes Go.Proofs.YtjejfhjkilhbbaaW.PrintWords Go.Proofs.YtjejfhjkilhbbaaW.PrintLast Go.Proofs.YtjejfhjkilhbbaaW.PrintMore Go.Proofs.Ytjejfhjkilhbbaa.Base Go.Proofs.Ytjejfhjkilhbbaa.Lst
set_option linter.unusedVariables false
set_option linter.unusedSimpArgs false
theorem laws_toByteS.l0_ok (x0 : List Int) (hn : x0.length ≤ 35184372088832) : ∀ (d k i : Nat) (out : List Int), i + d = x0.length → out.length = x0.length → out.take i = x0.take i → d < k → laws_toByteS.l0 k x0 out (i : Int) = some x0 := by
  intro d
  induction d with
  | zero =>
    intro k i out hi hl ht hk
    obtain ⟨k, rfl⟩ : ∃ m, k = m + 1 := ⟨k - 1, by omega⟩
    simp only [laws_toByteS.l0]
    rw [if_neg (by omega), take_all ht (by omega) (by omega)]
  | succ d ih =>
    intro k i out hi hl ht hk
    obtain ⟨k, rfl⟩ : ∃ m, k = m + 1 := ⟨k - 1, by omega⟩
    simp only [laws_toByteS.l0]
    rw [if_pos (by omega), if_pos (by omega), if_pos (by omega), w64_succ (n := x0.length) (by omega) (by omega)]
    refine ih k (i + 1) _ (by omega) (by simpa using hl) ?_ (by omega)
    have hi' : i < x0.length := by omega
    refine take_set_succ hi' hl ht ?_
    rw [rd_get hi']
    exact List.getElem?_eq_getElem hi'
theorem laws_toByteS.ok (l : List Int) (hn : l.length ≤ 1048576) (k : Nat) (hk : l.length < k) : laws_toByteS.f k l = some l := by
  unfold laws_toByteS.f
  rw [if_pos (by omega), if_pos (by omega)]
  exact laws_toByteS.l0_ok l (by omega) l.length k 0 _ (by omega) (by simp) (by simp) hk
theorem laws_eqByteS.l0_ok (x0 x1 : List Int) (hn : x0.length ≤ 140737488355328) (hl : x0.length = x1.length) : ∀ (d k i : Nat), i + d = x0.length → d < k → laws_eqByteS.l0 k x0 x1 (i : Int) = some (decide (x0.drop i = x1.drop i)) := by
  intro d
  induction d with
  | zero =>
    intro k i hi hk
    obtain ⟨k, rfl⟩ : ∃ m, k = m + 1 := ⟨k - 1, by omega⟩
    simp only [laws_eqByteS.l0]
    rw [if_neg (by omega), List.drop_of_length_le (by omega), List.drop_of_length_le (by omega)]
    simp
  | succ d ih =>
    intro k i hi hk
    obtain ⟨k, rfl⟩ : ∃ m, k = m + 1 := ⟨k - 1, by omega⟩
    simp only [laws_eqByteS.l0]
    rw [if_pos (by omega), if_pos (by omega), if_pos (by omega), rd_drop (xs := x0) (i := i) (by omega), rd_drop (xs := x1) (i := i) (by omega)]
    by_cases h : rd x0 (i : Int) = rd x1 (i : Int)
    · rw [if_pos h, w64_succ (n := x0.length) (by omega) (by omega), ih k (i + 1) (by omega) (by omega)]
      simp [h]
    · rw [if_neg h]
      simp [h]
theorem laws_eqByteS.ok (a b : List Int) (hn : a.length ≤ 140737488355328) (k : Nat) (hk : a.length < k) : laws_eqByteS.f k a b = some (decide (a = b)) := by
  unfold laws_eqByteS.f
  by_cases h : (a.length : Int) = (b.length : Int)
  · rw [if_pos h]
    exact laws_eqByteS.l0_ok a b hn (by omega) a.length k 0 (by omega) hk
  · rw [if_neg h]
    have : a ≠ b := fun e => h (by rw [e])
    simp [this]
theorem laws_eqByteS.same (a : List Int) (hn : a.length ≤ 140737488355328) (k : Nat) (hk : a.length < k) : laws_eqByteS.f k a a = some true := by
  rw [laws_eqByteS.ok a a hn k hk]; simp
theorem FnExactEqualBytes : laws_FnExactEqualBytes.Pure := by
  intro l m _ _ _ _ _ _
  refine ⟨l.length + m.length + 2, ?_⟩
  unfold laws_FnExactEqualBytes.f
  by_cases h : (l.length : Int) > 1048576
  · rw [if_pos h]
  · by_cases h2 : (m.length : Int) > 1048576
    · rw [if_neg h, if_pos h2]
    · rw [if_neg h, if_neg h2, laws_toByteS.ok l (by omega) _ (by omega), laws_toByteS.ok m (by omega) _ (by omega)]
      simp only [Option.bind_some, laws_eqByteS.same l (show l.length ≤ 140737488355328 by omega) _ (show l.length < l.length + m.length + 2 by omega), laws_eqByteS.same m (show m.length ≤ 140737488355328 by omega) _ (show m.length < l.length + m.length + 2 by omega)]
      simp [spec_EqualBytes.f, impl_EqualBytes.f, bytes_Equal.f]

end Go.Proofs.Ytjejfhjkilhbbaa.Pure
