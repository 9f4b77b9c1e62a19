/- The program's FormatInt answers as the reference's, for every whole number of 64 bits. -/
import Derived.Test.YtonocoedbihfeaaDoorQFnExactFormatIntx1
import Derived.Test.YtonocoedbihfeaaDoorBase
import Derived.Test.YtonocoedbihfeaaDoorLst
import Derived.Test.YtonocoedbihfeaaDoorPn
import Derived.Test.YtonocoedbihfeaaDoorIt
namespace Go.Proofs.YtonocoedbihfeaaDoor.Pure
open Go Go.RowKit Go.Proofs.YtonocoedbihfeaaDoor.PFnExactFormatInt Go.Proofs.YtonocoedbihfeaaDoorW.PrintWords Go.Proofs.YtonocoedbihfeaaDoorW.PrintLast Go.Proofs.YtonocoedbihfeaaDoorW.PrintMore Go.Proofs.YtonocoedbihfeaaDoor.Base Go.Proofs.YtonocoedbihfeaaDoor.Lst Go.Proofs.YtonocoedbihfeaaDoor.Pn Go.Proofs.YtonocoedbihfeaaDoor.It
set_option linter.unusedVariables false
set_option linter.unusedSimpArgs false
theorem spec_FormatInt.l0_nonneg (x0 : Int) (h0 : 0 ≤ x0) : ∀ (d k : Nat) (x : Int) (a : List Int), 0 ≤ x → x < 10 ^ d → d ≤ 20 → a.length + d ≤ 1000 → d < k → x ≤ 9223372036854775807 → spec_FormatInt.l0 k x0 (strOfNums a) x = some (strOfNums (fmtF d x a)) := by
  intro d
  induction d with
  | zero =>
    intro k x a hx0 hx1 _ _ hk _
    obtain ⟨k, rfl⟩ : ∃ m, k = m + 1 := ⟨k - 1, by omega⟩
    have : x = 0 := by simp at hx1; omega
    simp only [spec_FormatInt.l0]
    rw [if_pos this, if_neg (by omega)]
    rfl
  | succ d ih =>
    intro k x a hx0 hx1 hd ha hk hx2
    obtain ⟨k, rfl⟩ : ∃ m, k = m + 1 := ⟨k - 1, by omega⟩
    simp only [spec_FormatInt.l0, fmtF]
    by_cases hx : x = 0
    · rw [if_pos hx, if_neg (by omega), if_pos hx]
    · rw [if_neg hx, if_neg hx, Int.tmod_eq_emod_of_nonneg hx0, if_neg (by omega)]
      simp only [Option.bind_some]
      rw [if_pos (by rw [strOfNums_size, strOfNums_size]; simp only [List.length_cons, List.length_nil]; omega), w64 (n := 48 + x % 10) (by omega) (by omega), show (48 + x % 10) % 256 = 48 + x % 10 by omega, str_cons, Int.tdiv_eq_ediv_of_nonneg hx0, w64 (n := x / 10) (by omega) (by omega)]
      exact ih k (x / 10) _ (by omega) (by rw [Int.pow_succ] at hx1; omega) (by omega) (by simp only [List.length_cons]; omega) (by omega) (by omega)
theorem spec_FormatInt.nonneg (n : Int) (h0 : 0 ≤ n) (h1 : n ≤ 9223372036854775807) (k : Nat) (hk : 30 ≤ k) : spec_FormatInt.f k n = some (strOfNums (fmt n)) := by
  unfold spec_FormatInt.f fmt
  by_cases h : n = 0
  · rw [if_pos h, if_pos h]; rfl
  · rw [if_neg h, if_neg h]
    exact spec_FormatInt.l0_nonneg n h0 20 k n [] h0 (by omega) (by omega) (by simp) (by omega) h1
theorem impl_FormatInt.eq (n : Int) (h0 : -9223372036854775808 ≤ n) (h1 : n ≤ 9223372036854775807) : impl_FormatInt.f n = some ⟨(Lib.itoa n).toArray⟩ := by
  unfold impl_FormatInt.f
  rw [if_pos ⟨h0, h1⟩]
theorem minus_str (l : List Int) : (⟨#[45]⟩ : ByteArray) ++ strOfNums l = strOfNums (45 :: l) := by
  rw [← str_cons]; rfl
theorem spec_FormatInt.l0_neg (x0 : Int) (h0 : x0 < 0) : ∀ (d k : Nat) (y : Int) (a : List Int), 0 ≤ y → y < 10 ^ d → d ≤ 20 → a.length + d ≤ 1000 → d < k → y ≤ 9223372036854775808 → spec_FormatInt.l0 k x0 (strOfNums a) (-y) = some (strOfNums (45 :: fmtF d y a)) := by
  intro d
  induction d with
  | zero =>
    intro k y a hy0 hy1 _ hl hk _
    obtain ⟨k, rfl⟩ : ∃ m, k = m + 1 := ⟨k - 1, by omega⟩
    have : y = 0 := by simp at hy1; omega
    simp only [spec_FormatInt.l0]
    rw [if_pos (by omega), if_pos h0, if_pos (by rw [strOfNums_size]; omega), minus_str]
    rfl
  | succ d ih =>
    intro k y a hy0 hy1 hd ha hk hy2
    obtain ⟨k, rfl⟩ : ∃ m, k = m + 1 := ⟨k - 1, by omega⟩
    simp only [spec_FormatInt.l0, fmtF]
    by_cases hy : y = 0
    · rw [if_pos (by omega), if_pos h0, if_pos hy, if_pos (by rw [strOfNums_size]; omega), minus_str]
    · have e1 : Int.tmod (-y) 10 = -(y % 10) := by rw [Int.neg_tmod, Int.tmod_eq_emod_of_nonneg hy0]
      have e2 : Int.tdiv (-y) 10 = -(y / 10) := by rw [Int.neg_tdiv, Int.tdiv_eq_ediv_of_nonneg hy0]
      rw [if_neg (by omega), if_neg hy, e1, e2, w64 (n := -(y / 10)) (by omega) (by omega)]
      have rest := ih k (y / 10) ((48 + y % 10) :: a) (by omega) (by rw [Int.pow_succ] at hy1; omega) (by omega) (by simp only [List.length_cons]; omega) (by omega) (by omega)
      by_cases hz : -(y % 10) < 0
      · rw [if_pos hz]
        simp only [Option.bind_some]
        rw [if_pos (by rw [strOfNums_size, strOfNums_size]; simp only [List.length_cons, List.length_nil]; omega), w64 (n := -(-(y % 10))) (by omega) (by omega), show -(-(y % 10)) = y % 10 by omega, w64 (n := 48 + y % 10) (by omega) (by omega), show (48 + y % 10) % 256 = 48 + y % 10 by omega, str_cons]
        exact rest
      · rw [if_neg hz]
        simp only [Option.bind_some]
        rw [if_pos (by rw [strOfNums_size, strOfNums_size]; simp only [List.length_cons, List.length_nil]; omega), show 48 + -(y % 10) = 48 + y % 10 by omega, w64 (n := 48 + y % 10) (by omega) (by omega), show (48 + y % 10) % 256 = 48 + y % 10 by omega, str_cons]
        exact rest
theorem spec_FormatInt.ok (n : Int) (h0 : -9223372036854775808 ≤ n) (h1 : n ≤ 9223372036854775807) (k : Nat) (hk : 30 ≤ k) : spec_FormatInt.f k n = some (strOfNums (fmtZ n)) := by
  unfold fmtZ
  by_cases h : n < 0
  · rw [if_pos h]
    unfold spec_FormatInt.f fmt
    rw [if_neg (by omega), if_neg (by omega)]
    have e := spec_FormatInt.l0_neg n h 20 k (-n) [] (by omega) (by omega) (by omega) (by simp) (by omega) (by omega)
    rw [show -(-n) = n by omega] at e
    exact e
  · rw [if_neg h]
    exact spec_FormatInt.nonneg n (by omega) h1 k hk
theorem FnExactFormatInt : laws_FnExactFormatInt.Pure := by
  intro n hw
  obtain ⟨h0, h1⟩ : -9223372036854775808 ≤ n ∧ n ≤ 9223372036854775807 := bounds_i64 hw
  refine ⟨40, ?_⟩
  unfold laws_FnExactFormatInt.f
  rw [spec_FormatInt.ok n h0 h1 40 (by omega), impl_FormatInt.eq n h0 h1]
  simp only [Option.bind_some]
  rw [if_pos (itoa_str n h0 h1)]

end Go.Proofs.YtonocoedbihfeaaDoor.Pure
