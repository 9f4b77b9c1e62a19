/- The program's Mod answers as the reference's, for all two numbers of 64 bits. -/
import Derived.Test.YtamokknfgbknlaaPFnExactModx1
import Derived.Test.YtamokknfgbknlaaBase
namespace Go.Proofs.Ytamokknfgbknlaa.Pure
open Go Go.RowKit Go.Proofs.Ytamokknfgbknlaa.PFnExactMod Go.Proofs.YtamokknfgbknlaaW.PrintWords Go.Proofs.YtamokknfgbknlaaW.PrintLast Go.Proofs.YtamokknfgbknlaaW.PrintMore Go.Proofs.Ytamokknfgbknlaa.Base
set_option linter.unusedVariables false
set_option linter.unusedSimpArgs false
theorem spec_l1In.eq (a b c : Int) : spec_l1In.f a b c = some (decide (b ≤ a ∧ a ≤ c)) := by
  unfold spec_l1In.f
  by_cases h : b ≤ a
  · rw [if_pos h]; simp [h]
  · rw [if_neg h]; simp [h]
theorem spec_Mod.eq (p q : Int) : spec_Mod.f p q = some (modOf p q) := by
  unfold spec_Mod.f modOf
  rw [spec_l1In.eq]
  by_cases h : 1 ≤ q ∧ q ≤ 1000000000000
  · rw [if_pos h]
    have hq : ¬ q = 0 := by omega
    simp only [Option.bind_some, h, decide_true, and_self, if_true, if_neg hq]
    congr 1
    have h1 := Int.lt_tmod_of_pos p (show 0 < q by omega)
    have h2 := Int.tmod_lt_of_pos p (show 0 < q by omega)
    rw [w64 (by omega) (by omega), ← tmod_pos h.1]
    by_cases h3 : p.tmod q < 0
    · rw [if_pos h3, Int.tmod_eq_of_lt (by omega) (by omega)]
    · rw [if_neg h3, Int.tmod_eq_emod_of_nonneg (by omega), Int.add_emod_right, Int.emod_eq_of_lt (by omega) (by omega)]
  · rw [if_neg h]; simp [h]
theorem impl_InRange.eq (a b c : Int) : impl_InRange.f a b c = some (decide (b ≤ a ∧ a ≤ c)) := by
  unfold impl_InRange.f
  by_cases h : b ≤ a
  · rw [if_pos h]; simp [h]
  · rw [if_neg h]; simp [h]
theorem impl_Mod.eq (p q : Int) : impl_Mod.f p q = some (modOf p q) := by
  unfold impl_Mod.f modOf
  rw [impl_InRange.eq]
  by_cases h : 1 ≤ q ∧ q ≤ 1000000000000
  · rw [if_pos h]
    have hq : ¬ q = 0 := by omega
    simp only [Option.bind_some, h, decide_true, and_self, if_true, if_neg hq]
    have h1 := Int.lt_tmod_of_pos p (show 0 < q by omega)
    have h2 := Int.tmod_lt_of_pos p (show 0 < q by omega)
    rw [← tmod_pos h.1]
    by_cases h3 : p.tmod q < 0
    · rw [if_pos h3, if_pos h3, w64 (by omega) (by omega)]
    · rw [if_neg h3, if_neg h3]
  · rw [if_neg h]; simp [h]
theorem FnExactMod : laws_FnExactMod.Pure := by
  intro a b _ _
  exact agree_int (spec_Mod.eq a b) (impl_Mod.eq a b)

end Go.Proofs.Ytamokknfgbknlaa.Pure
