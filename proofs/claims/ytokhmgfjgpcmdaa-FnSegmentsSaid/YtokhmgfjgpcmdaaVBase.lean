/- Lemmas on worlds, rows and regions, those that this claim needs. -/
import Derived.RowKit
import Derived.OpenShut
namespace Go.Proofs.Ytokhmgfjgpcmdaa.Base
open Go.RowKit
set_option linter.unusedVariables false
set_option linter.unusedSimpArgs false
theorem w64 {n : Int} (h0 : -9223372036854775808 ≤ n) (h1 : n ≤ 9223372036854775807) : wrap64 n = n := by unfold wrap64; omega
def isPt (x y : Int) : Bool := decide (0 ≤ x ∧ x ≤ 200 ∧ 0 ≤ y ∧ y ≤ 200)
theorem isPt_iff {x y : Int} : isPt x y = true ↔ 0 ≤ x ∧ x ≤ 200 ∧ 0 ≤ y ∧ y ≤ 200 := by unfold isPt; simp
theorem isPt_bind (x y : Int) {b c : Option Bool} (hb : b = some (decide (0 ≤ x ∧ x ≤ 200))) (hc : c = some (decide (0 ≤ y ∧ y ≤ 200))) : (b.bind fun t => if t = true then c.bind fun u => some u else some false) = some (isPt x y) := by
  subst hb; subst hc
  unfold isPt
  by_cases h : 0 ≤ x ∧ x ≤ 200 <;> simp [h]
  intro h1 h2; omega
def isSg (a b c d : Int) : Bool := isPt a b && isPt c d && !(a == c && b == d)
theorem isSg_iff {a b c d : Int} : isSg a b c d = true ↔ isPt a b = true ∧ isPt c d = true ∧ ((a, b) : Int × Int) ≠ (c, d) := by
  unfold isSg
  simp [Prod.ext_iff, and_assoc]
  intro _ _
  by_cases h : a = c <;> simp [h]
def crossW (a b c d e f : Int) : Int := wrap64 (wrap64 (wrap64 (c - a) * wrap64 (f - b)) - wrap64 (wrap64 (d - b) * wrap64 (e - a)))
def sideOf (a b c d e f : Int) : Int :=
  if isPt a b && isPt c d && isPt e f then (if crossW a b c d e f < 0 then -1 else if crossW a b c d e f > 0 then 1 else 0) else 0
def onW (a b c d e f : Int) : Bool :=
  isSg a b c d && isPt e f && decide (crossW a b c d e f = 0) && decide (min a c ≤ e ∧ e ≤ max a c) && decide (min b d ≤ f ∧ f ≤ max b d)
def betwW (a b c d e f : Int) : Bool := onW a b c d e f && !(e == a && f == b) && !(e == c && f == d)
theorem side_zero {a b c d e f : Int} (h : isSg a b c d = true) (h2 : isPt e f = true) : sideOf a b c d e f = 0 ↔ crossW a b c d e f = 0 := by
  obtain ⟨h0, h1, _⟩ := isSg_iff.mp h
  unfold sideOf
  rw [h0, h1, h2]
  simp only [Bool.and_self, if_true]
  by_cases g : crossW a b c d e f < 0
  · rw [if_pos g]; omega
  · rw [if_neg g]
    by_cases g2 : crossW a b c d e f > 0
    · rw [if_pos g2]; omega
    · rw [if_neg g2]; omega
theorem onW_of {a b c d e f : Int} {z : Int} (hz : isSg a b c d = true → isPt e f = true → (z = 0 ↔ crossW a b c d e f = 0)) :
    (if isSg a b c d = true then (if isPt e f = true then (if z = 0 then (if decide (min a c ≤ e ∧ e ≤ max a c) = true then some (decide (min b d ≤ f ∧ f ≤ max b d)) else some false) else some false) else some false) else some false) = some (onW a b c d e f) := by
  unfold onW
  by_cases h1 : isSg a b c d = true
  · by_cases h2 : isPt e f = true
    · have hz := hz h1 h2
      rw [if_pos h1, if_pos h2, h1, h2]
      by_cases h3 : z = 0
      · rw [if_pos h3, decide_eq_true (hz.mp h3)]
        by_cases h4 : min a c ≤ e ∧ e ≤ max a c
        · rw [if_pos (decide_eq_true h4), decide_eq_true h4]; simp
        · rw [decide_eq_false h4]; simp
      · rw [if_neg h3, decide_eq_false (fun x => h3 (hz.mpr x))]; simp
    · rw [if_pos h1, if_neg h2]; simp [h2]
  · rw [if_neg h1]; simp [h1]
theorem mx_max (x y : Int) : (if x < y then y else x) = max x y := by split <;> omega
theorem mn_min (x y : Int) : (if y < x then y else x) = min x y := by split <;> omega
end Go.Proofs.Ytokhmgfjgpcmdaa.Base
