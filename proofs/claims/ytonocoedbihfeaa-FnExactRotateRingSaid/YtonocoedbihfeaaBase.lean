/- Small laws on whole numbers of 64 bits and on answers that may be missing: what this seat's pure proofs share. -/
import Derived.RowKit
import Derived.OpenShut
namespace Go.Proofs.Ytonocoedbihfeaa.Base
open Go.RowKit
set_option linter.unusedVariables false
set_option linter.unusedSimpArgs false

theorem w64 {n : Int} (h0 : -9223372036854775808 ≤ n) (h1 : n ≤ 9223372036854775807) : wrap64 n = n := by unfold wrap64; omega
theorem w64_range (n : Int) : -9223372036854775808 ≤ wrap64 n ∧ wrap64 n ≤ 9223372036854775807 := by unfold wrap64; omega

/-- The reference's answer and the program's are the same: the law says true. -/
theorem agree_int {x y : Option Int} {r : Int} (hx : x = some r) (hy : y = some r) : (x.bind fun a => y.bind fun b => if b = a then some true else some false) = some true := by
  subst hx; subst hy; simp
theorem agree_bool {x y : Option Bool} {r : Bool} (hx : x = some r) (hy : y = some r) : (x.bind fun a => y.bind fun b => if (b != a) = true then some false else some true) = some true := by
  subst hx; subst hy; simp

/-- A valid point. -/
def isPt (x y : Int) : Bool := decide (0 ≤ x ∧ x ≤ 200 ∧ 0 ≤ y ∧ y ≤ 200)
theorem isPt_iff {x y : Int} : isPt x y = true ↔ 0 ≤ x ∧ x ≤ 200 ∧ 0 ≤ y ∧ y ≤ 200 := by unfold isPt; simp
theorem isPt_bind (x y : Int) {b c : Option Bool} (hb : b = some (decide (0 ≤ x ∧ x ≤ 200))) (hc : c = some (decide (0 ≤ y ∧ y ≤ 200))) : (b.bind fun t => if t = true then c.bind fun u => some u else some false) = some (isPt x y) := by
  subst hb; subst hc
  unfold isPt
  by_cases h : 0 ≤ x ∧ x ≤ 200 <;> simp [h]
  intro h1 h2; omega
/-- A valid segment. -/
def isSg (a b c d : Int) : Bool := isPt a b && isPt c d && !(a == c && b == d)
theorem isSg_iff {a b c d : Int} : isSg a b c d = true ↔ isPt a b = true ∧ isPt c d = true ∧ ((a, b) : Int × Int) ≠ (c, d) := by
  unfold isSg
  simp [Prod.ext_iff, and_assoc]
  intro _ _
  by_cases h : a = c <;> simp [h]

/-- The square of the distance, as both compute it. -/
def farSq (a b c d : Int) : Int :=
  if isPt a b && isPt c d then wrap64 (wrap64 (wrap64 (a - c) * wrap64 (a - c)) + wrap64 (wrap64 (b - d) * wrap64 (b - d))) else -1
/-- The steps between two points, as both compute them. -/
def steps (a b c d : Int) : Int :=
  if isPt a b && isPt c d then wrap64 (max (wrap64 (a - c)) (wrap64 (c - a)) + max (wrap64 (b - d)) (wrap64 (d - b))) else -1

/-- The point with a step added, as both compute it. -/
def movePt (a b x y : Int) : Int × Int × Bool :=
  if isPt a b && decide (-1000 ≤ x ∧ x ≤ 1000) && decide (-1000 ≤ y ∧ y ≤ 1000) && isPt (wrap64 (a + x)) (wrap64 (b + y)) then (wrap64 (a + x), wrap64 (b + y), true) else (a, b, false)
/-- The product that tells the side, as both compute it. -/
def crossW (a b c d e f : Int) : Int := wrap64 (wrap64 (wrap64 (c - a) * wrap64 (f - b)) - wrap64 (wrap64 (d - b) * wrap64 (e - a)))
/-- The side. -/
def sideOf (a b c d e f : Int) : Int :=
  if isPt a b && isPt c d && isPt e f then (if crossW a b c d e f < 0 then -1 else if crossW a b c d e f > 0 then 1 else 0) else 0

/-- A point on a segment, as both compute it. -/
def onW (a b c d e f : Int) : Bool :=
  isSg a b c d && isPt e f && decide (crossW a b c d e f = 0) && decide (min a c ≤ e ∧ e ≤ max a c) && decide (min b d ≤ f ∧ f ≤ max b d)
/-- .. and none of its ends. -/
def betwW (a b c d e f : Int) : Bool := onW a b c d e f && !(e == a && f == b) && !(e == c && f == d)
theorem side_zero {a b c d e f : Int} (h : isSg a b c d = true) (h2 : isPt e f = true) : sideOf a b c d e f = 0 ↔ crossW a b c d e f = 0 := by
  obtain ⟨h0, h1, _⟩ := isSg_iff.mp h
  unfold sideOf
  rw [h0, h1, h2]
  simp only [Bool.and_self, if_true]
  by_cases g : crossW a b c d e f < 0
  · rw [if_pos g]; omega
  · rw [if_neg g]
    by_cases g2 : crossW a b c d e f > 0
    · rw [if_pos g2]; omega
    · rw [if_neg g2]; omega
theorem onW_of {a b c d e f : Int} {z : Int} (hz : isSg a b c d = true → isPt e f = true → (z = 0 ↔ crossW a b c d e f = 0)) :
    (if isSg a b c d = true then (if isPt e f = true then (if z = 0 then (if decide (min a c ≤ e ∧ e ≤ max a c) = true then some (decide (min b d ≤ f ∧ f ≤ max b d)) else some false) else some false) else some false) else some false) = some (onW a b c d e f) := by
  unfold onW
  by_cases h1 : isSg a b c d = true
  · by_cases h2 : isPt e f = true
    · have hz := hz h1 h2
      rw [if_pos h1, if_pos h2, h1, h2]
      by_cases h3 : z = 0
      · rw [if_pos h3, decide_eq_true (hz.mp h3)]
        by_cases h4 : min a c ≤ e ∧ e ≤ max a c
        · rw [if_pos (decide_eq_true h4), decide_eq_true h4]; simp
        · rw [decide_eq_false h4]; simp
      · rw [if_neg h3, decide_eq_false (fun x => h3 (hz.mpr x))]; simp
    · rw [if_pos h1, if_neg h2]; simp [h2]
  · rw [if_neg h1]; simp [h1]
theorem mx_max (x y : Int) : (if x < y then y else x) = max x y := by split <;> omega
theorem mn_min (x y : Int) : (if y < x then y else x) = min x y := by split <;> omega

/-- The remainder from 0 on. -/
def modOf (p q : Int) : Int := if 1 ≤ q ∧ q ≤ 1000000000000 then p % q else 0
theorem tmod_pos {p q : Int} (h : 1 ≤ q) : (if p.tmod q < 0 then p.tmod q + q else p.tmod q) = p % q := by
  have h1 := Int.lt_tmod_of_pos p (show 0 < q by omega)
  have h2 := Int.tmod_lt_of_pos p (show 0 < q by omega)
  have e := Int.tmod_add_mul_tdiv p q
  by_cases h3 : p.tmod q < 0
  · rw [if_pos h3]
    conv => rhs; rw [← e]
    rw [Int.add_mul_emod_self_left, ← Int.add_emod_right, Int.emod_eq_of_lt (by omega) (by omega)]
  · rw [if_neg h3]
    conv => rhs; rw [← e]
    rw [Int.add_mul_emod_self_left, Int.emod_eq_of_lt (by omega) (by omega)]

/-- The quotient rounded up. -/
def ceilOf (a b : Int) : Int := if (0 ≤ a ∧ a ≤ 1000000000000) ∧ (1 ≤ b ∧ b ≤ 1000000000000) then (a + b - 1) / b else 0
theorem ceilOf_of (a b : Int) : ((some (decide (0 ≤ a ∧ a ≤ 1000000000000))).bind fun t : Bool => if t = true then ((some (decide (1 ≤ b ∧ b ≤ 1000000000000))).bind fun u : Bool => if u = true then (if b = 0 then none else some (wrap64 (Int.tdiv (wrap64 (wrap64 (a + b) - 1)) b))) else some 0) else some 0) = some (ceilOf a b) := by
  unfold ceilOf
  by_cases h : 0 ≤ a ∧ a ≤ 1000000000000
  · by_cases h1 : 1 ≤ b ∧ b ≤ 1000000000000
    · have hb : ¬ b = 0 := by omega
      rw [if_pos (⟨h, h1⟩ : (0 ≤ a ∧ a ≤ 1000000000000) ∧ (1 ≤ b ∧ b ≤ 1000000000000))]
      simp only [Option.bind_some, h, h1, decide_true, and_self, if_true, if_neg hb]
      congr 1
      rw [w64 (n := a + b) (by omega) (by omega), w64 (n := a + b - 1) (by omega) (by omega), Int.tdiv_eq_ediv_of_nonneg (by omega)]
      have h2 : 0 ≤ (a + b - 1) / b := Int.ediv_nonneg (by omega) (by omega)
      have h3 : (a + b - 1) / b ≤ a + b - 1 := Int.ediv_le_self b (by omega)
      exact w64 (by omega) (by omega)
    · rw [if_neg (fun x : (0 ≤ a ∧ a ≤ 1000000000000) ∧ (1 ≤ b ∧ b ≤ 1000000000000) => h1 x.2)]; simp [h, h1]
  · rw [if_neg (fun x : (0 ≤ a ∧ a ≤ 1000000000000) ∧ (1 ≤ b ∧ b ≤ 1000000000000) => h x.1)]; simp [h]

end Go.Proofs.Ytonocoedbihfeaa.Base
