/- Lemmas on worlds, rows and regions, those that this claim needs. -/
import Derived.Test.YtokhmgfjgpcmdaaVLn
namespace Go.Proofs.Ytokhmgfjgpcmdaa.Hw
open Go Go.RowKit Go.Proofs.Ytokhmgfjgpcmdaa.Base Go.Proofs.Ytokhmgfjgpcmdaa.Geo Go.Proofs.Ytokhmgfjgpcmdaa.Ln
set_option linter.unusedVariables false
set_option linter.unusedSimpArgs false
theorem prod_bound {x y : Int} (hx0 : -200 ≤ x) (hx1 : x ≤ 200) (hy0 : -200 ≤ y) (hy1 : y ≤ 200) : -40000 ≤ x * y ∧ x * y ≤ 40000 := by
  have h1 := Int.mul_nonneg (show 0 ≤ x + 200 by omega) (show 0 ≤ y + 200 by omega)
  have h2 := Int.mul_nonneg (show 0 ≤ 200 - x by omega) (show 0 ≤ 200 - y by omega)
  have h3 := Int.mul_nonneg (show 0 ≤ x + 200 by omega) (show 0 ≤ 200 - y by omega)
  have h4 := Int.mul_nonneg (show 0 ≤ 200 - x by omega) (show 0 ≤ y + 200 by omega)
  have e1 : (x + 200) * (y + 200) = x * y + 200 * x + 200 * y + 40000 := by grind
  have e2 : (200 - x) * (200 - y) = x * y - 200 * x - 200 * y + 40000 := by grind
  have e3 : (x + 200) * (200 - y) = - (x * y) + 200 * x - 200 * y + 40000 := by grind
  have e4 : (200 - x) * (y + 200) = - (x * y) - 200 * x + 200 * y + 40000 := by grind
  omega
theorem crossW_cr {a b c d e f : Int} (h0 : isPt a b = true) (h1 : isPt c d = true) (h2 : isPt e f = true) : crossW a b c d e f = cr (a, b) (c, d) (e, f) := by
  rw [isPt_iff] at h0 h1 h2
  have p1 := prod_bound (x := c - a) (y := f - b) (by omega) (by omega) (by omega) (by omega)
  have p2 := prod_bound (x := d - b) (y := e - a) (by omega) (by omega) (by omega) (by omega)
  unfold crossW cr
  simp only
  rw [w64 (n := c - a) (by omega) (by omega), w64 (n := f - b) (by omega) (by omega), w64 (n := d - b) (by omega) (by omega), w64 (n := e - a) (by omega) (by omega), w64 (n := (c - a) * (f - b)) (by omega) (by omega), w64 (n := (d - b) * (e - a)) (by omega) (by omega), w64 (by omega) (by omega)]
def sgn (n : Int) : Int := if n < 0 then -1 else if n > 0 then 1 else 0
theorem sgn_cases (n : Int) : (n < 0 ∧ sgn n = -1) ∨ (n = 0 ∧ sgn n = 0) ∨ (0 < n ∧ sgn n = 1) := by
  unfold sgn
  by_cases h : n < 0
  · rw [if_pos h]; exact Or.inl ⟨h, rfl⟩
  · rw [if_neg h]
    by_cases h2 : n > 0
    · rw [if_pos h2]; exact Or.inr (Or.inr ⟨h2, rfl⟩)
    · rw [if_neg h2]; exact Or.inr (Or.inl ⟨by omega, rfl⟩)
theorem sideOf_sgn {a b c d e f : Int} (h0 : isPt a b = true) (h1 : isPt c d = true) (h2 : isPt e f = true) : sideOf a b c d e f = sgn (cr (a, b) (c, d) (e, f)) := by
  unfold sideOf sgn
  rw [h0, h1, h2, crossW_cr h0 h1 h2]
  rfl
theorem onW_on {a b c d e f : Int} (hs : isSg a b c d = true) (hp : isPt e f = true) : onW a b c d e f = decide (on (a, b) (c, d) (e, f)) := by
  obtain ⟨h0, h1, _⟩ := isSg_iff.mp hs
  unfold onW
  rw [hs, hp, crossW_cr h0 h1 hp]
  have : (decide (cr (a, b) (c, d) (e, f) = 0) && decide (min a c ≤ e ∧ e ≤ max a c) && decide (min b d ≤ f ∧ f ≤ max b d)) = true ↔ decide (on (a, b) (c, d) (e, f)) = true := by
    simp only [Bool.and_eq_true, decide_eq_true_eq]
    unfold on bx
    simp only
    constructor
    · rintro ⟨⟨g0, g1⟩, g2⟩; exact ⟨g0, g1.1, g1.2, g2.1, g2.2⟩
    · rintro ⟨g0, g1, g2, g3, g4⟩; exact ⟨⟨g0, g1, g2⟩, g3, g4⟩
  simp only [Bool.true_and]
  exact Bool.eq_iff_iff.mpr this
theorem okS_of {a b c d : Int} (h : isSg a b c d = true) : okS ((a, b), (c, d)) = true := h
theorem hmS_ok {a b c d e f g h : Int} (hs : isSg a b c d = true) (ht : isSg e f g h = true) : hmS ((a, b), (c, d)) ((e, f), (g, h)) = hm (a, b) (c, d) (e, f) (g, h) := by
  unfold hmS
  rw [okS_of hs, okS_of ht]
  rfl
theorem hmS_not {a b c d e f g h : Int} (hn : ¬ (isSg a b c d = true ∧ isSg e f g h = true)) : hmS ((a, b), (c, d)) ((e, f), (g, h)) = 0 := by
  unfold hmS
  rw [if_neg]
  simp only [Bool.and_eq_true]
  exact hn
theorem crossing_sgn (A B C D : Pt) : crossing A B C D ↔ sgn (cr A B C) * sgn (cr A B D) < 0 ∧ sgn (cr C D A) * sgn (cr C D B) < 0 := by
  unfold crossing
  rcases sgn_cases (cr A B C) with ⟨h0, e0⟩ | ⟨h0, e0⟩ | ⟨h0, e0⟩ <;> rcases sgn_cases (cr A B D) with ⟨h1, e1⟩ | ⟨h1, e1⟩ | ⟨h1, e1⟩ <;> rcases sgn_cases (cr C D A) with ⟨h2, e2⟩ | ⟨h2, e2⟩ | ⟨h2, e2⟩ <;> rcases sgn_cases (cr C D B) with ⟨h3, e3⟩ | ⟨h3, e3⟩ | ⟨h3, e3⟩ <;>
    rw [e0, e1, e2, e3] <;> omega
theorem sgn_zero {n : Int} : sgn n = 0 ↔ n = 0 := by rcases sgn_cases n with ⟨h, e⟩ | ⟨h, e⟩ | ⟨h, e⟩ <;> omega
theorem sgn_prod (x y : Int) : wrap64 (sgn x * sgn y) = sgn x * sgn y := by
  rcases sgn_cases x with ⟨h, e⟩ | ⟨h, e⟩ | ⟨h, e⟩ <;> rcases sgn_cases y with ⟨h2, e2⟩ | ⟨h2, e2⟩ | ⟨h2, e2⟩ <;> rw [e, e2] <;> exact w64 (by omega) (by omega)
def lo (A B : Pt) : Pt := if before B A then B else A
def hi (A B : Pt) : Pt := if before B A then A else B
theorem hmLine_lo (A B C D : Pt) : hmLine A B C D =
    (let low := if before (lo A B) (lo C D) then lo C D else lo A B
     let high := if before (hi C D) (hi A B) then hi C D else hi A B
     if before high low then 0 else if low = high then 1 else 3) := rfl
theorem ne_pt (a b c d : Int) : (!(a == c) || !(b == d)) = decide (((a, b) : Pt) ≠ (c, d)) := by
  by_cases h1 : a = c <;> by_cases h2 : b = d <;> simp [h1, h2]
theorem eq_pt (a b c d : Int) : (a == c && b == d) = decide (((a, b) : Pt) = (c, d)) := by
  by_cases h1 : a = c <;> by_cases h2 : b = d <;> simp [h1, h2]
def cntL : List (Bool × Pt) → List Pt → Int
  | [], x => (x.length : Int)
  | (fl, e) :: r, x => cntL r (if (fl && x.all fun q => decide (q ≠ e)) = true then x ++ [e] else x)
theorem cntL_step (fl : Bool) (e : Pt) (r : List (Bool × Pt)) (x : List Pt) (c : Prop) [Decidable c] (hc : (fl && x.all fun q => decide (q ≠ e)) = true ↔ c) : cntL ((fl, e) :: r) x = if c then cntL r (x ++ [e]) else cntL r x := by
  show cntL r _ = _
  by_cases h : c
  · rw [if_pos (hc.mpr h), if_pos h]
  · rw [if_neg (fun g => h (hc.mp g)), if_neg h]
theorem cntL_ite (fl : Bool) (e : Pt) (r : List (Bool × Pt)) (x : List Pt) : cntL ((fl, e) :: r) x = if (fl && x.all fun q => decide (q ≠ e)) = true then cntL r (x ++ [e]) else cntL r x := cntL_step fl e r x _ Iff.rfl
def optL (c : Prop) [Decidable c] (e : Pt) : List Pt := if c then [e] else []
theorem optL_all (c : Prop) [Decidable c] (e f : Pt) : (optL c e).all (fun q => decide (q ≠ f)) = true ↔ ¬ (c ∧ e = f) := by
  unfold optL
  by_cases h : c <;> simp [h]
theorem optL_length (c : Prop) [Decidable c] (e : Pt) : ((optL c e).length : Int) = ct c := by
  unfold optL ct
  by_cases h : c <;> simp [h]
theorem cntL_opt (fl : Bool) (e : Pt) (r : List (Bool × Pt)) (x : List Pt) (c : Prop) [Decidable c] (hc : (fl && x.all fun q => decide (q ≠ e)) = true ↔ c) : cntL ((fl, e) :: r) x = cntL r (x ++ optL c e) := by
  rw [cntL_step fl e r x c hc]
  unfold optL
  by_cases h : c
  · rw [if_pos h, if_pos h]
  · rw [if_neg h, if_neg h, List.append_nil]
theorem cntL_shared {A B C D : Pt} (hcd : C ≠ D) : cntL [(decide (on C D A), A), (decide (on C D B), B), (decide (on A B C), C), (decide (on A B D), D)] [] = shared A B C D := by
  rw [cntL_opt _ _ _ _ (on C D A) (by simp), cntL_opt _ _ _ _ (on C D B ∧ ¬ (on C D A ∧ A = B)) (by
      rw [Bool.and_eq_true, decide_eq_true_eq, List.nil_append, optL_all]),
    cntL_opt _ _ _ _ (on A B C ∧ ¬ (on C D A ∧ A = C) ∧ ¬ (on C D B ∧ B = C)) (by
      rw [Bool.and_eq_true, decide_eq_true_eq, List.nil_append, List.all_append, Bool.and_eq_true, optL_all, optL_all]
      constructor
      · rintro ⟨h, h1, h2⟩
        refine ⟨h, h1, fun g => h2 ⟨⟨g.1, fun k => h1 ⟨k.1, k.2.trans g.2⟩⟩, g.2⟩⟩
      · rintro ⟨h, h1, h2⟩
        exact ⟨h, h1, fun g => h2 ⟨g.1.1, g.2⟩⟩),
    cntL_opt _ _ _ _ (on A B D ∧ ¬ (on C D A ∧ A = D) ∧ ¬ (on C D B ∧ B = D) ∧ ¬ (on A B C ∧ C = D)) (by
      rw [Bool.and_eq_true, decide_eq_true_eq, List.nil_append, List.all_append, List.all_append, Bool.and_eq_true, Bool.and_eq_true, optL_all, optL_all, optL_all]
      constructor
      · rintro ⟨h, ⟨h1, h2⟩, h3⟩
        refine ⟨h, h1, fun g => h2 ⟨⟨g.1, fun k => h1 ⟨k.1, k.2.trans g.2⟩⟩, g.2⟩, fun g => hcd g.2⟩
      · rintro ⟨h, h1, h2, h3⟩
        exact ⟨h, ⟨h1, fun g => h2 ⟨g.1.1, g.2⟩⟩, fun g => h3 ⟨g.1.1, g.2⟩⟩)]
  show (((([] ++ _) ++ _) ++ _ ++ _ : List Pt).length : Int) = _
  unfold shared
  rw [← optL_length _ A, ← optL_length _ B, ← optL_length _ C, ← optL_length _ D]
  simp only [List.nil_append, List.length_append]
  omega
end Go.Proofs.Ytokhmgfjgpcmdaa.Hw
