/- Plain laws on lines and rings: lists of points, their segments, what is simple, how lines meet; no program. -/
import Derived.Test.YtonocoedbihfeaaBase
import Derived.Test.YtonocoedbihfeaaGeo
namespace Go.Proofs.Ytonocoedbihfeaa.Ln
open Go Go.RowKit Go.Proofs.Ytonocoedbihfeaa.Base Go.Proofs.Ytonocoedbihfeaa.Geo
set_option linter.unusedVariables false
set_option linter.unusedSimpArgs false

/-- A proposition as a bool. -/
noncomputable def B (P : Prop) : Bool := @decide P (Classical.propDecidable P)
theorem B_iff {P : Prop} : B P = true ↔ P := by unfold B; simp
theorem B_pos {P : Prop} (h : P) : B P = true := B_iff.mpr h
theorem B_neg {P : Prop} (h : ¬ P) : B P = false := by
  cases e : B P with
  | false => rfl
  | true => exact absurd (B_iff.mp e) h
theorem B_congr {P Q : Prop} (h : P ↔ Q) : B P = B Q := by
  by_cases hp : P
  · rw [B_pos hp, B_pos (h.mp hp)]
  · rw [B_neg hp, B_neg (fun q => hp (h.mpr q))]

def at_ (p : List Pt) (i : Nat) : Pt := p.getD i (0, 0)
/-- The point with index i is valid, and not the one before it. -/
def good (p : List Pt) (i : Nat) : Prop := isPt (at_ p i).1 (at_ p i).2 = true ∧ (0 < i → at_ p (i - 1) ≠ at_ p i)
/-- A line. -/
def lineP (p : List Pt) : Prop := 2 ≤ p.length ∧ p.length ≤ 10 ∧ ∀ j, j < p.length → good p j
theorem good_step {p : List Pt} {i n : Nat} (h : good p i) : (∀ j, i ≤ j → j < n → good p j) ↔ (∀ j, i + 1 ≤ j → j < n → good p j) := by
  constructor
  · intro g j h1 h2; exact g j (by omega) h2
  · intro g j h1 h2
    rcases Nat.eq_or_lt_of_le h1 with e | e
    · rw [← e]; exact h
    · exact g j e h2

abbrev Sg := Pt × Pt
def sgAt (s : List Sg) (i : Nat) : Sg := s.getD i ((0, 0), (0, 0))
/-- The segments between points that follow one another. -/
def segsOf (p : List Pt) : List Sg := (List.range (p.length - 1)).map fun i => (at_ p i, at_ p (i + 1))
noncomputable def segs (p : List Pt) : List Sg := if B (lineP p) = true then segsOf p else []
theorem segsOf_length (p : List Pt) : (segsOf p).length = p.length - 1 := by simp [segsOf]
theorem segsOf_at {p : List Pt} {i : Nat} (h : i < p.length - 1) : sgAt (segsOf p) i = (at_ p i, at_ p (i + 1)) := by
  simp [sgAt, segsOf, List.getD_eq_getElem?_getD, h]
theorem segs_line {p : List Pt} (h : lineP p) : segs p = segsOf p := by unfold segs; rw [if_pos (B_pos h)]
theorem segs_none {p : List Pt} (h : ¬ lineP p) : segs p = [] := by unfold segs; rw [B_neg h]; rfl

/-- A valid segment. -/
def okS (s : Sg) : Bool := isSg s.1.1 s.1.2 s.2.1 s.2.2
theorem okS_iff {s : Sg} : okS s = true ↔ isPt s.1.1 s.1.2 = true ∧ isPt s.2.1 s.2.2 = true ∧ s.1 ≠ s.2 := by
  unfold okS; exact isSg_iff
/-- How two segments meet, valid or not. -/
def hmS (s t : Sg) : Int := if okS s && okS t then hm s.1 s.2 t.1 t.2 else 0
theorem hmS_range (s t : Sg) : 0 ≤ hmS s t ∧ hmS s t ≤ 3 := by
  unfold hmS
  split
  · exact hm_range ..
  · omega
theorem hmS_swap (s t : Sg) : hmS s t = hmS t s := by
  unfold hmS
  rw [Bool.and_comm]
  by_cases h : (okS t && okS s) = true
  · rw [if_pos h, if_pos h]
    rw [Bool.and_eq_true] at h
    exact hm_swap (okS_iff.mp h.2).2.2 (okS_iff.mp h.1).2.2
  · rw [if_neg h, if_neg h]
def turnS (s : Sg) : Sg := (s.2, s.1)
theorem okS_turn (s : Sg) : okS (turnS s) = okS s := by
  have h : okS (turnS s) = true ↔ okS s = true := by
    rw [okS_iff, okS_iff]
    unfold turnS
    constructor
    · rintro ⟨h0, h1, h2⟩; exact ⟨h1, h0, fun e => h2 e.symm⟩
    · rintro ⟨h0, h1, h2⟩; exact ⟨h1, h0, fun e => h2 e.symm⟩
  cases e1 : okS (turnS s) <;> cases e2 : okS s <;> simp_all
theorem hmS_turn (s t : Sg) : hmS (turnS s) t = hmS s t := by
  unfold hmS
  rw [okS_turn]
  by_cases h : (okS s && okS t) = true
  · rw [if_pos h, if_pos h]
    rw [Bool.and_eq_true] at h
    exact (hm_turn _ _ (okS_iff.mp h.1).2.2).symm
  · rw [if_neg h, if_neg h]
theorem hmS_turn' (s t : Sg) : hmS s (turnS t) = hmS s t := by rw [hmS_swap, hmS_turn, hmS_swap]

/-- Segments that follow one another touch, and no others meet. -/
def simpleS (s : List Sg) : Prop := ∀ i, i < s.length → ∀ j, j < i → hmS (sgAt s i) (sgAt s j) = if j + 1 = i then 1 else 0
def simpleP (p : List Pt) : Prop := lineP p ∧ simpleS (segs p)

/-- The greatest way in which one of the one and one of the other meet. -/
def rowMost (m : Int) (x : Sg) (t : List Sg) : Int := t.foldl (fun m y => max m (hmS x y)) m
def most (m : Int) (s t : List Sg) : Int := s.foldl (fun m x => rowMost m x t) m
noncomputable def linesMeet (p q : List Pt) : Int := most 0 (segs p) (segs q)

/-- The steps of all segments. -/
def stepsFrom (n : Int) (s : List Sg) : Int := s.foldl (fun n x => wrap64 (n + steps x.1.1 x.1.2 x.2.1 x.2.2)) n
noncomputable def lineSteps (p : List Pt) : Int := stepsFrom 0 (segs p)

/-- From row i on, each pair of a row and an earlier one is as it should be. -/
def rowsOk (ok : Nat → Nat → Prop) (pre : Nat → Prop) (n i : Nat) : Prop := ∀ i', i ≤ i' → i' < n → pre i' ∧ ∀ j, j < i' → ok i' j
def restOk (ok : Nat → Nat → Prop) (i j : Nat) : Prop := ∀ j', j ≤ j' → j' < i → ok i j'
theorem rows_end {ok : Nat → Nat → Prop} {pre : Nat → Prop} {n : Nat} : rowsOk ok pre n n := fun i' h1 h2 => by omega
theorem rest_end {ok : Nat → Nat → Prop} {i : Nat} : restOk ok i i := fun j' h1 h2 => by omega
theorem rows_step {ok : Nat → Nat → Prop} {pre : Nat → Prop} {n i : Nat} (hi : i < n) : rowsOk ok pre n i ↔ pre i ∧ restOk ok i 0 ∧ rowsOk ok pre n (i + 1) := by
  constructor
  · intro h
    exact ⟨(h i (Nat.le_refl _) hi).1, fun j' _ h2 => (h i (Nat.le_refl _) hi).2 j' h2, fun i' h1 h2 => h i' (by omega) h2⟩
  · rintro ⟨h0, h1, h2⟩ i' h3 h4
    rcases Nat.eq_or_lt_of_le h3 with e | e
    · subst e; exact ⟨h0, fun j hj => h1 j (by omega) hj⟩
    · exact h2 i' e h4
theorem rest_step {ok : Nat → Nat → Prop} {i j : Nat} (hj : j < i) : restOk ok i j ↔ ok i j ∧ restOk ok i (j + 1) := by
  constructor
  · intro h
    exact ⟨h j (Nat.le_refl _) hj, fun j' h1 h2 => h j' (by omega) h2⟩
  · rintro ⟨h0, h1⟩ j' h2 h3
    rcases Nat.eq_or_lt_of_le h2 with e | e
    · subst e; exact h0
    · exact h1 j' e h3

def okPair (s : List Sg) (i j : Nat) : Prop := hmS (sgAt s i) (sgAt s j) = if j + 1 = i then 1 else 0
theorem simpleS_rows (s : List Sg) : simpleS s ↔ rowsOk (okPair s) (fun _ => True) s.length 0 := by
  constructor
  · intro h i _ h2; exact ⟨trivial, fun j hj => h i h2 j hj⟩
  · intro h i hi j hj; exact (h i (by omega) hi).2 j hj

/-- The segments of a ring: from each point to the next one, and from the last one to the first one. -/
def ringOf (p : List Pt) : List Sg := (List.range p.length).map fun i => (at_ p i, at_ p ((i + 1) % p.length))
theorem ringOf_length (p : List Pt) : (ringOf p).length = p.length := by simp [ringOf]
def okRing (s : List Sg) (i j : Nat) : Prop := hmS (sgAt s i) (sgAt s j) = if j + 1 = i ∨ (j = 0 ∧ i + 1 = s.length) then 1 else 0
/-- A ring. -/
def ringP (p : List Pt) : Prop := (3 ≤ p.length ∧ p.length ≤ 10) ∧ rowsOk (okRing (ringOf p)) (fun i => okS (sgAt (ringOf p) i) = true) p.length 0
/-- Twice the area, summed up as the program does. -/
def areaFrom (n : Int) (s : List Sg) : Int := s.foldl (fun n x => wrap64 (n + wrap64 (wrap64 (x.1.1 * x.2.2) - wrap64 (x.1.2 * x.2.1)))) n
theorem area_step (n a b : Int) : wrap64 (wrap64 (n + wrap64 a) - wrap64 b) = wrap64 (n + wrap64 (wrap64 a - wrap64 b)) := by unfold wrap64; omega

end Go.Proofs.Ytonocoedbihfeaa.Ln
