/- Plain laws on a line and the same line turned: no program. -/
import Derived.Test.YtomkdfpcckgajaaLn
namespace Go.Proofs.Ytomkdfpcckgajaa.Rv
open Go Go.RowKit Go.Proofs.Ytomkdfpcckgajaa.Base Go.Proofs.Ytomkdfpcckgajaa.Geo Go.Proofs.Ytomkdfpcckgajaa.Ln
set_option linter.unusedVariables false
set_option linter.unusedSimpArgs false
theorem at_rev {p : List Pt} {j : Nat} (h : j < p.length) : at_ p.reverse j = at_ p (p.length - 1 - j) := by
  simp [at_, List.getD_eq_getElem?_getD, List.getElem?_reverse h]
theorem line_rev {p : List Pt} (h : lineP p) : lineP p.reverse := by
  refine ⟨by simpa using h.1, by simpa using h.2.1, fun j hj => ?_⟩
  rw [List.length_reverse] at hj
  refine ⟨by rw [at_rev hj]; exact (h.2.2 _ (by omega)).1, fun h0 => ?_⟩
  rw [at_rev hj, at_rev (by omega)]
  have g := (h.2.2 (p.length - 1 - (j - 1)) (by omega)).2 (by omega)
  rw [show p.length - 1 - (j - 1) - 1 = p.length - 1 - j by omega] at g
  exact fun e => g e.symm
theorem lineP_rev (p : List Pt) : lineP p.reverse ↔ lineP p := ⟨fun h => by have g := line_rev h; rwa [List.reverse_reverse] at g, line_rev⟩
theorem segs_rev (p : List Pt) : segs p.reverse = ((segs p).map turnS).reverse := by
  by_cases hl : lineP p
  · rw [segs_line hl, segs_line (line_rev hl)]
    apply List.ext_getElem?
    intro i
    by_cases hi : i < p.length - 1
    · rw [List.getElem?_reverse (by rw [List.length_map, segsOf_length]; exact hi), List.length_map, segsOf_length]
      unfold segsOf
      rw [List.length_reverse, List.getElem?_map, List.getElem?_map, List.getElem?_map, List.getElem?_range hi, List.getElem?_range (show p.length - 1 - 1 - i < p.length - 1 by omega)]
      simp only [Option.map_some]
      rw [at_rev (show i < p.length by omega), at_rev (show i + 1 < p.length by omega)]
      unfold turnS
      simp only
      rw [show p.length - 1 - 1 - i + 1 = p.length - 1 - i by omega, show p.length - 1 - (i + 1) = p.length - 1 - 1 - i by omega]
    · rw [List.getElem?_eq_none (by rw [segsOf_length, List.length_reverse]; omega), List.getElem?_eq_none (by rw [List.length_reverse, List.length_map, segsOf_length]; omega)]
  · rw [segs_none hl, segs_none (fun h => hl ((lineP_rev p).mp h))]
    rfl
theorem sgAt_rev {s : List Sg} {i : Nat} (h : i < s.length) : sgAt (s.map turnS).reverse i = turnS (sgAt s (s.length - 1 - i)) := by
  have h1 : s.length - 1 - i < s.length := by omega
  simp [sgAt, List.getD_eq_getElem?_getD, List.getElem?_reverse, h, h1]
theorem simpleS_rev {s : List Sg} (h : simpleS s) : simpleS (s.map turnS).reverse := by
  intro i hi j hj
  rw [List.length_reverse, List.length_map] at hi
  rw [sgAt_rev hi, sgAt_rev (by omega), hmS_turn, hmS_turn', hmS_swap, h _ (by omega) _ (by omega)]
  by_cases e : j + 1 = i
  · rw [if_pos e, if_pos (by omega)]
  · rw [if_neg e, if_neg (by omega)]
theorem simple_rev {p : List Pt} (h : simpleP p) : simpleP p.reverse := ⟨line_rev h.1, by rw [segs_rev]; exact simpleS_rev h.2⟩
theorem simpleP_rev (p : List Pt) : simpleP p.reverse ↔ simpleP p := ⟨fun h => by have g := simple_rev h; rwa [List.reverse_reverse] at g, simple_rev⟩

/-! ### Steps -/
def st (x : Sg) : Int := steps x.1.1 x.1.2 x.2.1 x.2.2
def tot : List Sg → Int
 | [] => 0
 | x :: s => st x + tot s
theorem tot_append (s t : List Sg) : tot (s ++ t) = tot s + tot t := by
  induction s with
  | nil => simp [tot]
  | cons x s ih => simp [tot, ih]; omega
theorem tot_reverse (s : List Sg) : tot s.reverse = tot s := by
  induction s with
  | nil => rfl
  | cons x s ih => rw [List.reverse_cons, tot_append, ih]; simp [tot]; omega
theorem st_turn (x : Sg) : st (turnS x) = st x := by
  unfold st turnS steps
  simp only [Bool.and_comm]
  split
  · congr 1; omega
  · rfl
theorem tot_turn (s : List Sg) : tot (s.map turnS) = tot s := by
  induction s with
  | nil => rfl
  | cons x s ih => simp [tot, ih, st_turn]
theorem wrap_add (a b : Int) : wrap64 (wrap64 a + b) = wrap64 (a + b) := by unfold wrap64; omega
theorem stepsFrom_tot (s : List Sg) : ∀ n, wrap64 n = n → stepsFrom n s = wrap64 (n + tot s) := by
  induction s with
  | nil => intro n h; simp [stepsFrom, tot, h]
  | cons x s ih =>
    intro n h
    have e : stepsFrom n (x :: s) = stepsFrom (wrap64 (n + st x)) s := rfl
    rw [e, ih _ (by unfold wrap64; omega), wrap_add]
    congr 1
    simp [tot]; omega
theorem lineSteps_rev (p : List Pt) : lineSteps p.reverse = lineSteps p := by
  unfold lineSteps
  rw [stepsFrom_tot _ 0 (by unfold wrap64; omega), stepsFrom_tot _ 0 (by unfold wrap64; omega), segs_rev, tot_reverse, tot_turn]

/-! ### The greatest -/
theorem rowMost_le (x : Sg) (t : List Sg) : ∀ m c, rowMost m x t ≤ c ↔ m ≤ c ∧ ∀ y ∈ t, hmS x y ≤ c := by
  induction t with
  | nil => intro m c; simp [rowMost]
  | cons y t ih =>
    intro m c
    have e : rowMost m x (y :: t) = rowMost (max m (hmS x y)) x t := rfl
    rw [e, ih]
    constructor
    · rintro ⟨h0, h1⟩
      exact ⟨by omega, fun z hz => by
        rcases List.mem_cons.mp hz with rfl | hz
        · omega
        · exact h1 z hz⟩
    · rintro ⟨h0, h1⟩
      have := h1 y List.mem_cons_self
      exact ⟨by omega, fun z hz => h1 z (List.mem_cons_of_mem _ hz)⟩
theorem most_le (t : List Sg) (s : List Sg) : ∀ m c, most m s t ≤ c ↔ m ≤ c ∧ ∀ x ∈ s, ∀ y ∈ t, hmS x y ≤ c := by
  induction s with
  | nil => intro m c; simp [most]
  | cons x s ih =>
    intro m c
    have e : most m (x :: s) t = most (rowMost m x t) s t := rfl
    rw [e, ih, rowMost_le]
    constructor
    · rintro ⟨⟨h0, h1⟩, h2⟩
      exact ⟨h0, fun z hz => by
        rcases List.mem_cons.mp hz with rfl | hz
        · exact h1
        · exact h2 z hz⟩
    · rintro ⟨h0, h1⟩
      exact ⟨⟨h0, h1 x List.mem_cons_self⟩, fun z hz => h1 z (List.mem_cons_of_mem _ hz)⟩
theorem most_eq {s t s' t' : List Sg} (h : ∀ c, (∀ x ∈ s, ∀ y ∈ t, hmS x y ≤ c) ↔ (∀ x ∈ s', ∀ y ∈ t', hmS x y ≤ c)) : most 0 s t = most 0 s' t' := by
  have a := (most_le t s 0 (most 0 s' t')).mpr
  have b := (most_le t' s' 0 (most 0 s t)).mpr
  have a' := (most_le t' s' 0 (most 0 s' t')).mp (Int.le_refl _)
  have b' := (most_le t s 0 (most 0 s t)).mp (Int.le_refl _)
  have h1 := a ⟨a'.1, (h _).mpr a'.2⟩
  have h2 := b ⟨b'.1, (h _).mp b'.2⟩
  omega
theorem linesMeet_swap (p q : List Pt) : linesMeet p q = linesMeet q p := by
  unfold linesMeet
  exact most_eq fun c => ⟨fun h x hx y hy => by rw [hmS_swap]; exact h y hy x hx, fun h x hx y hy => by rw [hmS_swap]; exact h y hy x hx⟩
theorem linesMeet_rev (p q : List Pt) : linesMeet p.reverse q = linesMeet p q := by
  unfold linesMeet
  rw [segs_rev]
  refine most_eq fun c => ⟨fun h x hx y hy => ?_, fun h x hx y hy => ?_⟩
  · rw [← hmS_turn]
    exact h (turnS x) (by rw [List.mem_reverse]; exact List.mem_map_of_mem hx) y hy
  · rw [List.mem_reverse, List.mem_map] at hx
    obtain ⟨z, hz, rfl⟩ := hx
    rw [hmS_turn]
    exact h z hz y hy
end Go.Proofs.Ytomkdfpcckgajaa.Rv
