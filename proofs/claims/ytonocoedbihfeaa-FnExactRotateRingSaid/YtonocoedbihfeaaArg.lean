/- How a point and a segment that come in by value are read. -/
import Derived.WalkKit
import Derived.ProofKit
import Derived.OpenShut
import Derived.Lib.SmallJoins
import Derived.Deep.Slices
namespace Go.Proofs.Ytonocoedbihfeaa.Arg
open Go.ChangeShapes Go.WideShapes Go.ChangeAt Go.RowKit Go.Joins
set_option linter.unusedVariables false
set_option linter.unusedSimpArgs false

section
variable {H : Type} {enc : TypeId × Value → H} {P : Program} {w : World} {base : Nat} {spare : Nat → Bool} {held : Bool}

/-- Where the two cells of a point lie. -/
def flatPoint (P : Program) (g0 g1 : Field) : Bool := g0.offset == 0 && g1.offset == 1 && P.cellsOf g0.type == 1 && P.cellsOf g1.type == 1

theorem read_point {tp ti : TypeId} {g0 g1 : Field} {fuel : Nat} {c0 c1 : Value} {y : DataW H × List MemPlace} (hp : P.underlying tp = some (.struct #[g0, g1])) (hi0 : P.underlying g0.type = some (.int .i64)) (hi1 : P.underlying g1.type = some (.int .i64))
    (hf : flatPoint P g0 g1 = true) (h : DataW.trod enc P w base spare held fuel tp [c0, c1] = some y) :
    ∃ a b : Int, c0 = .int .i64 a ∧ c1 = .int .i64 b ∧ (Lit.int .i64 a).wf = true ∧ (Lit.int .i64 b).wf = true := by
  simp only [flatPoint, Bool.and_eq_true, beq_iff_eq] at hf
  obtain ⟨⟨⟨o0, o1⟩, z0⟩, z1⟩ := hf
  obtain ⟨y0, y1, n, _, _, h0, h1⟩ := trod_struct2 hp h
  rw [o0, z0] at h0
  rw [o1, z1] at h1
  obtain ⟨a, ea, _, wa⟩ := DataW.trod_int hi0 h0
  obtain ⟨b, eb, _, wb⟩ := DataW.trod_int hi1 h1
  simp at ea eb
  exact ⟨a, b, ea, eb, wa, wb⟩

theorem open_point {r : Reach} {b0 : Nat} {t ti : TypeId} {f0 f1 : Field} {v : Value} {d : DataW H} {p : List MemPlace} (hs : P.underlying t = some (.struct #[f0, f1])) (hi : P.underlying ti = some (.int .i64))
    (hf : (f0.type == ti && f1.type == ti && flatPoint P f0 f1 && P.cellsOf t == 2) = true)
    (hv : Value.okWide P w r b0 t v) (h : DataW.Trod enc P w base spare held t v d p) :
    ∃ a b : Int, v = .agg #[.int .i64 a, .int .i64 b] ∧ (Lit.int .i64 a).wf = true ∧ (Lit.int .i64 b).wf = true := by
  simp only [Bool.and_eq_true, beq_iff_eq] at hf
  obtain ⟨⟨⟨t0, t1⟩, hfl⟩, hC⟩ := hf
  obtain ⟨cs, rfl, hsz⟩ := okWide_struct hs hv
  obtain ⟨c0, c1, rfl⟩ := array2 (hsz.trans hC)
  obtain ⟨fuel, hf⟩ := h
  obtain ⟨a, b, rfl, rfl, wa, wb⟩ := read_point (ti := ti) hs (by rw [t0]; exact hi) (by rw [t1]; exact hi) hfl (by simpa [Value.cells] using hf)
  exact ⟨a, b, rfl, wa, wb⟩

theorem open_segment {r : Reach} {b0 : Nat} {t tp ti : TypeId} {f0 f1 g0 g1 : Field} {v : Value} {d : DataW H} {p : List MemPlace} (hs : P.underlying t = some (.struct #[f0, f1])) (hp : P.underlying tp = some (.struct #[g0, g1])) (hi : P.underlying ti = some (.int .i64))
    (hf : (f0.type == tp && f1.type == tp && f0.offset == 0 && f1.offset == 2 && P.cellsOf t == 4 && g0.type == ti && g1.type == ti && flatPoint P g0 g1 && P.cellsOf tp == 2) = true)
    (hv : Value.okWide P w r b0 t v) (h : DataW.Trod enc P w base spare held t v d p) :
    ∃ a b c e : Int, v = .agg #[.int .i64 a, .int .i64 b, .int .i64 c, .int .i64 e] ∧ (Lit.int .i64 a).wf = true ∧ (Lit.int .i64 b).wf = true ∧ (Lit.int .i64 c).wf = true ∧ (Lit.int .i64 e).wf = true := by
  simp only [Bool.and_eq_true, beq_iff_eq] at hf
  obtain ⟨⟨⟨⟨⟨⟨⟨⟨t0, t1⟩, o0⟩, o1⟩, hC⟩, u0⟩, u1⟩, hfl⟩, hCp⟩ := hf
  obtain ⟨cs, rfl, hsz⟩ := okWide_struct hs hv
  obtain ⟨c0, c1, c2, c3, rfl⟩ := array4 (hsz.trans hC)
  obtain ⟨fuel, hf⟩ := h
  obtain ⟨y0, y1, n, _, _, h0, h1⟩ := trod_struct2 hs hf
  rw [t0, o0, hCp] at h0
  rw [t1, o1, hCp] at h1
  obtain ⟨a, b, rfl, rfl, wa, wb⟩ := read_point (ti := ti) hp (by rw [u0]; exact hi) (by rw [u1]; exact hi) hfl (by simpa [Value.cells] using h0)
  obtain ⟨c, e, rfl, rfl, wc, we⟩ := read_point (ti := ti) hp (by rw [u0]; exact hi) (by rw [u1]; exact hi) hfl (by simpa [Value.cells] using h1)
  exact ⟨a, b, c, e, rfl, wa, wb, wc, we⟩

theorem add_add (a : Addr) (m n : Nat) : (a.add m).add n = a.add (m + n) := by
  by_cases hn : n = 0
  · subst hn; simp [Addr.add]
  · by_cases hm : m = 0
    · subst hm; simp [Addr.add]
    · have hmn : ¬ m + n = 0 := by omega
      simp only [Addr.add, if_neg hn, if_neg hm, if_neg hmn, Nat.add_assoc]

/-- A slice of points that comes in: the numbers, and where they lie. -/
theorem open_points {r : Reach} {b0 : Nat} {t tp ti : TypeId} {g0 g1 : Field} {v : Value} {d : DataW H} {p : List MemPlace} (hs : P.underlying t = some (.slice tp)) (hp : P.underlying tp = some (.struct #[g0, g1])) (hi : P.underlying ti = some (.int .i64))
    (hf : (g0.type == ti && g1.type == ti && flatPoint P g0 g1 && P.cellsOf tp == 2) = true)
    (hv : Value.okWide P w r b0 t v) (h : DataW.Trod enc P w base spare held t v d p) :
    ∃ (A : Option Addr) (cap : Nat) (ps : List (Int × Int)), v = .slice A ps.length cap ∧ ps.length ≤ cap ∧ ps.length ≤ 9223372036854775807 ∧ (∀ q ∈ ps, (Lit.int .i64 q.1).wf = true ∧ (Lit.int .i64 q.2).wf = true) ∧
      (0 < ps.length → ∃ ad, A = some ad ∧ ∀ (j : Nat) (q : Int × Int), ps[j]? = some q → w.cell? (ad.add (j * 2)) = some (.int .i64 q.1) ∧ w.cell? (ad.add (j * 2 + 1)) = some (.int .i64 q.2)) := by
  simp only [Bool.and_eq_true, beq_iff_eq] at hf
  obtain ⟨⟨⟨u0, u1⟩, hfl⟩, hCp⟩ := hf
  obtain ⟨a0, len, cap, rfl⟩ := okWide_slice hs hv
  obtain ⟨fuel, hf⟩ := h
  rcases Go.Deep.open_slice hs hf with ⟨hcs, hx⟩ | ⟨a, len', cap', m, n, D, Pl, hcs, _, hl, hm, hmm, hx, hel⟩
  · simp [Value.cells] at hcs
    obtain ⟨rfl, rfl, rfl⟩ := hcs
    exact ⟨none, 0, [], rfl, by simp, by simp, by simp, by simp⟩
  · simp [Value.cells] at hcs
    obtain ⟨rfl, rfl, rfl⟩ := hcs
    have hlen : len ≤ m := by rw [hmm]; split <;> omega
    have each : ∀ i, i < len → ∃ q : Int × Int, w.cell? (a.add (i * 2)) = some (.int .i64 q.1) ∧ w.cell? (a.add (i * 2 + 1)) = some (.int .i64 q.2) ∧ (Lit.int .i64 q.1).wf = true ∧ (Lit.int .i64 q.2).wf = true := by
      intro i hi
      obtain ⟨cs', h1, h2⟩ := hel i (by omega)
      rw [hCp] at h1
      obtain ⟨_, hl2, hc⟩ := World.cells?_some h1
      match cs', hl2 with
      | [c0, c1], _ =>
        obtain ⟨x, y, rfl, rfl, wx, wy⟩ := read_point (ti := ti) hp (by rw [u0]; assumption) (by rw [u1]; assumption) hfl h2
        have k0 := hc 0 (by omega)
        have k1 := hc 1 (by omega)
        rw [add_add] at k0 k1
        exact ⟨(x, y), by simpa using k0, by simpa using k1, wx, wy⟩
    obtain ⟨f, hf⟩ := Go.Deep.choose_lt each
    refine ⟨some a, cap, (List.range len).map f, by simp, by simpa using hl, ?_, ?_, ?_⟩
    · have : cap ≤ 9223372036854775807 := by unfold maxLen at hm; omega
      simp; omega
    · intro q hq
      simp only [List.mem_map, List.mem_range] at hq
      obtain ⟨i, hi, rfl⟩ := hq
      exact (hf i hi).2.2
    · intro hn
      refine ⟨a, rfl, fun j q hj => ?_⟩
      simp only [List.getElem?_map, Option.map_eq_some_iff] at hj
      obtain ⟨i, hi, rfl⟩ := hj
      have hj' : j < len := by
        rcases Nat.lt_or_ge j len with h' | h'
        · exact h'
        · rw [List.getElem?_eq_none (by simpa using h')] at hi; cases hi
      rw [List.getElem?_range hj'] at hi
      cases hi
      exact ⟨(hf j hj').1, (hf j hj').2.1⟩
end
end Go.Proofs.Ytonocoedbihfeaa.Arg
