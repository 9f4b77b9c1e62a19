/- Lemmas on worlds, rows and regions, those that this claim needs. -/
import Derived.Test.YtokhmgfjgpcmdaaVBase
import Derived.Test.YtokhmgfjgpcmdaaVGeo
namespace Go.Proofs.Ytokhmgfjgpcmdaa.Ln
open Go Go.RowKit Go.Proofs.Ytokhmgfjgpcmdaa.Base Go.Proofs.Ytokhmgfjgpcmdaa.Geo
set_option linter.unusedVariables false
set_option linter.unusedSimpArgs false
noncomputable def B (P : Prop) : Bool := @decide P (Classical.propDecidable P)
def at_ (p : List Pt) (i : Nat) : Pt := p.getD i (0, 0)
abbrev Sg := Pt × Pt
def okS (s : Sg) : Bool := isSg s.1.1 s.1.2 s.2.1 s.2.2
theorem okS_iff {s : Sg} : okS s = true ↔ isPt s.1.1 s.1.2 = true ∧ isPt s.2.1 s.2.2 = true ∧ s.1 ≠ s.2 := by
  unfold okS; exact isSg_iff
def hmS (s t : Sg) : Int := if okS s && okS t then hm s.1 s.2 t.1 t.2 else 0
theorem hmS_swap (s t : Sg) : hmS s t = hmS t s := by
  unfold hmS
  rw [Bool.and_comm]
  by_cases h : (okS t && okS s) = true
  · rw [if_pos h, if_pos h]
    rw [Bool.and_eq_true] at h
    exact hm_swap (okS_iff.mp h.2).2.2 (okS_iff.mp h.1).2.2
  · rw [if_neg h, if_neg h]
def turnS (s : Sg) : Sg := (s.2, s.1)
theorem okS_turn (s : Sg) : okS (turnS s) = okS s := by
  have h : okS (turnS s) = true ↔ okS s = true := by
    rw [okS_iff, okS_iff]
    unfold turnS
    constructor
    · rintro ⟨h0, h1, h2⟩; exact ⟨h1, h0, fun e => h2 e.symm⟩
    · rintro ⟨h0, h1, h2⟩; exact ⟨h1, h0, fun e => h2 e.symm⟩
  cases e1 : okS (turnS s) <;> cases e2 : okS s <;> simp_all
theorem hmS_turn (s t : Sg) : hmS (turnS s) t = hmS s t := by
  unfold hmS
  rw [okS_turn]
  by_cases h : (okS s && okS t) = true
  · rw [if_pos h, if_pos h]
    rw [Bool.and_eq_true] at h
    exact (hm_turn _ _ (okS_iff.mp h.1).2.2).symm
  · rw [if_neg h, if_neg h]
theorem hmS_turn' (s t : Sg) : hmS s (turnS t) = hmS s t := by rw [hmS_swap, hmS_turn, hmS_swap]
end Go.Proofs.Ytokhmgfjgpcmdaa.Ln
