/- Lemmas on worlds, rows and regions, those that this claim needs. -/
namespace Go.Proofs.Ytokhmgfjgpcmdaa.Geo
set_option linter.unusedVariables false
set_option linter.unusedSimpArgs false
abbrev Pt := Int × Int
def cr (a b p : Pt) : Int := (b.1 - a.1) * (p.2 - a.2) - (b.2 - a.2) * (p.1 - a.1)
def bx (a b p : Pt) : Prop := min a.1 b.1 ≤ p.1 ∧ p.1 ≤ max a.1 b.1 ∧ min a.2 b.2 ≤ p.2 ∧ p.2 ≤ max a.2 b.2
def on (a b p : Pt) : Prop := cr a b p = 0 ∧ bx a b p
def before (p q : Pt) : Prop := p.2 < q.2 ∨ (p.2 = q.2 ∧ p.1 < q.1)
def key (a b p : Pt) : Int := if a.2 = b.2 then p.1 else p.2
theorem pt_ne {a b : Pt} (h : a ≠ b) : a.1 ≠ b.1 ∨ a.2 ≠ b.2 := by
  by_cases h1 : a.1 = b.1
  · right; intro h2; exact h (Prod.ext h1 h2)
  · exact Or.inl h1
theorem par_of {a b p q : Pt} (hp : cr a b p = 0) (hq : cr a b q = 0) : (b.1 - a.1) * (p.2 - q.2) = (b.2 - a.2) * (p.1 - q.1) := by
  unfold cr at hp hq
  grind
theorem par_sign (dx dy : Int) (h : dy ≠ 0) :
    (∀ A B : Int, dx * B = dy * A → 0 ≤ B → 0 ≤ A) ∨ (∀ A B : Int, dx * B = dy * A → 0 ≤ B → A ≤ 0) := by
  have hsq : 0 < dy * dy := by
    rcases Int.lt_or_gt_of_ne h with h | h
    · exact Int.mul_pos_of_neg_of_neg h h
    · exact Int.mul_pos h h
  rcases Int.le_total 0 (dx * dy) with hs | hs
  · left
    intro A B e hB
    have h2 : 0 ≤ dx * dy * B := Int.mul_nonneg hs hB
    have h3 : dy * dy * A = dx * dy * B := by grind
    rcases Int.lt_or_le A 0 with hA | hA
    · have := Int.mul_neg_of_pos_of_neg hsq hA
      omega
    · exact hA
  · right
    intro A B e hB
    have h2 : dx * dy * B ≤ 0 := Int.mul_nonpos_of_nonpos_of_nonneg hs hB
    have h3 : dy * dy * A = dx * dy * B := by grind
    rcases Int.lt_or_le 0 A with hA | hA
    · have := Int.mul_pos hsq hA
      omega
    · exact hA
theorem flat {a b p q : Pt} (hne : a ≠ b) (hy : a.2 = b.2) (hp : cr a b p = 0) (hq : cr a b q = 0) : p.2 = q.2 := by
  have h := par_of hp hq
  have hx : b.1 - a.1 ≠ 0 := by rcases pt_ne hne with h | h <;> omega
  have h0 : (b.1 - a.1) * (p.2 - q.2) = 0 := by rw [h, show b.2 - a.2 = 0 by omega]; simp
  rcases Int.mul_eq_zero.mp h0 with h1 | h1
  · exact absurd h1 hx
  · omega
theorem steep {a b : Pt} (hy : a.2 ≠ b.2) :
    (∀ p q : Pt, cr a b p = 0 → cr a b q = 0 → q.2 ≤ p.2 → q.1 ≤ p.1) ∨ (∀ p q : Pt, cr a b p = 0 → cr a b q = 0 → q.2 ≤ p.2 → p.1 ≤ q.1) := by
  rcases par_sign (b.1 - a.1) (b.2 - a.2) (by omega) with h | h
  · left
    intro p q hp hq hle
    have := h (p.1 - q.1) (p.2 - q.2) (par_of hp hq) (by omega)
    omega
  · right
    intro p q hp hq hle
    have := h (p.1 - q.1) (p.2 - q.2) (par_of hp hq) (by omega)
    omega
theorem steep_same {a b p q : Pt} (hy : a.2 ≠ b.2) (hp : cr a b p = 0) (hq : cr a b q = 0) (h : p.2 = q.2) : p.1 = q.1 := by
  rcases steep hy with hs | hs
  · have h1 := hs p q hp hq (by omega)
    have h2 := hs q p hq hp (by omega)
    omega
  · have h1 := hs p q hp hq (by omega)
    have h2 := hs q p hq hp (by omega)
    omega
theorem key_eq {a b p q : Pt} (hne : a ≠ b) (hp : cr a b p = 0) (hq : cr a b q = 0) : p = q ↔ key a b p = key a b q := by
  constructor
  · intro h; rw [h]
  · unfold key
    intro h
    by_cases hy : a.2 = b.2
    · rw [if_pos hy, if_pos hy] at h
      exact Prod.ext h (flat hne hy hp hq)
    · rw [if_neg hy, if_neg hy] at h
      exact Prod.ext (steep_same hy hp hq h) h
theorem key_before {a b p q : Pt} (hne : a ≠ b) (hp : cr a b p = 0) (hq : cr a b q = 0) : before p q ↔ key a b p < key a b q := by
  unfold key before
  by_cases hy : a.2 = b.2
  · rw [if_pos hy, if_pos hy]
    have := flat hne hy hp hq
    omega
  · rw [if_neg hy, if_neg hy]
    constructor
    · rintro (h | ⟨h, h1⟩)
      · exact h
      · have := steep_same hy hp hq h
        omega
    · exact Or.inl
theorem key_box {a b p q r : Pt} (hne : a ≠ b) (hp : cr a b p = 0) (hq : cr a b q = 0) (hr : cr a b r = 0) :
    bx p q r ↔ min (key a b p) (key a b q) ≤ key a b r ∧ key a b r ≤ max (key a b p) (key a b q) := by
  unfold key bx
  by_cases hy : a.2 = b.2
  · rw [if_pos hy, if_pos hy, if_pos hy]
    have h1 := flat hne hy hp hr
    have h2 := flat hne hy hq hr
    omega
  · rw [if_neg hy, if_neg hy, if_neg hy]
    constructor
    · intro h; exact ⟨h.2.2.1, h.2.2.2⟩
    · intro h
      rcases steep hy with hs | hs
      · rcases Int.le_total p.2 q.2 with hpq | hpq
        · have h1 := hs r p hr hp (by omega)
          have h2 := hs q r hq hr (by omega)
          omega
        · have h1 := hs r q hr hq (by omega)
          have h2 := hs p r hp hr (by omega)
          omega
      · rcases Int.le_total p.2 q.2 with hpq | hpq
        · have h1 := hs r p hr hp (by omega)
          have h2 := hs q r hq hr (by omega)
          omega
        · have h1 := hs r q hr hq (by omega)
          have h2 := hs p r hp hr (by omega)
          omega
theorem cr_left (a b : Pt) : cr a b a = 0 := by unfold cr; grind
theorem cr_right (a b : Pt) : cr a b b = 0 := by unfold cr; grind
theorem cr_turn (a b p : Pt) : cr b a p = - cr a b p := by unfold cr; grind
theorem cr_rot (a b p : Pt) : cr b p a = cr a b p := by unfold cr; grind
theorem line_through {a b p q r : Pt} (hpq : p ≠ q) (hp : cr a b p = 0) (hq : cr a b q = 0) (hr : cr p q r = 0) : cr a b r = 0 := by
  have e1 : cr a b r * (q.1 - p.1) = cr p q r * (b.1 - a.1) + (cr a b q * (r.1 - p.1) - cr a b p * (r.1 - q.1)) := by unfold cr; grind
  have e2 : cr a b r * (q.2 - p.2) = cr p q r * (b.2 - a.2) + (cr a b q * (r.2 - p.2) - cr a b p * (r.2 - q.2)) := by unfold cr; grind
  rw [hp, hq, hr] at e1 e2
  simp only [Int.zero_mul, Int.sub_self, Int.add_zero] at e1 e2
  rcases pt_ne hpq with h | h
  · rcases Int.mul_eq_zero.mp e1 with h1 | h1
    · exact h1
    · omega
  · rcases Int.mul_eq_zero.mp e2 with h1 | h1
    · exact h1
    · omega
def ct (p : Prop) [Decidable p] : Int := if p then 1 else 0
instance decOn (a b p : Pt) : Decidable (on a b p) := inferInstanceAs (Decidable (cr a b p = 0 ∧ min a.1 b.1 ≤ p.1 ∧ p.1 ≤ max a.1 b.1 ∧ min a.2 b.2 ≤ p.2 ∧ p.2 ≤ max a.2 b.2))
instance decBefore (p q : Pt) : Decidable (before p q) := inferInstanceAs (Decidable (p.2 < q.2 ∨ (p.2 = q.2 ∧ p.1 < q.1)))
def shared (a b c d : Pt) : Int :=
  ct (on c d a) + ct (on c d b ∧ ¬ (on c d a ∧ a = b)) + ct (on a b c ∧ ¬ (on c d a ∧ a = c) ∧ ¬ (on c d b ∧ b = c)) +
    ct (on a b d ∧ ¬ (on c d a ∧ a = d) ∧ ¬ (on c d b ∧ b = d) ∧ ¬ (on a b c ∧ c = d))
def crossing (a b c d : Pt) : Prop := ((0 < cr a b c ∧ cr a b d < 0) ∨ (cr a b c < 0 ∧ 0 < cr a b d)) ∧ ((0 < cr c d a ∧ cr c d b < 0) ∨ (cr c d a < 0 ∧ 0 < cr c d b))
instance decCrossing (a b c d : Pt) : Decidable (crossing a b c d) := inferInstanceAs (Decidable (((0 < cr a b c ∧ cr a b d < 0) ∨ (cr a b c < 0 ∧ 0 < cr a b d)) ∧ ((0 < cr c d a ∧ cr c d b < 0) ∨ (cr c d a < 0 ∧ 0 < cr c d b))))
def hm (a b c d : Pt) : Int := if shared a b c d = 0 then (if crossing a b c d then 2 else 0) else if shared a b c d = 1 then 1 else 3
def apart (a b c d : Pt) : Prop := max a.1 b.1 < min c.1 d.1 ∨ max c.1 d.1 < min a.1 b.1 ∨ max a.2 b.2 < min c.2 d.2 ∨ max c.2 d.2 < min a.2 b.2
theorem shared_none {a b c d : Pt} (h0 : ¬ on c d a) (h1 : ¬ on c d b) (h2 : ¬ on a b c) (h3 : ¬ on a b d) : shared a b c d = 0 := by
  unfold shared ct
  simp [h0, h1, h2, h3]
theorem shared_some {a b c d : Pt} (h : on c d a ∨ on c d b ∨ on a b c ∨ on a b d) : 1 ≤ shared a b c d := by
  unfold shared ct
  by_cases h0 : on c d a
  · rw [if_pos h0]; repeat' split
    all_goals omega
  · by_cases h1 : on c d b
    · rw [if_neg h0, if_pos ⟨h1, fun h => h0 h.1⟩]; repeat' split
      all_goals omega
    · by_cases h2 : on a b c
      · rw [if_neg h0, if_neg (fun h => h1 h.1), if_pos ⟨h2, fun h => h0 h.1, fun h => h1 h.1⟩]; repeat' split
        all_goals omega
      · have h3 : on a b d := by rcases h with h | h | h | h <;> first | contradiction | exact h
        rw [if_neg h0, if_neg (fun h => h1 h.1), if_neg (fun h => h2 h.1), if_pos ⟨h3, fun h => h0 h.1, fun h => h1 h.1, fun h => h2 h.1⟩]
        omega
theorem line_back {a b p q r : Pt} (hab : a ≠ b) (hp : cr a b p = 0) (hq : cr a b q = 0) (hr : cr a b r = 0) : cr p q r = 0 := by
  have e1 : cr p q r * (b.1 - a.1) = (cr a b r - cr a b p) * (q.1 - p.1) - (cr a b q - cr a b p) * (r.1 - p.1) := by unfold cr; grind
  have e2 : cr p q r * (b.2 - a.2) = (cr a b r - cr a b p) * (q.2 - p.2) - (cr a b q - cr a b p) * (r.2 - p.2) := by unfold cr; grind
  rw [hp, hq, hr] at e1 e2
  simp only [Int.zero_mul, Int.sub_self] at e1 e2
  rcases pt_ne hab with h | h
  · rcases Int.mul_eq_zero.mp e1 with h1 | h1
    · exact h1
    · omega
  · rcases Int.mul_eq_zero.mp e2 with h1 | h1
    · exact h1
    · omega
theorem cnt_le {S0 S1 S2 S3 Eab Eac Ead Ebc Ebd Ecd : Prop} [Decidable S0] [Decidable S1] [Decidable S2] [Decidable S3] [Decidable Eab] [Decidable Eac] [Decidable Ead] [Decidable Ebc] [Decidable Ebd] [Decidable Ecd]
    (n01 : ¬ (S0 ∧ S1)) (n23 : ¬ (S2 ∧ S3)) (n02 : S0 → S2 → Eac) (n03 : S0 → S3 → Ead) (n12 : S1 → S2 → Ebc) (n13 : S1 → S3 → Ebd) :
    ct S0 + ct (S1 ∧ ¬ (S0 ∧ Eab)) + ct (S2 ∧ ¬ (S0 ∧ Eac) ∧ ¬ (S1 ∧ Ebc)) + ct (S3 ∧ ¬ (S0 ∧ Ead) ∧ ¬ (S1 ∧ Ebd) ∧ ¬ (S2 ∧ Ecd)) ≤ 1 := by
  by_cases h0 : S0 <;> by_cases h1 : S1 <;> by_cases h2 : S2 <;> by_cases h3 : S3 <;> simp_all [ct]
theorem shared_one {a b c d : Pt} (hab : a ≠ b) (hcd : c ≠ d) (hn : ¬ (cr a b c = 0 ∧ cr a b d = 0)) : shared a b c d ≤ 1 := by
  unfold shared
  refine cnt_le ?_ ?_ ?_ ?_ ?_ ?_
  · rintro ⟨⟨h1, _⟩, ⟨h2, _⟩⟩
    exact hn ⟨line_back hcd h1 h2 (cr_left ..), line_back hcd h1 h2 (cr_right ..)⟩
  · rintro ⟨⟨h1, _⟩, ⟨h2, _⟩⟩
    exact hn ⟨h1, h2⟩
  · rintro ⟨h1, _⟩ ⟨h2, _⟩
    by_cases e : a = c
    · exact e
    · exact absurd ⟨h2, line_through e (cr_left ..) h2 (by rw [← cr_rot]; exact h1)⟩ hn
  · rintro ⟨h1, _⟩ ⟨h2, _⟩
    by_cases e : a = d
    · exact e
    · exact absurd ⟨line_through e (cr_left ..) h2 (by rw [← cr_rot, cr_turn, h1]; rfl), h2⟩ hn
  · rintro ⟨h1, _⟩ ⟨h2, _⟩
    by_cases e : b = c
    · exact e
    · exact absurd ⟨h2, line_through e (cr_right ..) h2 (by rw [← cr_rot]; exact h1)⟩ hn
  · rintro ⟨h1, _⟩ ⟨h2, _⟩
    by_cases e : b = d
    · exact e
    · exact absurd ⟨line_through e (cr_right ..) h2 (by rw [← cr_rot, cr_turn, h1]; rfl), h2⟩ hn
theorem crossing_none {a b c d : Pt} (h : crossing a b c d) : ¬ on c d a ∧ ¬ on c d b ∧ ¬ on a b c ∧ ¬ on a b d := by
  unfold crossing at h
  unfold on
  omega
theorem cnt_keys (ka kb kc kd : Int) (hab : ka ≠ kb) (hcd : kc ≠ kd) :
    (max (min ka kb) (min kc kd) > min (max ka kb) (max kc kd) →
      ct (min kc kd ≤ ka ∧ ka ≤ max kc kd) + ct ((min kc kd ≤ kb ∧ kb ≤ max kc kd) ∧ ¬ ((min kc kd ≤ ka ∧ ka ≤ max kc kd) ∧ ka = kb)) +
        ct ((min ka kb ≤ kc ∧ kc ≤ max ka kb) ∧ ¬ ((min kc kd ≤ ka ∧ ka ≤ max kc kd) ∧ ka = kc) ∧ ¬ ((min kc kd ≤ kb ∧ kb ≤ max kc kd) ∧ kb = kc)) +
        ct ((min ka kb ≤ kd ∧ kd ≤ max ka kb) ∧ ¬ ((min kc kd ≤ ka ∧ ka ≤ max kc kd) ∧ ka = kd) ∧ ¬ ((min kc kd ≤ kb ∧ kb ≤ max kc kd) ∧ kb = kd) ∧ ¬ ((min ka kb ≤ kc ∧ kc ≤ max ka kb) ∧ kc = kd)) = 0) ∧
    (max (min ka kb) (min kc kd) = min (max ka kb) (max kc kd) →
      ct (min kc kd ≤ ka ∧ ka ≤ max kc kd) + ct ((min kc kd ≤ kb ∧ kb ≤ max kc kd) ∧ ¬ ((min kc kd ≤ ka ∧ ka ≤ max kc kd) ∧ ka = kb)) +
        ct ((min ka kb ≤ kc ∧ kc ≤ max ka kb) ∧ ¬ ((min kc kd ≤ ka ∧ ka ≤ max kc kd) ∧ ka = kc) ∧ ¬ ((min kc kd ≤ kb ∧ kb ≤ max kc kd) ∧ kb = kc)) +
        ct ((min ka kb ≤ kd ∧ kd ≤ max ka kb) ∧ ¬ ((min kc kd ≤ ka ∧ ka ≤ max kc kd) ∧ ka = kd) ∧ ¬ ((min kc kd ≤ kb ∧ kb ≤ max kc kd) ∧ kb = kd) ∧ ¬ ((min ka kb ≤ kc ∧ kc ≤ max ka kb) ∧ kc = kd)) = 1) ∧
    (max (min ka kb) (min kc kd) < min (max ka kb) (max kc kd) →
      2 ≤ ct (min kc kd ≤ ka ∧ ka ≤ max kc kd) + ct ((min kc kd ≤ kb ∧ kb ≤ max kc kd) ∧ ¬ ((min kc kd ≤ ka ∧ ka ≤ max kc kd) ∧ ka = kb)) +
        ct ((min ka kb ≤ kc ∧ kc ≤ max ka kb) ∧ ¬ ((min kc kd ≤ ka ∧ ka ≤ max kc kd) ∧ ka = kc) ∧ ¬ ((min kc kd ≤ kb ∧ kb ≤ max kc kd) ∧ kb = kc)) +
        ct ((min ka kb ≤ kd ∧ kd ≤ max ka kb) ∧ ¬ ((min kc kd ≤ ka ∧ ka ≤ max kc kd) ∧ ka = kd) ∧ ¬ ((min kc kd ≤ kb ∧ kb ≤ max kc kd) ∧ kb = kd) ∧ ¬ ((min ka kb ≤ kc ∧ kc ≤ max ka kb) ∧ kc = kd))) := by
  unfold ct
  refine ⟨fun h => ?_, fun h => ?_, fun h => ?_⟩ <;> (repeat' split) <;> omega
theorem ct_congr {p q : Prop} [Decidable p] [Decidable q] (h : p ↔ q) : ct p = ct q := by
  unfold ct
  by_cases hp : p
  · rw [if_pos hp, if_pos (h.mp hp)]
  · rw [if_neg hp, if_neg (fun hq => hp (h.mpr hq))]
theorem shared_keys {a b c d : Pt} (hab : a ≠ b) (hc : cr a b c = 0) (hd : cr a b d = 0) (ka kb kc kd : Int)
    (ea : key a b a = ka) (eb : key a b b = kb) (ec : key a b c = kc) (ed : key a b d = kd) : shared a b c d =
      ct (min kc kd ≤ ka ∧ ka ≤ max kc kd) + ct ((min kc kd ≤ kb ∧ kb ≤ max kc kd) ∧ ¬ ((min kc kd ≤ ka ∧ ka ≤ max kc kd) ∧ ka = kb)) +
        ct ((min ka kb ≤ kc ∧ kc ≤ max ka kb) ∧ ¬ ((min kc kd ≤ ka ∧ ka ≤ max kc kd) ∧ ka = kc) ∧ ¬ ((min kc kd ≤ kb ∧ kb ≤ max kc kd) ∧ kb = kc)) +
        ct ((min ka kb ≤ kd ∧ kd ≤ max ka kb) ∧ ¬ ((min kc kd ≤ ka ∧ ka ≤ max kc kd) ∧ ka = kd) ∧ ¬ ((min kc kd ≤ kb ∧ kb ≤ max kc kd) ∧ kb = kd) ∧ ¬ ((min ka kb ≤ kc ∧ kc ≤ max ka kb) ∧ kc = kd)) := by
  have ha := cr_left a b
  have hb := cr_right a b
  have s0 : on c d a ↔ min kc kd ≤ ka ∧ ka ≤ max kc kd := by
    rw [← ea, ← ec, ← ed, ← key_box hab hc hd ha]
    exact ⟨fun h => h.2, fun h => ⟨line_back hab hc hd ha, h⟩⟩
  have s1 : on c d b ↔ min kc kd ≤ kb ∧ kb ≤ max kc kd := by
    rw [← eb, ← ec, ← ed, ← key_box hab hc hd hb]
    exact ⟨fun h => h.2, fun h => ⟨line_back hab hc hd hb, h⟩⟩
  have s2 : on a b c ↔ min ka kb ≤ kc ∧ kc ≤ max ka kb := by
    rw [← ea, ← eb, ← ec, ← key_box hab ha hb hc]
    exact ⟨fun h => h.2, fun h => ⟨hc, h⟩⟩
  have s3 : on a b d ↔ min ka kb ≤ kd ∧ kd ≤ max ka kb := by
    rw [← ea, ← eb, ← ed, ← key_box hab ha hb hd]
    exact ⟨fun h => h.2, fun h => ⟨hd, h⟩⟩
  have eab : a = b ↔ ka = kb := by rw [← ea, ← eb]; exact key_eq hab ha hb
  have eac : a = c ↔ ka = kc := by rw [← ea, ← ec]; exact key_eq hab ha hc
  have ead : a = d ↔ ka = kd := by rw [← ea, ← ed]; exact key_eq hab ha hd
  have ebc : b = c ↔ kb = kc := by rw [← eb, ← ec]; exact key_eq hab hb hc
  have ebd : b = d ↔ kb = kd := by rw [← eb, ← ed]; exact key_eq hab hb hd
  have ecd : c = d ↔ kc = kd := by rw [← ec, ← ed]; exact key_eq hab hc hd
  unfold shared
  congr 1
  · congr 1
    · congr 1
      · exact ct_congr s0
      · exact ct_congr (by rw [s1, s0, eab])
    · exact ct_congr (by rw [s2, s0, s1, eac, ebc])
  · exact ct_congr (by rw [s3, s0, s1, s2, ead, ebd, ecd])
def hmLine (a b c d : Pt) : Int :=
  let s1 := if before b a then b else a
  let s2 := if before b a then a else b
  let t1 := if before d c then d else c
  let t2 := if before d c then c else d
  let low := if before s1 t1 then t1 else s1
  let high := if before t2 s2 then t2 else s2
  if before high low then 0 else if low = high then 1 else 3
theorem hm_line {a b c d : Pt} (hab : a ≠ b) (hcd : c ≠ d) (hc : cr a b c = 0) (hd : cr a b d = 0) : hmLine a b c d = hm a b c d := by
  have ha := cr_left a b
  have hb := cr_right a b
  have nab : key a b a ≠ key a b b := fun h => hab ((key_eq hab ha hb).mpr h)
  have ncd : key a b c ≠ key a b d := fun h => hcd ((key_eq hab hc hd).mpr h)
  have K := cnt_keys _ _ _ _ nab ncd
  rw [← shared_keys hab hc hd _ _ _ _ rfl rfl rfl rfl] at K
  obtain ⟨K0, K1, K2⟩ := K
  have nc : ¬ crossing a b c d := by unfold crossing; omega
  unfold hm hmLine
  obtain ⟨s1, e1, z1, k1⟩ : ∃ s1, (if before b a then b else a) = s1 ∧ cr a b s1 = 0 ∧ key a b s1 = min (key a b a) (key a b b) := by
    have := key_before hab hb ha
    by_cases h : before b a
    · rw [if_pos h]; exact ⟨b, rfl, hb, by have := this.mp h; omega⟩
    · rw [if_neg h]; exact ⟨a, rfl, ha, by have := mt this.mpr h; omega⟩
  obtain ⟨s2, e2, z2, k2⟩ : ∃ s2, (if before b a then a else b) = s2 ∧ cr a b s2 = 0 ∧ key a b s2 = max (key a b a) (key a b b) := by
    have := key_before hab hb ha
    by_cases h : before b a
    · rw [if_pos h]; exact ⟨a, rfl, ha, by have := this.mp h; omega⟩
    · rw [if_neg h]; exact ⟨b, rfl, hb, by have := mt this.mpr h; omega⟩
  obtain ⟨t1, e3, z3, k3⟩ : ∃ t1, (if before d c then d else c) = t1 ∧ cr a b t1 = 0 ∧ key a b t1 = min (key a b c) (key a b d) := by
    have := key_before hab hd hc
    by_cases h : before d c
    · rw [if_pos h]; exact ⟨d, rfl, hd, by have := this.mp h; omega⟩
    · rw [if_neg h]; exact ⟨c, rfl, hc, by have := mt this.mpr h; omega⟩
  obtain ⟨t2, e4, z4, k4⟩ : ∃ t2, (if before d c then c else d) = t2 ∧ cr a b t2 = 0 ∧ key a b t2 = max (key a b c) (key a b d) := by
    have := key_before hab hd hc
    by_cases h : before d c
    · rw [if_pos h]; exact ⟨c, rfl, hc, by have := this.mp h; omega⟩
    · rw [if_neg h]; exact ⟨d, rfl, hd, by have := mt this.mpr h; omega⟩
  simp only [e1, e2, e3, e4]
  obtain ⟨low, e5, z5, k5⟩ : ∃ low, (if before s1 t1 then t1 else s1) = low ∧ cr a b low = 0 ∧ key a b low = max (min (key a b a) (key a b b)) (min (key a b c) (key a b d)) := by
    have := key_before hab z1 z3
    by_cases h : before s1 t1
    · rw [if_pos h]; exact ⟨t1, rfl, z3, by have := this.mp h; omega⟩
    · rw [if_neg h]; exact ⟨s1, rfl, z1, by have := mt this.mpr h; omega⟩
  obtain ⟨high, e6, z6, k6⟩ : ∃ high, (if before t2 s2 then t2 else s2) = high ∧ cr a b high = 0 ∧ key a b high = min (max (key a b a) (key a b b)) (max (key a b c) (key a b d)) := by
    have := key_before hab z4 z2
    by_cases h : before t2 s2
    · rw [if_pos h]; exact ⟨t2, rfl, z4, by have := this.mp h; omega⟩
    · rw [if_neg h]; exact ⟨s2, rfl, z2, by have := mt this.mpr h; omega⟩
  simp only [e5, e6]
  have hbe := key_before hab z6 z5
  have heq := key_eq hab z5 z6
  rw [k5, k6] at hbe heq
  by_cases g0 : before high low
  · have := K0 (hbe.mp g0)
    rw [if_pos g0, if_pos this, if_neg nc]
  · by_cases g1 : low = high
    · have := K1 (heq.mp g1)
      rw [if_neg g0, if_pos g1, if_neg (by omega), if_pos this]
    · have := K2 (by have n0 := mt hbe.mpr g0; have n1 := mt heq.mpr g1; omega)
      rw [if_neg g0, if_neg g1, if_neg (by omega), if_neg (by omega)]
theorem hm_cross {a b c d : Pt} (hab : a ≠ b) (hcd : c ≠ d) (hn : ¬ (cr a b c = 0 ∧ cr a b d = 0)) :
    (if crossing a b c d then 2 else if on a b c ∨ on a b d ∨ on c d a ∨ on c d b then 1 else 0) = hm a b c d := by
  have h1 := shared_one hab hcd hn
  unfold hm
  by_cases hx : crossing a b c d
  · obtain ⟨x0, x1, x2, x3⟩ := crossing_none hx
    rw [if_pos hx, if_pos (shared_none x0 x1 x2 x3), if_pos hx]
  · rw [if_neg hx]
    by_cases ho : on a b c ∨ on a b d ∨ on c d a ∨ on c d b
    · have h2 : 1 ≤ shared a b c d := shared_some (by rcases ho with h | h | h | h <;> simp [h])
      rw [if_pos ho, if_neg (by omega), if_pos (by omega)]
    · simp only [not_or] at ho
      rw [if_neg (by simp [ho]), if_pos (shared_none ho.2.2.1 ho.2.2.2 ho.1 ho.2.1), if_neg hx]
theorem weights {p q r s a b c d m : Int} (hp : 0 < p) (hq : 0 < q) (hr : 0 < r) (hs : 0 < s) (hsum : p + q = r + s) (e : p * c + q * d = r * a + s * b)
    (ha : a ≤ m - 1) (hb : b ≤ m - 1) (hc : m ≤ c) (hd : m ≤ d) : False := by
  have h1 := Int.mul_le_mul_of_nonneg_left hc (Int.le_of_lt hp)
  have h2 := Int.mul_le_mul_of_nonneg_left hd (Int.le_of_lt hq)
  have h3 := Int.mul_le_mul_of_nonneg_left ha (Int.le_of_lt hr)
  have h4 := Int.mul_le_mul_of_nonneg_left hb (Int.le_of_lt hs)
  have h5 : (p + q) * m = (r + s) * m := by rw [hsum]
  rw [Int.add_mul, Int.add_mul] at h5
  rw [Int.mul_sub, Int.mul_one] at h3 h4
  omega
theorem crossing_meets {a b c d : Pt} (h : crossing a b c d) : ¬ apart a b c d := by
  have e0 : cr a b d - cr a b c = cr c d a - cr c d b := by unfold cr; grind
  have e1 : cr a b d * c.1 - cr a b c * d.1 = cr c d a * b.1 - cr c d b * a.1 := by unfold cr; grind
  have e2 : cr a b d * c.2 - cr a b c * d.2 = cr c d a * b.2 - cr c d b * a.2 := by unfold cr; grind
  unfold crossing at h
  unfold apart
  generalize cr a b c = α at *
  generalize cr a b d = β at *
  generalize cr c d a = γ at *
  generalize cr c d b = δ at *
  have g : (α < 0 ∧ 0 < β ∧ 0 < γ ∧ δ < 0) ∨ (0 < α ∧ β < 0 ∧ γ < 0 ∧ 0 < δ) := by omega
  rintro h
  rcases g with ⟨g0, g1, g2, g3⟩ | ⟨g0, g1, g2, g3⟩
  · have f1 : β * c.1 + (-α) * d.1 = (-δ) * a.1 + γ * b.1 := by grind
    have f2 : β * c.2 + (-α) * d.2 = (-δ) * a.2 + γ * b.2 := by grind
    rcases h with h | h | h | h
    · exact weights (m := min c.1 d.1) g1 (by omega : 0 < -α) (by omega : 0 < -δ) g2 (by omega) f1 (by omega) (by omega) (by omega) (by omega)
    · exact weights (m := min a.1 b.1) (by omega : 0 < -δ) g2 g1 (by omega : 0 < -α) (by omega) f1.symm (by omega) (by omega) (by omega) (by omega)
    · exact weights (m := min c.2 d.2) g1 (by omega : 0 < -α) (by omega : 0 < -δ) g2 (by omega) f2 (by omega) (by omega) (by omega) (by omega)
    · exact weights (m := min a.2 b.2) (by omega : 0 < -δ) g2 g1 (by omega : 0 < -α) (by omega) f2.symm (by omega) (by omega) (by omega) (by omega)
  · have f1 : (-β) * c.1 + α * d.1 = δ * a.1 + (-γ) * b.1 := by grind
    have f2 : (-β) * c.2 + α * d.2 = δ * a.2 + (-γ) * b.2 := by grind
    rcases h with h | h | h | h
    · exact weights (m := min c.1 d.1) (by omega : 0 < -β) g0 g3 (by omega : 0 < -γ) (by omega) f1 (by omega) (by omega) (by omega) (by omega)
    · exact weights (m := min a.1 b.1) g3 (by omega : 0 < -γ) (by omega : 0 < -β) g0 (by omega) f1.symm (by omega) (by omega) (by omega) (by omega)
    · exact weights (m := min c.2 d.2) (by omega : 0 < -β) g0 g3 (by omega : 0 < -γ) (by omega) f2 (by omega) (by omega) (by omega) (by omega)
    · exact weights (m := min a.2 b.2) g3 (by omega : 0 < -γ) (by omega : 0 < -β) g0 (by omega) f2.symm (by omega) (by omega) (by omega) (by omega)
theorem apart_none {a b c d : Pt} (h : apart a b c d) : ¬ on c d a ∧ ¬ on c d b ∧ ¬ on a b c ∧ ¬ on a b d := by
  unfold apart at h
  refine ⟨?_, ?_, ?_, ?_⟩ <;> (rintro ⟨_, hb⟩; unfold bx at hb; omega)
theorem hm_apart {a b c d : Pt} (h : apart a b c d) : hm a b c d = 0 := by
  obtain ⟨h0, h1, h2, h3⟩ := apart_none h
  unfold hm
  rw [if_pos (shared_none h0 h1 h2 h3), if_neg (fun x => crossing_meets x h)]
theorem cnt_swap {S0 S1 S2 S3 Eab Eac Ead Ebc Ebd Ecd Eca Eda Ecb Edb : Prop} [Decidable S0] [Decidable S1] [Decidable S2] [Decidable S3] [Decidable Eab] [Decidable Eac] [Decidable Ead] [Decidable Ebc] [Decidable Ebd] [Decidable Ecd] [Decidable Eca] [Decidable Eda] [Decidable Ecb] [Decidable Edb]
    (nab : ¬ Eab) (ncd : ¬ Ecd) (eac : Eca ↔ Eac) (ead : Eda ↔ Ead) (ebc : Ecb ↔ Ebc) (ebd : Edb ↔ Ebd)
    (x1 : ¬ (Eac ∧ Ead)) (x2 : ¬ (Ebc ∧ Ebd)) (x3 : ¬ (Eac ∧ Ebc)) (x4 : ¬ (Ead ∧ Ebd)) :
    ct S0 + ct (S1 ∧ ¬ (S0 ∧ Eab)) + ct (S2 ∧ ¬ (S0 ∧ Eac) ∧ ¬ (S1 ∧ Ebc)) + ct (S3 ∧ ¬ (S0 ∧ Ead) ∧ ¬ (S1 ∧ Ebd) ∧ ¬ (S2 ∧ Ecd)) =
    ct S2 + ct (S3 ∧ ¬ (S2 ∧ Ecd)) + ct (S0 ∧ ¬ (S2 ∧ Eca) ∧ ¬ (S3 ∧ Eda)) + ct (S1 ∧ ¬ (S2 ∧ Ecb) ∧ ¬ (S3 ∧ Edb) ∧ ¬ (S0 ∧ Eab)) := by
  by_cases h0 : S0 <;> by_cases h1 : S1 <;> by_cases h2 : S2 <;> by_cases h3 : S3 <;> by_cases h4 : Eac <;> by_cases h5 : Ead <;> by_cases h6 : Ebc <;> by_cases h7 : Ebd <;> simp_all [ct]
theorem cnt_turn {S0 S1 S2 S3 T2 T3 Eab Eac Ead Ebc Ebd Ecd Eba : Prop} [Decidable S0] [Decidable S1] [Decidable S2] [Decidable S3] [Decidable T2] [Decidable T3] [Decidable Eab] [Decidable Eac] [Decidable Ead] [Decidable Ebc] [Decidable Ebd] [Decidable Ecd] [Decidable Eba]
    (nab : ¬ Eab) (nba : ¬ Eba) (t2 : T2 ↔ S2) (t3 : T3 ↔ S3) :
    ct S0 + ct (S1 ∧ ¬ (S0 ∧ Eab)) + ct (S2 ∧ ¬ (S0 ∧ Eac) ∧ ¬ (S1 ∧ Ebc)) + ct (S3 ∧ ¬ (S0 ∧ Ead) ∧ ¬ (S1 ∧ Ebd) ∧ ¬ (S2 ∧ Ecd)) =
    ct S1 + ct (S0 ∧ ¬ (S1 ∧ Eba)) + ct (T2 ∧ ¬ (S1 ∧ Ebc) ∧ ¬ (S0 ∧ Eac)) + ct (T3 ∧ ¬ (S1 ∧ Ebd) ∧ ¬ (S0 ∧ Ead) ∧ ¬ (T2 ∧ Ecd)) := by
  by_cases h0 : S0 <;> by_cases h1 : S1 <;> by_cases h2 : S2 <;> by_cases h3 : S3 <;> by_cases h4 : Eac <;> by_cases h5 : Ead <;> by_cases h6 : Ebc <;> by_cases h7 : Ebd <;> simp_all [ct]
theorem on_turn (a b p : Pt) : on b a p ↔ on a b p := by
  unfold on bx
  rw [cr_turn]
  omega
theorem shared_swap {a b c d : Pt} (hab : a ≠ b) (hcd : c ≠ d) : shared a b c d = shared c d a b := by
  unfold shared
  refine cnt_swap hab hcd ⟨Eq.symm, Eq.symm⟩ ⟨Eq.symm, Eq.symm⟩ ⟨Eq.symm, Eq.symm⟩ ⟨Eq.symm, Eq.symm⟩ ?_ ?_ ?_ ?_
  · rintro ⟨h1, h2⟩; exact hcd (h1.symm.trans h2)
  · rintro ⟨h1, h2⟩; exact hcd (h1.symm.trans h2)
  · rintro ⟨h1, h2⟩; exact hab (h1.trans h2.symm)
  · rintro ⟨h1, h2⟩; exact hab (h1.trans h2.symm)
theorem shared_turn {a b : Pt} (c d : Pt) (hab : a ≠ b) : shared a b c d = shared b a c d := by
  unfold shared
  exact cnt_turn hab (fun h => hab h.symm) (on_turn a b c) (on_turn a b d)
theorem crossing_swap (a b c d : Pt) : crossing a b c d ↔ crossing c d a b := by unfold crossing; omega
theorem crossing_turn (a b c d : Pt) : crossing a b c d ↔ crossing b a c d := by
  unfold crossing
  rw [cr_turn a b c, cr_turn a b d]
  omega
theorem hm_swap {a b c d : Pt} (hab : a ≠ b) (hcd : c ≠ d) : hm a b c d = hm c d a b := by
  unfold hm
  rw [shared_swap hab hcd]
  simp only [crossing_swap a b c d]
theorem hm_turn {a b : Pt} (c d : Pt) (hab : a ≠ b) : hm a b c d = hm b a c d := by
  unfold hm
  rw [shared_turn c d hab]
  simp only [crossing_turn a b c d]
theorem on_left (a b : Pt) : on a b a := ⟨cr_left a b, by unfold bx; omega⟩
theorem on_right (a b : Pt) : on a b b := ⟨cr_right a b, by unfold bx; omega⟩
theorem hm_self {a b : Pt} (hab : a ≠ b) : hm a b a b = 3 := by
  have h : shared a b a b = 2 := by
    unfold shared ct
    simp [on_left, on_right, hab]
  unfold hm
  rw [if_neg (by omega), if_neg (by omega)]
theorem hm_none {a b c d : Pt} (h : hm a b c d = 0) : ¬ on c d a ∧ ¬ on c d b ∧ ¬ on a b c ∧ ¬ on a b d := by
  have hs : shared a b c d = 0 := by
    unfold hm at h
    by_cases h1 : shared a b c d = 0
    · exact h1
    · rw [if_neg h1] at h
      split at h <;> omega
  refine ⟨fun x => ?_, fun x => ?_, fun x => ?_, fun x => ?_⟩
  · have := shared_some (a := a) (b := b) (c := c) (d := d) (Or.inl x); omega
  · have := shared_some (a := a) (b := b) (c := c) (d := d) (Or.inr (Or.inl x)); omega
  · have := shared_some (a := a) (b := b) (c := c) (d := d) (Or.inr (Or.inr (Or.inl x))); omega
  · have := shared_some (a := a) (b := b) (c := c) (d := d) (Or.inr (Or.inr (Or.inr x))); omega
theorem hm_two {a b c d : Pt} (h : hm a b c d = 2) : ¬ on c d a ∧ ¬ on c d b ∧ ¬ on a b c ∧ ¬ on a b d := by
  have hs : crossing a b c d := by
    unfold hm at h
    by_cases h1 : shared a b c d = 0
    · rw [if_pos h1] at h
      by_cases h2 : crossing a b c d
      · exact h2
      · rw [if_neg h2] at h; omega
    · rw [if_neg h1] at h
      split at h <;> omega
  exact crossing_none hs
end Go.Proofs.Ytokhmgfjgpcmdaa.Geo
