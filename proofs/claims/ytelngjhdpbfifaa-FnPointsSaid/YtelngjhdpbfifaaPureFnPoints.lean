/- Sides turn with the order of the points, and distances do not depend on it: the law returns true for every slice of bytes that it draws from. -/
import Derived.Test.YtelngjhdpbfifaaQFnPointsx5
import Derived.Test.YtelngjhdpbfifaaBase
import Derived.Test.YtelngjhdpbfifaaGeo
import Derived.Test.YtelngjhdpbfifaaLst
import Derived.Test.YtelngjhdpbfifaaLn
import Derived.Test.YtelngjhdpbfifaaHw
namespace Go.Proofs.Ytelngjhdpbfifaa.Pure
open Go Go.RowKit Go.Proofs.Ytelngjhdpbfifaa.PFnPoints Go.Proofs.YtelngjhdpbfifaaW.PrintWords Go.Proofs.YtelngjhdpbfifaaW.PrintLast Go.Proofs.YtelngjhdpbfifaaW.PrintMore Go.Proofs.Ytelngjhdpbfifaa.Base Go.Proofs.Ytelngjhdpbfifaa.Geo Go.Proofs.Ytelngjhdpbfifaa.Lst Go.Proofs.Ytelngjhdpbfifaa.Ln Go.Proofs.Ytelngjhdpbfifaa.Hw
set_option linter.unusedVariables false
set_option linter.unusedSimpArgs false
theorem laws_big.eq (l : List Int) : laws_big.f l = some (decide ((l.length : Int) > 1048576)) := rfl
theorem spec_l1New.l0_ok (l : List Int) (hn : l.length ≤ 140737488355328) : ∀ (d k i : Nat) (h : Int), i + d = l.length → d < k → ∃ h', spec_l1New.l0 k l h (i : Int) = some (l, 0, h') := by
  intro d
  induction d with
  | zero =>
    intro k i h hi hk
    obtain ⟨k, rfl⟩ : ∃ m, k = m + 1 := ⟨k - 1, by omega⟩
    simp only [spec_l1New.l0]
    rw [if_neg (by omega)]
    exact ⟨_, rfl⟩
  | succ d ih =>
    intro k i h hi hk
    obtain ⟨k, rfl⟩ : ∃ m, k = m + 1 := ⟨k - 1, by omega⟩
    simp only [spec_l1New.l0]
    rw [if_pos (by omega)]
    by_cases h4 : (i : Int) < 4000
    · rw [if_pos h4, if_pos (by omega), w64_succ (n := l.length) (by omega) (by omega)]
      exact ih k (i + 1) _ (by omega) (by omega)
    · rw [if_neg h4]
      exact ⟨_, rfl⟩
theorem spec_l1New.ok (l : List Int) (hn : l.length ≤ 140737488355328) (k : Nat) (hk : l.length < k) : ∃ h', spec_l1New.f k l = some (l, 0, h') := by
  unfold spec_l1New.f
  exact spec_l1New.l0_ok l hn l.length k 0 _ (by omega) hk
theorem spec_l1Byte.ok (b : List Int) (i h : Int) (hi : 0 ≤ i) : ∃ v i' h', spec_l1Byte.f b i h = some (v, i', h') ∧ 0 ≤ v ∧ v ≤ 255 ∧ (b.length ≤ 140737488355328 → 0 ≤ i') := by
  unfold spec_l1Byte.f
  by_cases hc : i < (b.length : Int)
  · rw [if_pos hc, if_pos hi]
    exact ⟨_, _, _, rfl, (mask255 _).1, (mask255 _).2, fun hb => by rw [w64 (by omega) (by omega)]; omega⟩
  · rw [if_neg hc]
    exact ⟨_, _, _, rfl, (mask255 _).1, (mask255 _).2, fun _ => hi⟩
theorem spec_l1Below.ok (b : List Int) (hb : b.length ≤ 140737488355328) (i h n : Int) (hi : 0 ≤ i) : ∃ v i' h', spec_l1Below.f b i h n = some (v, i', h') ∧ 0 ≤ i' ∧ 0 ≤ v ∧ (0 < n → v < n) ∧ (n ≤ 0 → v = 0) := by
  unfold spec_l1Below.f
  by_cases h0 : n ≤ 0
  · rw [if_pos h0]
    exact ⟨_, _, _, rfl, hi, by omega, by omega, fun _ => rfl⟩
  · rw [if_neg h0]
    obtain ⟨v, i1, h1, e1, g0, g1, g2⟩ := spec_l1Byte.ok b i h hi
    rw [e1]
    simp only [Option.bind_some]
    by_cases hc : n ≤ 256
    · rw [if_pos hc, if_neg (by omega), Int.tmod_eq_emod_of_nonneg g0]
      exact ⟨_, _, _, rfl, g2 hb, Int.emod_nonneg _ (by omega), fun _ => Int.emod_lt_of_pos _ (by omega), by omega⟩
    · rw [if_neg hc]
      obtain ⟨v2, i2, h2, e2, k0, k1, k2⟩ := spec_l1Byte.ok b i1 h1 (g2 hb)
      rw [e2]
      simp only [Option.bind_some]
      obtain ⟨v3, i3, h3, e3, m0, m1, m2⟩ := spec_l1Byte.ok b i2 h2 (k2 hb)
      rw [e3]
      simp only [Option.bind_some]
      rw [if_neg (by omega), w64 (n := v * 65536) (by omega) (by omega), w64 (n := v2 * 256) (by omega) (by omega), w64 (n := v * 65536 + v2 * 256) (by omega) (by omega), w64 (by omega) (by omega), Int.tmod_eq_emod_of_nonneg (by omega)]
      exact ⟨_, _, _, rfl, m2 hb, Int.emod_nonneg _ (by omega), fun _ => Int.emod_lt_of_pos _ (by omega), by omega⟩
theorem spec_l4Draw.ok (b : List Int) (hb : b.length ≤ 140737488355328) (i h : Int) (hi : 0 ≤ i) : ∃ x y i' h', spec_l4Draw.f b i h = some (x, y, i', h') ∧ 0 ≤ i' ∧ (0 ≤ x ∧ x ≤ 11) ∧ (0 ≤ y ∧ y ≤ 11) := by
  unfold spec_l4Draw.f
  obtain ⟨v, i1, h1, e1, g0, g1, g2, _⟩ := spec_l1Below.ok b hb i h 12 hi
  rw [e1]
  simp only [Option.bind_some]
  obtain ⟨v2, i2, h2, e2, k0, k1, k2, _⟩ := spec_l1Below.ok b hb i1 h1 12 g0
  rw [e2]
  simp only [Option.bind_some]
  have g2 := g2 (by omega)
  have k2 := k2 (by omega)
  exact ⟨_, _, _, _, rfl, k0, ⟨g1, by omega⟩, ⟨k1, by omega⟩⟩
theorem spec_l1Int.ok (b : List Int) (hb : b.length ≤ 140737488355328) (i h : Int) (hi : 0 ≤ i) (l : List Int) (hl : 0 < l.length) : ∃ v i' h', spec_l1Int.f b i h l = some (v, i', h') ∧ 0 ≤ i' ∧ v ∈ l := by
  unfold spec_l1Int.f
  obtain ⟨v, i1, h1, e1, g0, g1, g2, _⟩ := spec_l1Below.ok b hb i h (l.length : Int) hi
  have g2 := g2 (by omega)
  rw [e1]
  simp only [Option.bind_some]
  rw [if_pos g1, if_pos g2]
  refine ⟨_, _, _, rfl, g0, ?_⟩
  have e : v = ((v.toNat : Nat) : Int) := by omega
  rw [e, rd_get (show v.toNat < l.length by omega)]
  exact List.getElem_mem _
theorem spec_l4Raw.ok (b : List Int) (hb : b.length ≤ 140737488355328) (i h : Int) (hi : 0 ≤ i) : ∃ v i' h', spec_l4Raw.f b i h = some (v, i', h') ∧ 0 ≤ i' ∧ -9223372036854775808 ≤ v ∧ v ≤ 9223372036854775807 := by
  unfold spec_l4Raw.f
  obtain ⟨v2, i2, h2, e2, k0, k1⟩ := spec_l1Int.ok b hb i h hi ([(-1), 0, 200, 201, 1000, 1001, 9223372036854775807, (-9223372036854775808)] : List Int) (by simp)
  rw [e2]
  simp only [Option.bind_some]
  simp only [List.mem_cons, List.not_mem_nil, or_false] at k1
  exact ⟨_, _, _, rfl, k0, by omega, by omega⟩
theorem spec_l4Any.ok (b : List Int) (hb : b.length ≤ 140737488355328) (i h : Int) (hi : 0 ≤ i) : ∃ x y i' h', spec_l4Any.f b i h = some (x, y, i', h') ∧ 0 ≤ i' ∧ (-9223372036854775808 ≤ x ∧ x ≤ 9223372036854775807) ∧ (-9223372036854775808 ≤ y ∧ y ≤ 9223372036854775807) := by
  unfold spec_l4Any.f
  obtain ⟨x, y, i1, h1, e1, g0, gx, gy⟩ := spec_l4Draw.ok b hb i h hi
  rw [e1]
  simp only [Option.bind_some]
  obtain ⟨v, i2, h2, e2, k0, _⟩ := spec_l1Below.ok b hb i1 h1 12 g0
  rw [e2]
  simp only [Option.bind_some]
  by_cases c0 : v = 0
  · rw [if_pos c0]
    obtain ⟨z, i3, h3, e3, m0, m1, m2⟩ := spec_l4Raw.ok b hb i2 h2 k0
    rw [e3]
    simp only [Option.bind_some]
    exact ⟨_, _, _, _, rfl, m0, ⟨m1, m2⟩, ⟨by omega, by omega⟩⟩
  · rw [if_neg c0]
    by_cases c1 : v = 1
    · rw [if_pos c1]
      obtain ⟨z, i3, h3, e3, m0, m1, m2⟩ := spec_l4Raw.ok b hb i2 h2 k0
      rw [e3]
      simp only [Option.bind_some]
      exact ⟨_, _, _, _, rfl, m0, ⟨by omega, by omega⟩, ⟨m1, m2⟩⟩
    · rw [if_neg c1]
      exact ⟨_, _, _, _, rfl, k0, ⟨by omega, by omega⟩, ⟨by omega, by omega⟩⟩
theorem spec_l4Three.ok (b : List Int) (hb : b.length ≤ 140737488355328) (i h : Int) (hi : 0 ≤ i) : ∃ a0 a1 b0 b1 c0 c1 i' h', spec_l4Three.f b i h = some (a0, a1, b0, b1, c0, c1, i', h') ∧ 0 ≤ i' := by
  unfold spec_l4Three.f
  obtain ⟨x, y, i1, h1, e1, g0, _⟩ := spec_l4Any.ok b hb i h hi
  rw [e1]
  simp only [Option.bind_some]
  obtain ⟨x2, y2, i2, h2, e2, k0, _⟩ := spec_l4Any.ok b hb i1 h1 g0
  rw [e2]
  simp only [Option.bind_some]
  obtain ⟨x3, y3, i3, h3, e3, m0, _⟩ := spec_l4Any.ok b hb i2 h2 k0
  rw [e3]
  simp only [Option.bind_some]
  exact ⟨_, _, _, _, _, _, _, _, rfl, m0⟩
theorem spec_DrawSideOf.ok (l : List Int) (hn : l.length ≤ 1048576) (k : Nat) (hk : l.length + 10 < k) : ∃ a0 a1 b0 b1 c0 c1, spec_DrawSideOf.f k l = some (a0, a1, b0, b1, c0, c1) := by
  unfold spec_DrawSideOf.f
  obtain ⟨h, e⟩ := spec_l1New.ok l (by omega) k (by omega)
  rw [e]
  simp only [Option.bind_some]
  obtain ⟨a0, a1, b0, b1, c0, c1, i1, h1, e1, g0⟩ := spec_l4Three.ok l (by omega) 0 h (by omega)
  rw [e1]
  simp only [Option.bind_some]
  exact ⟨_, _, _, _, _, _, rfl⟩
theorem impl_InRange.eq (a b c : Int) : impl_InRange.f a b c = some (decide (b ≤ a ∧ a ≤ c)) := by
  unfold impl_InRange.f
  by_cases h : b ≤ a
  · rw [if_pos h]; simp [h]
  · rw [if_neg h]; simp [h]
theorem impl_IsPoint.eq (x y : Int) : impl_IsPoint.f x y = some (isPt x y) := isPt_bind x y (impl_InRange.eq ..) (impl_InRange.eq ..)
theorem cmp_Compare_int.eq (a b : Int) : cmp_Compare_int.f a b = some (if a < b then -1 else if a > b then 1 else 0) := by
  unfold cmp_Compare_int.f cmp_isNaN_int.f
  simp
  split
  · rfl
  · split <;> rfl
theorem impl_cross.eq (a b c d e f : Int) : impl_cross.f a b c d e f = some (crossW a b c d e f) := rfl
theorem impl_SideOf.eq (k : Nat) (a b c d e f : Int) : impl_SideOf.f (k + 1) a b c d e f = some (sideOf a b c d e f) := by
  unfold impl_SideOf.f sideOf
  rw [impl_IsPoint.eq, impl_IsPoint.eq, impl_IsPoint.eq]
  cases isPt a b <;> cases isPt c d <;> cases isPt e f <;> simp [impl_SideOf.j0, impl_cross.eq, cmp_Compare_int.eq]
theorem spec_DrawFarSquared.ok (l : List Int) (hn : l.length ≤ 1048576) (k : Nat) (hk : l.length + 10 < k) : ∃ a0 a1 b0 b1, spec_DrawFarSquared.f k l = some (a0, a1, b0, b1) := by
  unfold spec_DrawFarSquared.f
  obtain ⟨h, e⟩ := spec_l1New.ok l (by omega) k (by omega)
  rw [e]
  simp only [Option.bind_some]
  obtain ⟨x, y, i1, h1, e1, g0, _⟩ := spec_l4Any.ok l (by omega) 0 h (by omega)
  rw [e1]
  simp only [Option.bind_some]
  obtain ⟨x2, y2, i2, h2, e2, k0, _⟩ := spec_l4Any.ok l (by omega) i1 h1 g0
  rw [e2]
  simp only [Option.bind_some]
  exact ⟨_, _, _, _, rfl⟩
theorem impl_FarSquared.eq (a b c d : Int) : impl_FarSquared.f a b c d = some (farSq a b c d) := by
  unfold impl_FarSquared.f farSq
  rw [impl_IsPoint.eq, impl_IsPoint.eq]
  cases isPt a b <;> cases isPt c d <;> simp
theorem impl_StepsBetween.eq (a b c d : Int) : impl_StepsBetween.f a b c d = some (steps a b c d) := by
  unfold impl_StepsBetween.f steps
  rw [impl_IsPoint.eq, impl_IsPoint.eq]
  have e : ∀ x y : Int, mx x y = max x y := fun x y => by unfold mx; split <;> omega
  cases isPt a b <;> cases isPt c d <;> simp [e]
theorem spec_DrawMovePoint.ok (l : List Int) (hn : l.length ≤ 1048576) (k : Nat) (hk : l.length + 10 < k) : ∃ a0 a1 x y, spec_DrawMovePoint.f k l = some (a0, a1, x, y) ∧ (-1001 ≤ x ∧ x ≤ 1001) ∧ (-1001 ≤ y ∧ y ≤ 1001) := by
  unfold spec_DrawMovePoint.f
  obtain ⟨h, e⟩ := spec_l1New.ok l (by omega) k (by omega)
  rw [e]
  simp only [Option.bind_some]
  obtain ⟨x, y, i1, h1, e1, g0, _⟩ := spec_l4Any.ok l (by omega) 0 h (by omega)
  rw [e1]
  simp only [Option.bind_some]
  obtain ⟨v2, i2, h2, e2, k0, k1⟩ := spec_l1Int.ok l (by omega) i1 h1 g0 ([0, 1, (-3), 190, 200, (-201), 1001] : List Int) (by simp)
  rw [e2]
  simp only [Option.bind_some]
  obtain ⟨v3, i3, h3, e3, m0, m1⟩ := spec_l1Int.ok l (by omega) i2 h2 k0 ([0, 2, (-2), 200, (-1001)] : List Int) (by simp)
  rw [e3]
  simp only [Option.bind_some]
  simp only [List.mem_cons, List.not_mem_nil, or_false] at k1 m1
  exact ⟨_, _, _, _, rfl, ⟨by omega, by omega⟩, ⟨by omega, by omega⟩⟩
theorem impl_MovePoint.eq (a b x y : Int) : impl_MovePoint.f a b x y = some (movePt a b x y) := by
  unfold impl_MovePoint.f movePt
  rw [impl_IsPoint.eq, impl_InRange.eq, impl_InRange.eq]
  by_cases h1 : -1000 ≤ x ∧ x ≤ 1000 <;> by_cases h2 : -1000 ≤ y ∧ y ≤ 1000 <;> cases isPt a b <;> simp [h1, h2, impl_IsPoint.eq]
  split <;> rfl
theorem impl_BeforePoint.eq (a b c d : Int) : impl_BeforePoint.f a b c d = some (decide (b < d ∨ (b = d ∧ a < c))) := by
  unfold impl_BeforePoint.f
  by_cases h : b < d
  · rw [if_pos h]; simp [h]
  · rw [if_neg h]
    by_cases h1 : b = d
    · rw [if_pos h1]; simp [h1]
    · rw [if_neg h1]; simp [h, h1]
/-- The side turns with its line and stays when its points go round. -/
theorem side_turn (a b c d e f : Int) : sideOf a b c d e f = wrap64 (-(sideOf c d a b e f)) := by
  by_cases h0 : isPt a b = true
  · by_cases h1 : isPt c d = true
    · by_cases h2 : isPt e f = true
      · rw [sideOf_sgn h0 h1 h2, sideOf_sgn h1 h0 h2, cr_turn]
        rcases sgn_cases (cr (c, d) (a, b) (e, f)) with ⟨g, e1⟩ | ⟨g, e1⟩ | ⟨g, e1⟩ <;> rcases sgn_cases (- cr (c, d) (a, b) (e, f)) with ⟨g2, e2⟩ | ⟨g2, e2⟩ | ⟨g2, e2⟩ <;> rw [e1, e2] <;> (unfold wrap64; omega)
      · have h2 : isPt e f = false := by simpa using h2
        unfold sideOf wrap64; simp [h2]
    · have h1 : isPt c d = false := by simpa using h1
      unfold sideOf wrap64; simp [h1]
  · have h0 : isPt a b = false := by simpa using h0
    unfold sideOf wrap64; simp [h0]
theorem side_rot (a b c d e f : Int) : sideOf a b c d e f = sideOf c d e f a b := by
  by_cases h0 : isPt a b = true
  · by_cases h1 : isPt c d = true
    · by_cases h2 : isPt e f = true
      · rw [sideOf_sgn h0 h1 h2, sideOf_sgn h1 h2 h0, ← cr_rot]
      · have h2 : isPt e f = false := by simpa using h2
        unfold sideOf; simp [h2]
    · have h1 : isPt c d = false := by simpa using h1
      unfold sideOf; simp [h1]
  · have h0 : isPt a b = false := by simpa using h0
    unfold sideOf; simp [h0]
theorem j2_true (k : Nat) (a b c d : Int) : laws_FnPoints.j2 (k + 1) a b c d = some true := by
  simp only [laws_FnPoints.j2]
  rw [impl_BeforePoint.eq, impl_BeforePoint.eq]
  simp only [Option.bind_some]
  by_cases h : b < d ∨ (b = d ∧ a < c)
  · rw [if_pos (decide_eq_true h), if_neg (by rw [decide_eq_true_eq]; omega), if_pos (decide_eq_true h)]
  · rw [if_neg (by rw [decide_eq_true_eq]; exact h), if_neg (by rw [decide_eq_true_eq]; exact h)]
    by_cases g : d < b ∨ (d = b ∧ c < a)
    · rw [if_pos (decide_eq_true g)]
    · rw [if_neg (by rw [decide_eq_true_eq]; exact g)]
      have h1 : a = c := by omega
      have h2 : b = d := by omega
      simp [h1, h2]
theorem move_back {a b x y : Int} (hx : -1001 ≤ x ∧ x ≤ 1001) (hy : -1001 ≤ y ∧ y ≤ 1001) (h : (movePt a b x y).2.2 = true) :
    movePt (movePt a b x y).1 (movePt a b x y).2.1 (wrap64 (-x)) (wrap64 (-y)) = (a, b, true) := by
  unfold movePt at h
  by_cases c : (isPt a b && decide (-1000 ≤ x ∧ x ≤ 1000) && decide (-1000 ≤ y ∧ y ≤ 1000) && isPt (wrap64 (a + x)) (wrap64 (b + y))) = true
  · have e : movePt a b x y = (wrap64 (a + x), wrap64 (b + y), true) := by unfold movePt; rw [if_pos c]
    rw [e]
    simp only [Bool.and_eq_true, decide_eq_true_eq] at c
    obtain ⟨⟨⟨c0, c1⟩, c2⟩, c3⟩ := c
    have q0 := isPt_iff.mp c0
    rw [w64 (n := a + x) (by omega) (by omega), w64 (n := b + y) (by omega) (by omega)] at *
    unfold movePt
    rw [w64 (n := -x) (by omega) (by omega), w64 (n := -y) (by omega) (by omega)]
    simp only
    rw [w64 (n := a + x + -x) (by omega) (by omega), w64 (n := b + y + -y) (by omega) (by omega), show a + x + -x = a by omega, show b + y + -y = b by omega, c0, c3, decide_eq_true (show -1000 ≤ -x ∧ -x ≤ 1000 by omega), decide_eq_true (show -1000 ≤ -y ∧ -y ≤ 1000 by omega)]
    rfl
  · rw [if_neg c] at h; simp at h
theorem j1_true (l : List Int) (hl : l.length ≤ 1048576) (k : Nat) (hk : l.length + 20 < k) (a b c d : Int) : laws_FnPoints.j1 k l false a b c d = some true := by
  obtain ⟨k, rfl⟩ : ∃ m, k = m + 2 := ⟨k - 2, by omega⟩
  simp only [laws_FnPoints.j1]
  rw [if_neg (by simp)]
  obtain ⟨p, q, x, y, e, hx, hy⟩ := spec_DrawMovePoint.ok l hl (k + 1) (by omega)
  rw [e]
  simp only [Option.bind_some]
  rw [impl_MovePoint.eq]
  simp only [Option.bind_some]
  by_cases h : (movePt p q x y).2.2 = true
  · rw [if_pos h, impl_MovePoint.eq, move_back hx hy h]
    simp only [Option.bind_some]
    rw [if_pos trivial, if_neg (by simp), j2_true]
  · rw [if_neg h, j2_true]
theorem dist_ok (a b c d : Int) : ∃ n f : Int, farSq a b c d = f ∧ farSq c d a b = f ∧ steps a b c d = n ∧ steps c d a b = n ∧ ((f = -1 ∧ n = -1) ∨ (0 ≤ f ∧ 0 ≤ n ∧ n ≤ 400 ∧ f ≤ n * n ∧ n * n ≤ 2 * f ∧ f ≤ 80000)) := by
  by_cases h0 : isPt a b = true
  · by_cases h1 : isPt c d = true
    · have q0 := isPt_iff.mp h0
      have q1 := isPt_iff.mp h1
      have p1 := Go.Proofs.Ytelngjhdpbfifaa.Hw.prod_bound (x := a - c) (y := a - c) (by omega) (by omega) (by omega) (by omega)
      have p2 := Go.Proofs.Ytelngjhdpbfifaa.Hw.prod_bound (x := b - d) (y := b - d) (by omega) (by omega) (by omega) (by omega)
      have p3 := Go.Proofs.Ytelngjhdpbfifaa.Hw.prod_bound (x := a - c) (y := b - d) (by omega) (by omega) (by omega) (by omega)
      have s1 : 0 ≤ (a - c) * (a - c) := by
        rcases Int.le_total 0 (a - c) with h | h
        · exact Int.mul_nonneg h h
        · exact Int.mul_nonneg_of_nonpos_of_nonpos h h
      have s2 : 0 ≤ (b - d) * (b - d) := by
        rcases Int.le_total 0 (b - d) with h | h
        · exact Int.mul_nonneg h h
        · exact Int.mul_nonneg_of_nonpos_of_nonpos h h
      have t1 : 0 ≤ (a - c - (b - d)) * (a - c - (b - d)) := by
        rcases Int.le_total 0 (a - c - (b - d)) with h | h
        · exact Int.mul_nonneg h h
        · exact Int.mul_nonneg_of_nonpos_of_nonpos h h
      have t2 : 0 ≤ (a - c + (b - d)) * (a - c + (b - d)) := by
        rcases Int.le_total 0 (a - c + (b - d)) with h | h
        · exact Int.mul_nonneg h h
        · exact Int.mul_nonneg_of_nonpos_of_nonpos h h
      have u1 : (a - c - (b - d)) * (a - c - (b - d)) = (a - c) * (a - c) + (b - d) * (b - d) - 2 * ((a - c) * (b - d)) := by grind
      have u2 : (a - c + (b - d)) * (a - c + (b - d)) = (a - c) * (a - c) + (b - d) * (b - d) + 2 * ((a - c) * (b - d)) := by grind
      have sw1 : (c - a) * (c - a) = (a - c) * (a - c) := by grind
      have sw2 : (d - b) * (d - b) = (b - d) * (b - d) := by grind
      have m1 : max (a - c) (c - a) = a - c ∨ max (a - c) (c - a) = -(a - c) := by omega
      have m2 : max (b - d) (d - b) = b - d ∨ max (b - d) (d - b) = -(b - d) := by omega
      have pos1 : 0 ≤ max (a - c) (c - a) := by omega
      have pos2 : 0 ≤ max (b - d) (d - b) := by omega
      have pp : 0 ≤ max (a - c) (c - a) * max (b - d) (d - b) := Int.mul_nonneg pos1 pos2
      have nn : (max (a - c) (c - a) + max (b - d) (d - b)) * (max (a - c) (c - a) + max (b - d) (d - b)) = (a - c) * (a - c) + (b - d) * (b - d) + 2 * (max (a - c) (c - a) * max (b - d) (d - b)) := by
        rcases m1 with e1 | e1 <;> rcases m2 with e2 | e2 <;> rw [e1, e2] <;> grind
      have pm : max (a - c) (c - a) * max (b - d) (d - b) = (a - c) * (b - d) ∨ max (a - c) (c - a) * max (b - d) (d - b) = -((a - c) * (b - d)) := by
        rcases m1 with e1 | e1 <;> rcases m2 with e2 | e2 <;> rw [e1, e2] <;> first | (left; grind) | (right; grind)
      have e1 : farSq a b c d = (a - c) * (a - c) + (b - d) * (b - d) := by
        unfold farSq
        rw [h0, h1, w64 (n := a - c) (by omega) (by omega), w64 (n := b - d) (by omega) (by omega), w64 (n := (a - c) * (a - c)) (by omega) (by omega), w64 (n := (b - d) * (b - d)) (by omega) (by omega), w64 (by omega) (by omega)]
        rfl
      have e2 : farSq c d a b = (a - c) * (a - c) + (b - d) * (b - d) := by
        unfold farSq
        rw [h0, h1, w64 (n := c - a) (by omega) (by omega), w64 (n := d - b) (by omega) (by omega), sw1, sw2, w64 (n := (a - c) * (a - c)) (by omega) (by omega), w64 (n := (b - d) * (b - d)) (by omega) (by omega), w64 (by omega) (by omega)]
        rfl
      have e3 : steps a b c d = max (a - c) (c - a) + max (b - d) (d - b) := by
        unfold steps
        rw [h0, h1, w64 (n := a - c) (by omega) (by omega), w64 (n := c - a) (by omega) (by omega), w64 (n := b - d) (by omega) (by omega), w64 (n := d - b) (by omega) (by omega), w64 (by omega) (by omega)]
        rfl
      have e4 : steps c d a b = max (a - c) (c - a) + max (b - d) (d - b) := by
        unfold steps
        rw [h0, h1, w64 (n := a - c) (by omega) (by omega), w64 (n := c - a) (by omega) (by omega), w64 (n := b - d) (by omega) (by omega), w64 (n := d - b) (by omega) (by omega), w64 (by omega) (by omega)]
        simp only [Bool.and_self, if_true]
        omega
      refine ⟨_, _, e1, e2, e3, e4, Or.inr ⟨by omega, by omega, by omega, ?_, ?_, by omega⟩⟩
      · rw [nn]; omega
      · rw [nn]; rcases pm with e | e <;> rw [e] <;> omega
    · have h1 : isPt c d = false := by simpa using h1
      exact ⟨-1, -1, by unfold farSq; simp [h1], by unfold farSq; simp [h1], by unfold steps; simp [h1], by unfold steps; simp [h1], Or.inl ⟨rfl, rfl⟩⟩
  · have h0 : isPt a b = false := by simpa using h0
    exact ⟨-1, -1, by unfold farSq; simp [h0], by unfold farSq; simp [h0], by unfold steps; simp [h0], by unfold steps; simp [h0], Or.inl ⟨rfl, rfl⟩⟩
theorem j0_true (l : List Int) (hl : l.length ≤ 1048576) (k : Nat) (hk : l.length + 40 < k) : laws_FnPoints.j0 k l false = some true := by
  obtain ⟨k, rfl⟩ : ∃ m, k = m + 1 := ⟨k - 1, by omega⟩
  simp only [laws_FnPoints.j0]
  rw [if_neg (by simp)]
  obtain ⟨a, b, c, d, e⟩ := spec_DrawFarSquared.ok l hl k (by omega)
  rw [e]
  simp only [Option.bind_some]
  rw [impl_FarSquared.eq, impl_FarSquared.eq, impl_StepsBetween.eq, impl_StepsBetween.eq]
  simp only [Option.bind_some]
  obtain ⟨n, f, e1, e2, e3, e4, h⟩ := dist_ok a b c d
  rw [e1, e2, e3, e4, if_pos rfl, if_pos rfl]
  rcases h with ⟨hf, hn⟩ | ⟨h0, h1, h2, h3, h4, h5⟩
  · rw [if_neg (by rw [hf, hn]; decide), if_neg (by omega)]
    exact j1_true l hl k (by omega) a b c d
  · rw [if_neg (by rw [show (f == -1) = false by rw [beq_eq_false_iff_ne]; omega, show (n == -1) = false by rw [beq_eq_false_iff_ne]; omega]; decide), if_pos h0, w64 (n := n * n) (by omega) (by omega), if_neg (by omega), w64 (n := 2 * f) (by omega) (by omega), decide_eq_false (by omega)]
    exact j1_true l hl k (by omega) a b c d
theorem FnPoints : laws_FnPoints.Pure := by
  intro l _ _ _
  refine ⟨l.length + 100, ?_⟩
  unfold laws_FnPoints.f
  rw [laws_big.eq]
  simp only [Option.bind_some]
  by_cases h : (l.length : Int) > 1048576
  · rw [if_pos (by simpa using h)]
  · rw [if_neg (by simpa using h)]
    obtain ⟨a, b, c, d, e, f, e0⟩ := spec_DrawSideOf.ok l (by omega) (l.length + 100) (by omega)
    rw [e0]
    simp only [Option.bind_some]
    rw [show l.length + 100 = (l.length + 99) + 1 by omega, impl_SideOf.eq, impl_SideOf.eq, impl_SideOf.eq, impl_SideOf.eq]
    simp only [Option.bind_some]
    rw [if_pos (side_turn a b c d e f), if_pos (side_rot a b c d e f)]
    have e2 : sideOf a b c d e f = sideOf e f a b c d := by rw [side_rot a b c d e f, side_rot c d e f a b]
    rw [e2, show (sideOf e f a b c d != sideOf e f a b c d) = false by simp]
    exact j0_true l (by omega) _ (by omega)

end Go.Proofs.Ytelngjhdpbfifaa.Pure
