/- How two segments meet depends neither on their order nor on their direction, and agrees with which ends lie on which: the law returns true for every slice of bytes that it draws from. -/
import Derived.Test.YtokhmgfjgpcmdaaVQFnSegmentsx13
import Derived.Test.YtokhmgfjgpcmdaaVBase
import Derived.Test.YtokhmgfjgpcmdaaVGeo
import Derived.Test.YtokhmgfjgpcmdaaVLn
import Derived.Test.YtokhmgfjgpcmdaaVLst
import Derived.Test.YtokhmgfjgpcmdaaVHw
namespace Go.Proofs.Ytokhmgfjgpcmdaa.Pure
open Go Go.RowKit Go.Proofs.Ytokhmgfjgpcmdaa.PFnSegments Go.Proofs.YtokhmgfjgpcmdaaW.PrintWords Go.Proofs.YtokhmgfjgpcmdaaW.PrintLast Go.Proofs.YtokhmgfjgpcmdaaW.PrintMore Go.Proofs.Ytokhmgfjgpcmdaa.Base Go.Proofs.Ytokhmgfjgpcmdaa.Geo Go.Proofs.Ytokhmgfjgpcmdaa.Ln Go.Proofs.Ytokhmgfjgpcmdaa.Lst Go.Proofs.Ytokhmgfjgpcmdaa.Hw
set_option linter.unusedVariables false
set_option linter.unusedSimpArgs false
def pts (l : List S25) : List Pt := l.map fun x => (x.f0, x.f1)
theorem pts_length (l : List S25) : (pts l).length = l.length := by simp [pts]
theorem at_pts (l : List S25) (i : Nat) : at_ (pts l) i = ((rd_T25 l (i : Int)).f0, (rd_T25 l (i : Int)).f1) := by
  unfold at_ pts rd_T25
  simp only [List.getD_eq_getElem?_getD, List.getElem?_map, Int.toNat_natCast]
  cases l[i]? <;> rfl
theorem rdP_get {l : List S25} {i : Nat} (h : i < l.length) : l[i]? = some (rd_T25 l (i : Int)) := by
  unfold rd_T25
  simp [List.getD_eq_getElem?_getD, h]
theorem rdP_drop {l : List S25} {i : Nat} (h : i < l.length) : l.drop i = rd_T25 l (i : Int) :: l.drop (i + 1) := by
  have e := rdP_get h
  rw [List.getElem?_eq_getElem h] at e
  rw [List.drop_eq_getElem_cons h, Option.some.inj e]
theorem pt_eta (x : S25) : (⟨x.f0, x.f1⟩ : S25) = x := rfl
theorem pt_ext {x y : S25} (h0 : x.f0 = y.f0) (h1 : x.f1 = y.f1) : x = y := by cases x; cases y; simp_all
theorem w64_pred {i : Nat} (h0 : 0 < i) (hn : i ≤ 140737488355328) : wrap64 ((i : Int) - 1) = ((i - 1 : Nat) : Int) := by
  rw [w64 (by omega) (by omega)]; omega
theorem laws_big.eq (l : List Int) : laws_big.f l = some (decide ((l.length : Int) > 1048576)) := rfl
theorem spec_l1New.l0_ok (l : List Int) (hn : l.length ≤ 140737488355328) : ∀ (d k i : Nat) (h : Int), i + d = l.length → d < k → ∃ h', spec_l1New.l0 k l h (i : Int) = some (l, 0, h') := by
  intro d
  induction d with
  | zero =>
    intro k i h hi hk
    obtain ⟨k, rfl⟩ : ∃ m, k = m + 1 := ⟨k - 1, by omega⟩
    simp only [spec_l1New.l0]
    rw [if_neg (by omega)]
    exact ⟨_, rfl⟩
  | succ d ih =>
    intro k i h hi hk
    obtain ⟨k, rfl⟩ : ∃ m, k = m + 1 := ⟨k - 1, by omega⟩
    simp only [spec_l1New.l0]
    rw [if_pos (by omega)]
    by_cases h4 : (i : Int) < 4000
    · rw [if_pos h4, if_pos (by omega), w64_succ (n := l.length) (by omega) (by omega)]
      exact ih k (i + 1) _ (by omega) (by omega)
    · rw [if_neg h4]
      exact ⟨_, rfl⟩
theorem spec_l1New.ok (l : List Int) (hn : l.length ≤ 140737488355328) (k : Nat) (hk : l.length < k) : ∃ h', spec_l1New.f k l = some (l, 0, h') := by
  unfold spec_l1New.f
  exact spec_l1New.l0_ok l hn l.length k 0 _ (by omega) hk
theorem spec_l1Byte.ok (b : List Int) (i h : Int) (hi : 0 ≤ i) : ∃ v i' h', spec_l1Byte.f b i h = some (v, i', h') ∧ 0 ≤ v ∧ v ≤ 255 ∧ (b.length ≤ 140737488355328 → 0 ≤ i') := by
  unfold spec_l1Byte.f
  by_cases hc : i < (b.length : Int)
  · rw [if_pos hc, if_pos hi]
    exact ⟨_, _, _, rfl, (mask255 _).1, (mask255 _).2, fun hb => by rw [w64 (by omega) (by omega)]; omega⟩
  · rw [if_neg hc]
    exact ⟨_, _, _, rfl, (mask255 _).1, (mask255 _).2, fun _ => hi⟩
theorem spec_l1Below.ok (b : List Int) (hb : b.length ≤ 140737488355328) (i h n : Int) (hi : 0 ≤ i) : ∃ v i' h', spec_l1Below.f b i h n = some (v, i', h') ∧ 0 ≤ i' ∧ 0 ≤ v ∧ (0 < n → v < n) ∧ (n ≤ 0 → v = 0) := by
  unfold spec_l1Below.f
  by_cases h0 : n ≤ 0
  · rw [if_pos h0]
    exact ⟨_, _, _, rfl, hi, by omega, by omega, fun _ => rfl⟩
  · rw [if_neg h0]
    obtain ⟨v, i1, h1, e1, g0, g1, g2⟩ := spec_l1Byte.ok b i h hi
    rw [e1]
    simp only [Option.bind_some]
    by_cases hc : n ≤ 256
    · rw [if_pos hc, if_neg (by omega), Int.tmod_eq_emod_of_nonneg g0]
      exact ⟨_, _, _, rfl, g2 hb, Int.emod_nonneg _ (by omega), fun _ => Int.emod_lt_of_pos _ (by omega), by omega⟩
    · rw [if_neg hc]
      obtain ⟨v2, i2, h2, e2, k0, k1, k2⟩ := spec_l1Byte.ok b i1 h1 (g2 hb)
      rw [e2]
      simp only [Option.bind_some]
      obtain ⟨v3, i3, h3, e3, m0, m1, m2⟩ := spec_l1Byte.ok b i2 h2 (k2 hb)
      rw [e3]
      simp only [Option.bind_some]
      rw [if_neg (by omega), w64 (n := v * 65536) (by omega) (by omega), w64 (n := v2 * 256) (by omega) (by omega), w64 (n := v * 65536 + v2 * 256) (by omega) (by omega), w64 (by omega) (by omega), Int.tmod_eq_emod_of_nonneg (by omega)]
      exact ⟨_, _, _, rfl, m2 hb, Int.emod_nonneg _ (by omega), fun _ => Int.emod_lt_of_pos _ (by omega), by omega⟩
theorem spec_l1Once.ok (b : List Int) (hb : b.length ≤ 140737488355328) (i h n : Int) (hi : 0 ≤ i) : ∃ (v : Bool) (i' h' : Int), spec_l1Once.f b i h n = some (v, i', h') ∧ 0 ≤ i' := by
  unfold spec_l1Once.f
  obtain ⟨v, i1, h1, e1, g0, _⟩ := spec_l1Below.ok b hb i h n hi
  rw [e1]
  exact ⟨_, _, _, rfl, g0⟩
theorem spec_l4Draw.ok (b : List Int) (hb : b.length ≤ 140737488355328) (i h : Int) (hi : 0 ≤ i) : ∃ x y i' h', spec_l4Draw.f b i h = some (x, y, i', h') ∧ 0 ≤ i' ∧ (0 ≤ x ∧ x ≤ 11) ∧ (0 ≤ y ∧ y ≤ 11) := by
  unfold spec_l4Draw.f
  obtain ⟨v, i1, h1, e1, g0, g1, g2, _⟩ := spec_l1Below.ok b hb i h 12 hi
  rw [e1]
  simp only [Option.bind_some]
  obtain ⟨v2, i2, h2, e2, k0, k1, k2, _⟩ := spec_l1Below.ok b hb i1 h1 12 g0
  rw [e2]
  simp only [Option.bind_some]
  have g2 := g2 (by omega)
  have k2 := k2 (by omega)
  exact ⟨_, _, _, _, rfl, k0, ⟨g1, by omega⟩, ⟨k1, by omega⟩⟩
theorem spec_l1Int.ok (b : List Int) (hb : b.length ≤ 140737488355328) (i h : Int) (hi : 0 ≤ i) (l : List Int) (hl : 0 < l.length) : ∃ v i' h', spec_l1Int.f b i h l = some (v, i', h') ∧ 0 ≤ i' ∧ v ∈ l := by
  unfold spec_l1Int.f
  obtain ⟨v, i1, h1, e1, g0, g1, g2, _⟩ := spec_l1Below.ok b hb i h (l.length : Int) hi
  have g2 := g2 (by omega)
  rw [e1]
  simp only [Option.bind_some]
  rw [if_pos g1, if_pos g2]
  refine ⟨_, _, _, rfl, g0, ?_⟩
  have e : v = ((v.toNat : Nat) : Int) := by omega
  rw [e, rd_get (show v.toNat < l.length by omega)]
  exact List.getElem_mem _
theorem spec_l4Raw.ok (b : List Int) (hb : b.length ≤ 140737488355328) (i h : Int) (hi : 0 ≤ i) : ∃ v i' h', spec_l4Raw.f b i h = some (v, i', h') ∧ 0 ≤ i' ∧ -9223372036854775808 ≤ v ∧ v ≤ 9223372036854775807 := by
  unfold spec_l4Raw.f
  obtain ⟨v2, i2, h2, e2, k0, k1⟩ := spec_l1Int.ok b hb i h hi ([(-1), 0, 200, 201, 1000, 1001, 9223372036854775807, (-9223372036854775808)] : List Int) (by simp)
  rw [e2]
  simp only [Option.bind_some]
  simp only [List.mem_cons, List.not_mem_nil, or_false] at k1
  exact ⟨_, _, _, rfl, k0, by omega, by omega⟩
theorem spec_l4Any.ok (b : List Int) (hb : b.length ≤ 140737488355328) (i h : Int) (hi : 0 ≤ i) : ∃ x y i' h', spec_l4Any.f b i h = some (x, y, i', h') ∧ 0 ≤ i' ∧ (-9223372036854775808 ≤ x ∧ x ≤ 9223372036854775807) ∧ (-9223372036854775808 ≤ y ∧ y ≤ 9223372036854775807) := by
  unfold spec_l4Any.f
  obtain ⟨x, y, i1, h1, e1, g0, gx, gy⟩ := spec_l4Draw.ok b hb i h hi
  rw [e1]
  simp only [Option.bind_some]
  obtain ⟨v, i2, h2, e2, k0, _⟩ := spec_l1Below.ok b hb i1 h1 12 g0
  rw [e2]
  simp only [Option.bind_some]
  by_cases c0 : v = 0
  · rw [if_pos c0]
    obtain ⟨z, i3, h3, e3, m0, m1, m2⟩ := spec_l4Raw.ok b hb i2 h2 k0
    rw [e3]
    simp only [Option.bind_some]
    exact ⟨_, _, _, _, rfl, m0, ⟨m1, m2⟩, ⟨by omega, by omega⟩⟩
  · rw [if_neg c0]
    by_cases c1 : v = 1
    · rw [if_pos c1]
      obtain ⟨z, i3, h3, e3, m0, m1, m2⟩ := spec_l4Raw.ok b hb i2 h2 k0
      rw [e3]
      simp only [Option.bind_some]
      exact ⟨_, _, _, _, rfl, m0, ⟨by omega, by omega⟩, ⟨m1, m2⟩⟩
    · rw [if_neg c1]
      exact ⟨_, _, _, _, rfl, k0, ⟨by omega, by omega⟩, ⟨by omega, by omega⟩⟩
theorem spec_l5Draw.ok (b : List Int) (hb : b.length ≤ 140737488355328) (i h : Int) (hi : 0 ≤ i) : ∃ x0 x1 x2 x3 i' h', spec_l5Draw.f b i h = some (x0, x1, x2, x3, i', h') ∧ 0 ≤ i' := by
  unfold spec_l5Draw.f
  obtain ⟨x, y, i1, h1, e1, g0, _⟩ := spec_l4Draw.ok b hb i h hi
  rw [e1]
  simp only [Option.bind_some]
  obtain ⟨n, i2, h2, e2, m0, _⟩ := spec_l1Below.ok b hb i1 h1 12 g0
  rw [e2]
  simp only [Option.bind_some]
  obtain ⟨v, i3, h3, e3, n0⟩ := spec_l1Once.ok b hb i2 h2 3 m0
  rw [e3]
  simp only [Option.bind_some]
  by_cases c : v = true
  · rw [if_pos c]
    exact ⟨_, _, _, _, _, _, rfl, n0⟩
  · rw [if_neg c]
    obtain ⟨u, i4, h4, e4, k0, _⟩ := spec_l1Below.ok b hb i3 h3 12 n0
    rw [e4]
    exact ⟨_, _, _, _, _, _, rfl, k0⟩
theorem spec_l5Any.ok (b : List Int) (hb : b.length ≤ 140737488355328) (i h : Int) (hi : 0 ≤ i) : ∃ x0 x1 x2 x3 i' h', spec_l5Any.f b i h = some (x0, x1, x2, x3, i', h') ∧ 0 ≤ i' := by
  unfold spec_l5Any.f
  obtain ⟨x0, x1, x2, x3, i1, h1, e1, g0⟩ := spec_l5Draw.ok b hb i h hi
  rw [e1]
  simp only [Option.bind_some]
  obtain ⟨v, i3, h3, e3, n0⟩ := spec_l1Once.ok b hb i1 h1 9 g0
  rw [e3]
  simp only [Option.bind_some]
  by_cases c : v = true
  · rw [if_pos c]
    obtain ⟨x, y, i4, h4, e4, k0, _⟩ := spec_l4Any.ok b hb i3 h3 n0
    rw [e4]
    exact ⟨_, _, _, _, _, _, rfl, k0⟩
  · rw [if_neg c]
    exact ⟨_, _, _, _, _, _, rfl, n0⟩
theorem spec_DrawHowMeet.ok (l : List Int) (hn : l.length ≤ 1048576) (k : Nat) (hk : l.length + 80 < k) : ∃ a b c d e f g h, spec_DrawHowMeet.f k l = some (a, b, c, d, e, f, g, h) := by
  unfold spec_DrawHowMeet.f
  obtain ⟨h, e⟩ := spec_l1New.ok l (by omega) k (by omega)
  rw [e]
  simp only [Option.bind_some]
  obtain ⟨x0, x1, x2, x3, i1, h1, e1, g0⟩ := spec_l5Any.ok l (by omega) 0 h (by omega)
  rw [e1]
  simp only [Option.bind_some]
  obtain ⟨y0, y1, y2, y3, i2, h2, e2, m0⟩ := spec_l5Any.ok l (by omega) i1 h1 g0
  rw [e2]
  simp only [Option.bind_some]
  obtain ⟨v, i3, h3, e3, n0⟩ := spec_l1Once.ok l (by omega) i2 h2 4 m0
  rw [e3]
  simp only [Option.bind_some]
  by_cases c : v = true
  · rw [if_pos c]
    exact ⟨_, _, _, _, _, _, _, _, rfl⟩
  · rw [if_neg c]
    exact ⟨_, _, _, _, _, _, _, _, rfl⟩
theorem impl_InRange.eq (a b c : Int) : impl_InRange.f a b c = some (decide (b ≤ a ∧ a ≤ c)) := by
  unfold impl_InRange.f
  by_cases h : b ≤ a
  · rw [if_pos h]; simp [h]
  · rw [if_neg h]; simp [h]
theorem impl_IsPoint.eq (x y : Int) : impl_IsPoint.f x y = some (isPt x y) := isPt_bind x y (impl_InRange.eq ..) (impl_InRange.eq ..)
theorem impl_IsSegment.eq (a b c d : Int) : impl_IsSegment.f a b c d = some (isSg a b c d) := by
  unfold impl_IsSegment.f isSg
  rw [impl_IsPoint.eq, impl_IsPoint.eq]
  cases isPt a b <;> cases isPt c d <;> simp
theorem cmp_Compare_int.eq (a b : Int) : cmp_Compare_int.f a b = some (if a < b then -1 else if a > b then 1 else 0) := by
  unfold cmp_Compare_int.f cmp_isNaN_int.f
  simp
  split
  · rfl
  · split <;> rfl
theorem impl_cross.eq (a b c d e f : Int) : impl_cross.f a b c d e f = some (crossW a b c d e f) := rfl
theorem impl_SideOf.eq (k : Nat) (a b c d e f : Int) : impl_SideOf.f (k + 1) a b c d e f = some (sideOf a b c d e f) := by
  unfold impl_SideOf.f sideOf
  rw [impl_IsPoint.eq, impl_IsPoint.eq, impl_IsPoint.eq]
  cases isPt a b <;> cases isPt c d <;> cases isPt e f <;> simp [impl_SideOf.j0, impl_cross.eq, cmp_Compare_int.eq]
theorem impl_IsOn.eq (k : Nat) (a b c d e f : Int) : impl_IsOn.f (k + 1) a b c d e f = some (onW a b c d e f) := by
  rw [← onW_of (z := sideOf a b c d e f) side_zero]
  unfold impl_IsOn.f
  simp only [impl_IsSegment.eq, impl_IsPoint.eq, impl_SideOf.eq, impl_InRange.eq, Option.bind_some, mx, mn, mx_max, mn_min]
theorem impl_BeforePoint.eq (a b c d : Int) : impl_BeforePoint.f a b c d = some (decide (b < d ∨ (b = d ∧ a < c))) := by
  unfold impl_BeforePoint.f
  by_cases h : b < d
  · rw [if_pos h]; simp [h]
  · rw [if_neg h]
    by_cases h1 : b = d
    · rw [if_pos h1]; simp [h1]
    · rw [if_neg h1]; simp [h, h1]
theorem impl_forward.eq (a b c d : Int) : impl_forward.f a b c d = some ((lo (a, b) (c, d)).1, (lo (a, b) (c, d)).2, (hi (a, b) (c, d)).1, (hi (a, b) (c, d)).2) := by
  unfold impl_forward.f lo hi
  rw [impl_BeforePoint.eq]
  simp only [Option.bind_some]
  by_cases h : before (c, d) (a, b)
  · rw [if_pos (decide_eq_true (show d < b ∨ (d = b ∧ c < a) from h)), if_pos h, if_pos h]
    rfl
  · rw [if_neg (by rw [decide_eq_true_eq]; exact h), if_neg h, if_neg h]
theorem impl_HowMeet.j3_ok (k : Nat) (a b c d : Int) : impl_HowMeet.j3 (k + 1) a b c d = some (if before (c, d) (a, b) then 0 else if ((a, b) : Pt) = (c, d) then 1 else 3) := by
  simp only [impl_HowMeet.j3]
  rw [impl_BeforePoint.eq]
  simp only [Option.bind_some]
  by_cases h : before (c, d) (a, b)
  · rw [if_pos (decide_eq_true (show d < b ∨ (d = b ∧ c < a) from h)), if_pos h]
  · rw [if_neg (by rw [decide_eq_true_eq]; exact h), if_neg h, eq_pt]
    by_cases g : ((a, b) : Pt) = (c, d)
    · rw [if_pos (decide_eq_true g), if_pos g]
    · rw [if_neg (by rw [decide_eq_true_eq]; exact g), if_neg g]
theorem impl_HowMeet.j2_ok (k : Nat) (t0 t1 c d l0 l1 e f : Int) : impl_HowMeet.j2 (k + 2) t0 t1 c d l0 l1 e f =
    some (let high : Pt := if before (c, d) (e, f) then (c, d) else (e, f); if before high (l0, l1) then 0 else if ((l0, l1) : Pt) = high then 1 else 3) := by
  simp only [impl_HowMeet.j2]
  rw [impl_BeforePoint.eq]
  simp only [Option.bind_some]
  by_cases h : before (c, d) (e, f)
  · rw [if_pos (decide_eq_true (show d < f ∨ (d = f ∧ c < e) from h)), if_pos h, impl_HowMeet.j3_ok]
  · rw [if_neg (by rw [decide_eq_true_eq]; exact h), if_neg h, impl_HowMeet.j3_ok]
theorem impl_HowMeet.line_ok (k : Nat) (x y : Int) (a b c d e f g h : Int) : impl_HowMeet.j1 (k + 3) x y true a b c d e f g h = some (hmLine (a, b) (c, d) (e, f) (g, h)) := by
  simp only [impl_HowMeet.j1]
  rw [if_pos trivial, impl_forward.eq, impl_forward.eq]
  simp only [Option.bind_some]
  rw [impl_BeforePoint.eq, hmLine_lo]
  simp only [Option.bind_some]
  by_cases q : before (lo (a, b) (c, d)) (lo (e, f) (g, h))
  · rw [if_pos (decide_eq_true (show (lo (a, b) (c, d)).2 < (lo (e, f) (g, h)).2 ∨ ((lo (a, b) (c, d)).2 = (lo (e, f) (g, h)).2 ∧ (lo (a, b) (c, d)).1 < (lo (e, f) (g, h)).1) from q)), if_pos q, impl_HowMeet.j2_ok]
  · rw [if_neg (by rw [decide_eq_true_eq]; exact q), if_neg q, impl_HowMeet.j2_ok]
theorem impl_HowMeet.j4_ok (k : Nat) (t : Bool) (a b c d e f g h : Int) (hs : isSg a b c d = true) (ht : isSg e f g h = true) : impl_HowMeet.j4 (k + 2) t a b c d e f g h =
    some (if t = true then 2 else if on (a, b) (c, d) (e, f) ∨ on (a, b) (c, d) (g, h) ∨ on (e, f) (g, h) (a, b) ∨ on (e, f) (g, h) (c, d) then 1 else 0) := by
  obtain ⟨p0, p1, _⟩ := isSg_iff.mp hs
  obtain ⟨p2, p3, _⟩ := isSg_iff.mp ht
  simp only [impl_HowMeet.j4]
  by_cases h0 : t = true
  · rw [if_pos h0, if_pos h0]
  · rw [if_neg h0, if_neg h0, impl_IsOn.eq, impl_IsOn.eq, impl_IsOn.eq, impl_IsOn.eq, onW_on hs p2, onW_on hs p3, onW_on ht p0, onW_on ht p1]
    simp only [Option.bind_some, decide_eq_true_eq]
    by_cases h1 : on (a, b) (c, d) (e, f)
    · rw [if_pos h1, if_pos (Or.inl h1)]
    · by_cases h2 : on (a, b) (c, d) (g, h)
      · rw [if_neg h1, if_pos h2, if_pos (Or.inr (Or.inl h2))]
      · by_cases h3 : on (e, f) (g, h) (a, b)
        · rw [if_neg h1, if_neg h2, if_pos h3, if_pos (Or.inr (Or.inr (Or.inl h3)))]
        · by_cases h4 : on (e, f) (g, h) (c, d)
          · rw [if_neg h1, if_neg h2, if_neg h3, if_pos h4, if_pos (Or.inr (Or.inr (Or.inr h4)))]
          · rw [if_neg h1, if_neg h2, if_neg h3, if_neg h4, if_neg (by simp [h1, h2, h3, h4])]
theorem impl_HowMeet.ok (a b c d e f g h : Int) (k : Nat) (hk : 8 ≤ k) : impl_HowMeet.f k a b c d e f g h = some (hmS ((a, b), (c, d)) ((e, f), (g, h))) := by
  unfold impl_HowMeet.f
  obtain ⟨k, rfl⟩ : ∃ m, k = m + 8 := ⟨k - 8, by omega⟩
  rw [impl_IsSegment.eq, impl_IsSegment.eq]
  simp only [Option.bind_some]
  by_cases hs : isSg a b c d = true
  · by_cases ht : isSg e f g h = true
    · obtain ⟨p0, p1, n0⟩ := isSg_iff.mp hs
      obtain ⟨p2, p3, n1⟩ := isSg_iff.mp ht
      rw [if_pos hs, ht, hmS_ok hs ht]
      simp only [impl_HowMeet.j0]
      rw [if_neg (by simp), impl_SideOf.eq, impl_SideOf.eq, sideOf_sgn p0 p1 p2, sideOf_sgn p0 p1 p3]
      simp only [Option.bind_some]
      have cross : ¬ (cr (a, b) (c, d) (e, f) = 0 ∧ cr (a, b) (c, d) (g, h) = 0) → impl_HowMeet.j1 (k + 7) (sgn (cr (a, b) (c, d) (e, f))) (sgn (cr (a, b) (c, d) (g, h))) false a b c d e f g h = some (hm (a, b) (c, d) (e, f) (g, h)) := by
        intro hn
        simp only [impl_HowMeet.j1]
        rw [if_neg (by simp), sgn_prod, ← hm_cross n0 n1 hn]
        have hx := crossing_sgn (a, b) (c, d) (e, f) (g, h)
        by_cases q : sgn (cr (a, b) (c, d) (e, f)) * sgn (cr (a, b) (c, d) (g, h)) < 0
        · rw [if_pos q, impl_SideOf.eq, impl_SideOf.eq, sideOf_sgn p2 p3 p0, sideOf_sgn p2 p3 p1]
          simp only [Option.bind_some]
          rw [sgn_prod, impl_HowMeet.j4_ok _ _ _ _ _ _ _ _ _ _ hs ht]
          by_cases q2 : sgn (cr (e, f) (g, h) (a, b)) * sgn (cr (e, f) (g, h) (c, d)) < 0
          · rw [if_pos (decide_eq_true q2), if_pos (hx.mpr ⟨q, q2⟩)]
          · rw [if_neg (by rw [decide_eq_true_eq]; exact q2), if_neg (fun x => q2 (hx.mp x).2)]
        · rw [if_neg q, impl_HowMeet.j4_ok _ _ _ _ _ _ _ _ _ _ hs ht, if_neg (by simp), if_neg (fun x => q (hx.mp x).1)]
      by_cases z : cr (a, b) (c, d) (e, f) = 0
      · rw [if_pos (sgn_zero.mpr z)]
        by_cases z2 : cr (a, b) (c, d) (g, h) = 0
        · rw [show (sgn (cr (a, b) (c, d) (g, h)) == 0) = true by rw [beq_iff_eq]; exact sgn_zero.mpr z2, impl_HowMeet.line_ok, hm_line n0 n1 z z2]
        · rw [show (sgn (cr (a, b) (c, d) (g, h)) == 0) = false by rw [beq_eq_false_iff_ne]; exact fun x => z2 (sgn_zero.mp x)]
          exact cross (fun x => z2 x.2)
      · rw [if_neg (fun x => z (sgn_zero.mp x))]
        exact cross (fun x => z x.1)
    · rw [if_pos hs, hmS_not (fun x => ht x.2), show isSg e f g h = false by simpa using ht]
      simp [impl_HowMeet.j0]
  · rw [if_neg hs, hmS_not (fun x => hs x.1)]
    simp [impl_HowMeet.j0]
theorem spec_l1In.eq (a b c : Int) : spec_l1In.f a b c = some (decide (b ≤ a ∧ a ≤ c)) := by
  unfold spec_l1In.f
  by_cases h : b ≤ a
  · rw [if_pos h]; simp [h]
  · rw [if_neg h]; simp [h]
theorem spec_IsPoint.eq (x y : Int) : spec_IsPoint.f x y = some (isPt x y) := isPt_bind x y (spec_l1In.eq ..) (spec_l1In.eq ..)
theorem spec_IsSegment.eq (a b c d : Int) : spec_IsSegment.f a b c d = some (isSg a b c d) := by
  unfold spec_IsSegment.f isSg
  rw [spec_IsPoint.eq, spec_IsPoint.eq]
  cases isPt a b <;> cases isPt c d <;> simp
theorem spec_Max.eq (a b : Int) : spec_Max.f a b = some (max a b) := by
  unfold spec_Max.f
  by_cases h : b > a
  · rw [if_pos h]; congr 1; omega
  · rw [if_neg h]; congr 1; omega
theorem spec_Min.eq (a b : Int) : spec_Min.f a b = some (min a b) := by
  unfold spec_Min.f
  by_cases h : b < a
  · rw [if_pos h]; congr 1; omega
  · rw [if_neg h]; congr 1; omega
theorem spec_l4Cross.eq (a b c d e f : Int) : spec_l4Cross.f a b c d e f = some (crossW a b c d e f) := rfl
theorem spec_IsOn.eq (a b c d e f : Int) : spec_IsOn.f a b c d e f = some (onW a b c d e f) := by
  rw [← onW_of (z := crossW a b c d e f) (fun _ _ => Iff.rfl)]
  unfold spec_IsOn.f
  simp only [spec_IsSegment.eq, spec_IsPoint.eq, spec_l4Cross.eq, spec_Min.eq, spec_Max.eq, spec_l1In.eq, Option.bind_some]
theorem spec_l5Shared.in_ok (ends : List S25) (i : Nat) (hi : i < ends.length) (h4 : ends.length ≤ 100) (x5 : List S25) (h5 : x5.length ≤ 100) (a b c d e f g h : Int) : ∀ (n m j : Nat) (fl : Bool), j + n = x5.length →
    spec_l5Shared.l1 (m + 1 + n) x5 ends (i : Int) fl (j : Int) a b c d e f g h =
      (if (fl && ((pts x5).drop j).all fun q => decide (q ≠ ((rd_T25 ends (i : Int)).f0, (rd_T25 ends (i : Int)).f1))) = true then spec_l5Shared.l0 m (x5 ++ [(⟨(rd_T25 ends (i : Int)).f0, (rd_T25 ends (i : Int)).f1⟩ : S25)]) ends ((i + 1 : Nat) : Int) a b c d e f g h else spec_l5Shared.l0 m x5 ends ((i + 1 : Nat) : Int) a b c d e f g h) := by
  intro n
  induction n with
  | zero =>
    intro m j fl hj
    simp only [Nat.add_zero, spec_l5Shared.l1]
    rw [if_neg (by omega), List.drop_of_length_le (by rw [pts_length]; omega), w64_succ (n := ends.length) hi (by omega)]
    simp only [List.all_nil, Bool.and_true]
    by_cases hf : fl = true
    · rw [if_pos hf, if_pos hf, if_pos (by omega), if_pos (by omega), if_pos (by omega)]
    · rw [if_neg hf, if_neg hf]
  | succ n ih =>
    intro m j fl hj
    have hd : (pts x5).drop j = ((rd_T25 x5 (j : Int)).f0, (rd_T25 x5 (j : Int)).f1) :: (pts x5).drop (j + 1) := by
      unfold pts
      rw [← List.map_drop, ← List.map_drop, rdP_drop (show j < x5.length by omega)]
      rfl
    rw [show m + 1 + (n + 1) = (m + 1 + n) + 1 by omega]
    simp only [spec_l5Shared.l1]
    rw [if_pos (by omega), hd, w64_succ (n := x5.length) (by omega) (by omega)]
    by_cases hf : fl = true
    · rw [if_pos hf, if_pos (by omega), if_pos (by omega), if_pos (by omega), ih m (j + 1) _ (by omega), ne_pt, hf]
      simp only [List.all_cons, Bool.true_and]
    · have hf : fl = false := by simpa using hf
      rw [if_neg (by rw [hf]; simp), ih m (j + 1) _ (by omega), hf]
      simp
theorem spec_l5Shared.out_ok (ends : List S25) (i : Nat) (hi : i < 4) (h4 : ends.length = 4) (x5 : List S25) (h5 : x5.length ≤ 100) (a b c d e f g h : Int) (fl : Bool) (hfl : fl = if i < 2 then onW e f g h (rd_T25 ends (i : Int)).f0 (rd_T25 ends (i : Int)).f1 else onW a b c d (rd_T25 ends (i : Int)).f0 (rd_T25 ends (i : Int)).f1) (k : Nat) (hk : x5.length + 4 ≤ k) :
    ∃ m, m + x5.length + 3 = k ∧ spec_l5Shared.l0 k x5 ends (i : Int) a b c d e f g h =
      (if (fl && (pts x5).all fun q => decide (q ≠ ((rd_T25 ends (i : Int)).f0, (rd_T25 ends (i : Int)).f1))) = true then spec_l5Shared.l0 m (x5 ++ [(⟨(rd_T25 ends (i : Int)).f0, (rd_T25 ends (i : Int)).f1⟩ : S25)]) ends ((i + 1 : Nat) : Int) a b c d e f g h else spec_l5Shared.l0 m x5 ends ((i + 1 : Nat) : Int) a b c d e f g h) := by
  obtain ⟨m, rfl⟩ : ∃ m, k = (m + 1 + x5.length) + 1 + 1 := ⟨k - 3 - x5.length, by omega⟩
  refine ⟨m, by omega, ?_⟩
  have key := spec_l5Shared.in_ok ends i (by omega) (by omega) x5 h5 a b c d e f g h x5.length m 0 fl (by omega)
  rw [List.drop_zero] at key
  have j1 : spec_l5Shared.j1 (m + 1 + x5.length + 1) x5 ends (i : Int) fl a b c d e f g h = spec_l5Shared.l1 (m + 1 + x5.length) x5 ends (i : Int) fl ((0 : Nat) : Int) a b c d e f g h := rfl
  rw [← key, ← j1]
  simp only [spec_l5Shared.l0]
  rw [if_pos (by omega)]
  by_cases h2 : i < 2
  · rw [if_pos h2] at hfl
    rw [if_pos (by omega), if_pos (by omega), if_pos (by omega), spec_IsOn.eq, ← hfl]
    simp only [Option.bind_some]
    by_cases hf : fl = true
    · rw [if_pos hf, hf]
    · have hf : fl = false := by simpa using hf
      rw [if_neg (by rw [hf]; simp), if_neg (by omega), hf]
  · rw [if_neg h2] at hfl
    rw [if_neg (by omega), if_pos (by omega), if_pos (by omega), if_pos (by omega), spec_IsOn.eq, ← hfl]
    rfl
theorem spec_l5Shared.ok (a b c d e f g h : Int) (hs : isSg a b c d = true) (ht : isSg e f g h = true) (k : Nat) (hk : 40 ≤ k) : spec_l5Shared.f k a b c d e f g h = some (shared (a, b) (c, d) (e, f) (g, h)) := by
  obtain ⟨p0, p1, _⟩ := isSg_iff.mp hs
  obtain ⟨p2, p3, n1⟩ := isSg_iff.mp ht
  unfold spec_l5Shared.f
  generalize hE : ([(⟨a, b⟩ : S25), (⟨c, d⟩ : S25), (⟨e, f⟩ : S25), (⟨g, h⟩ : S25)] : List S25) = E
  have hl : E.length = 4 := by rw [← hE]; rfl
  have r0 : rd_T25 E ((0 : Nat) : Int) = ⟨a, b⟩ := by rw [← hE]; rfl
  have r1 : rd_T25 E ((1 : Nat) : Int) = ⟨c, d⟩ := by rw [← hE]; rfl
  have r2 : rd_T25 E ((2 : Nat) : Int) = ⟨e, f⟩ := by rw [← hE]; rfl
  have r3 : rd_T25 E ((3 : Nat) : Int) = ⟨g, h⟩ := by rw [← hE]; rfl
  have papp : ∀ (x : List S25) (y : S25), pts (x ++ [y]) = pts x ++ [(y.f0, y.f1)] := fun x y => by simp [pts]
  have P4 : ∀ (x : List S25) (k : Nat), 1 ≤ k → spec_l5Shared.l0 k x E ((4 : Nat) : Int) a b c d e f g h = some (cntL [] (pts x)) := by
    intro x k hk
    obtain ⟨k, rfl⟩ : ∃ m, k = m + 1 := ⟨k - 1, by omega⟩
    simp only [spec_l5Shared.l0]
    rw [if_neg (by omega)]
    simp [cntL, pts]
  have P3 : ∀ (x : List S25) (k : Nat), x.length ≤ 3 → 10 ≤ k → spec_l5Shared.l0 k x E ((3 : Nat) : Int) a b c d e f g h = some (cntL [(decide (on (a, b) (c, d) (g, h)), (g, h))] (pts x)) := by
    intro x k hx hk
    obtain ⟨m, hm, e1⟩ := spec_l5Shared.out_ok E 3 (by omega) hl x (by omega) a b c d e f g h (decide (on (a, b) (c, d) (g, h))) (by rw [if_neg (by omega), r3]; exact (onW_on hs p3).symm) k (by omega)
    rw [r3] at e1
    simp only at e1
    rw [e1, P4 _ m (by omega), P4 _ m (by omega), papp]
    simp only [cntL]
    split <;> rfl
  have P2 : ∀ (x : List S25) (k : Nat), x.length ≤ 2 → 16 ≤ k → spec_l5Shared.l0 k x E ((2 : Nat) : Int) a b c d e f g h = some (cntL [(decide (on (a, b) (c, d) (e, f)), (e, f)), (decide (on (a, b) (c, d) (g, h)), (g, h))] (pts x)) := by
    intro x k hx hk
    obtain ⟨m, hm, e1⟩ := spec_l5Shared.out_ok E 2 (by omega) hl x (by omega) a b c d e f g h (decide (on (a, b) (c, d) (e, f))) (by rw [if_neg (by omega), r2]; exact (onW_on hs p2).symm) k (by omega)
    rw [r2] at e1
    simp only at e1
    rw [e1, P3 _ m (by simp; omega) (by omega), P3 _ m (by omega) (by omega), papp, cntL_ite (decide (on (a, b) (c, d) (e, f))) (e, f)]
    split <;> rfl
  have P1 : ∀ (x : List S25) (k : Nat), x.length ≤ 1 → 22 ≤ k → spec_l5Shared.l0 k x E ((1 : Nat) : Int) a b c d e f g h = some (cntL [(decide (on (e, f) (g, h) (c, d)), (c, d)), (decide (on (a, b) (c, d) (e, f)), (e, f)), (decide (on (a, b) (c, d) (g, h)), (g, h))] (pts x)) := by
    intro x k hx hk
    obtain ⟨m, hm, e1⟩ := spec_l5Shared.out_ok E 1 (by omega) hl x (by omega) a b c d e f g h (decide (on (e, f) (g, h) (c, d))) (by rw [if_pos (by omega), r1]; exact (onW_on ht p1).symm) k (by omega)
    rw [r1] at e1
    simp only at e1
    rw [e1, P2 _ m (by simp; omega) (by omega), P2 _ m (by omega) (by omega), papp, cntL_ite (decide (on (e, f) (g, h) (c, d))) (c, d)]
    split <;> rfl
  obtain ⟨m, hm, e1⟩ := spec_l5Shared.out_ok E 0 (by omega) hl [] (by simp) a b c d e f g h (decide (on (e, f) (g, h) (a, b))) (by rw [if_pos (by omega), r0]; exact (onW_on ht p0).symm) k (by simp; omega)
  rw [r0] at e1
  simp only at e1
  simp only [List.length_nil] at hm
  have pn : pts ([] : List S25) = [] := rfl
  rw [pn] at e1
  rw [← cntL_shared n1]
  refine Eq.trans e1 ?_
  rw [P1 _ m (by simp) (by omega), P1 _ m (by simp) (by omega), papp, pn, cntL_ite (decide (on (e, f) (g, h) (a, b))) (a, b)]
  split <;> rfl
theorem spec_SideOf.eq (k : Nat) (a b c d e f : Int) : spec_SideOf.f (k + 1) a b c d e f = some (sideOf a b c d e f) := by
  unfold spec_SideOf.f sideOf
  rw [spec_IsPoint.eq, spec_IsPoint.eq, spec_IsPoint.eq]
  cases isPt a b <;> cases isPt c d <;> cases isPt e f <;> simp [spec_SideOf.j0, spec_l4Cross.eq]
  generalize crossW a b c d e f = z
  by_cases h : 0 < z
  · rw [if_pos h, if_neg (by omega), if_pos h]
  · rw [if_neg h]
    by_cases h2 : z < 0
    · rw [if_pos h2, if_pos h2]
    · rw [if_neg h2, if_neg h2, if_neg h]
theorem spec_HowMeet.ok (a b c d e f g h : Int) (k : Nat) (hk : 50 ≤ k) : spec_HowMeet.f k a b c d e f g h = some (hmS ((a, b), (c, d)) ((e, f), (g, h))) := by
  unfold spec_HowMeet.f
  obtain ⟨k, rfl⟩ : ∃ m, k = m + 3 := ⟨k - 3, by omega⟩
  rw [spec_IsSegment.eq, spec_IsSegment.eq]
  simp only [Option.bind_some]
  by_cases hs : isSg a b c d = true
  · by_cases ht : isSg e f g h = true
    · obtain ⟨p0, p1, n0⟩ := isSg_iff.mp hs
      obtain ⟨p2, p3, n1⟩ := isSg_iff.mp ht
      rw [if_pos hs, ht, hmS_ok hs ht]
      have t1 : ∀ k, spec_HowMeet.j1 (k + 1) true a b c d e f g h = some 0 := fun k => by simp [spec_HowMeet.j1]
      have main : spec_HowMeet.j1 (k + 2) false a b c d e f g h = some (hm (a, b) (c, d) (e, f) (g, h)) := by
        simp only [spec_HowMeet.j1]
        rw [if_neg (by simp), spec_l5Shared.ok a b c d e f g h hs ht _ (by omega)]
        simp only [Option.bind_some]
        unfold hm
        by_cases q : shared (a, b) (c, d) (e, f) (g, h) = 0
        · rw [if_pos q, if_pos q, spec_SideOf.eq, spec_SideOf.eq, sideOf_sgn p0 p1 p2, sideOf_sgn p0 p1 p3]
          simp only [Option.bind_some]
          rw [sgn_prod]
          have hx := crossing_sgn (a, b) (c, d) (e, f) (g, h)
          by_cases q1 : sgn (cr (a, b) (c, d) (e, f)) * sgn (cr (a, b) (c, d) (g, h)) < 0
          · rw [if_pos q1, spec_SideOf.eq, spec_SideOf.eq, sideOf_sgn p2 p3 p0, sideOf_sgn p2 p3 p1]
            simp only [Option.bind_some]
            rw [sgn_prod]
            by_cases q2 : sgn (cr (e, f) (g, h) (a, b)) * sgn (cr (e, f) (g, h) (c, d)) < 0
            · rw [if_pos q2, if_pos (hx.mpr ⟨q1, q2⟩)]
            · rw [if_neg q2, if_neg (fun x => q2 (hx.mp x).2)]
          · rw [if_neg q1, if_neg (fun x => q1 (hx.mp x).1)]
        · rw [if_neg q, if_neg q]
          by_cases q2 : shared (a, b) (c, d) (e, f) (g, h) = 1
          · rw [if_pos q2, if_pos q2]
          · rw [if_neg q2, if_neg q2]
      have far : Geo.apart (a, b) (c, d) (e, f) (g, h) → hm (a, b) (c, d) (e, f) (g, h) = 0 := hm_apart
      simp only [Bool.not_true, spec_HowMeet.j0]
      rw [if_neg (by simp), spec_Max.eq, spec_Max.eq, spec_Max.eq, spec_Max.eq, spec_Min.eq, spec_Min.eq, spec_Min.eq, spec_Min.eq]
      simp only [Option.bind_some]
      unfold Geo.apart at far
      simp only at far
      by_cases g0 : max a c < min e g
      · rw [if_pos g0, t1, far (Or.inl g0)]
      · rw [if_neg g0]
        by_cases g1 : max e g < min a c
        · rw [if_pos g1, t1, far (Or.inr (Or.inl g1))]
        · rw [if_neg g1]
          by_cases g2 : max b d < min f h
          · rw [if_pos g2, t1, far (Or.inr (Or.inr (Or.inl g2)))]
          · rw [if_neg g2]
            by_cases g3 : max f h < min b d
            · rw [decide_eq_true g3, t1, far (Or.inr (Or.inr (Or.inr g3)))]
            · rw [decide_eq_false g3]; exact main
    · rw [if_pos hs, hmS_not (fun x => ht x.2), show isSg e f g h = false by simpa using ht]
      simp [spec_HowMeet.j0]
  · rw [if_neg hs, hmS_not (fun x => hs x.1)]
    simp [spec_HowMeet.j0]
theorem impl_IsBetween.eq (k : Nat) (a b c d e f : Int) : impl_IsBetween.f (k + 1) a b c d e f = some (betwW a b c d e f) := by
  unfold impl_IsBetween.f betwW
  rw [impl_IsOn.eq]
  cases onW a b c d e f <;> cases e == a <;> cases f == b <;> simp
theorem spec_DrawIsOn.ok (l : List Int) (hn : l.length ≤ 1048576) (k : Nat) (hk : l.length + 80 < k) : ∃ a b c d e f, spec_DrawIsOn.f k l = some (a, b, c, d, e, f) := by
  unfold spec_DrawIsOn.f
  obtain ⟨h, e⟩ := spec_l1New.ok l (by omega) k (by omega)
  rw [e]
  simp only [Option.bind_some]
  obtain ⟨x0, x1, x2, x3, i1, h1, e1, g0⟩ := spec_l5Any.ok l (by omega) 0 h (by omega)
  rw [e1]
  simp only [Option.bind_some]
  obtain ⟨y0, y1, i2, h2, e2, m0, _⟩ := spec_l4Any.ok l (by omega) i1 h1 g0
  rw [e2]
  simp only [Option.bind_some]
  obtain ⟨v, i3, h3, e3, n0⟩ := spec_l1Once.ok l (by omega) i2 h2 3 m0
  rw [e3]
  simp only [Option.bind_some]
  by_cases c : v = true
  · rw [if_pos c, spec_IsSegment.eq]
    simp only [Option.bind_some]
    split
    · exact ⟨_, _, _, _, _, _, rfl⟩
    · exact ⟨_, _, _, _, _, _, rfl⟩
  · rw [if_neg c]
    exact ⟨_, _, _, _, _, _, rfl⟩
theorem isOn_at (k : Nat) (hk : 1 ≤ k) (a b c d e f : Int) : impl_IsOn.f k a b c d e f = some (onW a b c d e f) := by
  obtain ⟨k, rfl⟩ : ∃ m, k = m + 1 := ⟨k - 1, by omega⟩
  exact impl_IsOn.eq k a b c d e f
theorem isBetween_at (k : Nat) (hk : 1 ≤ k) (a b c d e f : Int) : impl_IsBetween.f k a b c d e f = some (betwW a b c d e f) := by
  obtain ⟨k, rfl⟩ : ∃ m, k = m + 1 := ⟨k - 1, by omega⟩
  exact impl_IsBetween.eq k a b c d e f
theorem onW_eq (a b c d e f : Int) : onW a b c d e f = (isSg a b c d && isPt e f && decide (on (a, b) (c, d) (e, f))) := by
  by_cases hs : isSg a b c d = true
  · by_cases hp : isPt e f = true
    · rw [onW_on hs hp, hs, hp]; rfl
    · rw [Bool.not_eq_true] at hp
      unfold onW
      rw [hp]; simp
  · rw [Bool.not_eq_true] at hs
    unfold onW
    rw [hs]; simp
theorem isSg_turn (a b c d : Int) : isSg c d a b = isSg a b c d := okS_turn ((a, b), (c, d))
theorem onW_turn (a b c d e f : Int) : onW c d a b e f = onW a b c d e f := by
  rw [onW_eq, onW_eq, isSg_turn]
  congr 1
  exact decide_eq_decide.mpr (on_turn (a, b) (c, d) (e, f))
theorem betw_on {a b c d e f : Int} (h : betwW a b c d e f = true) : onW a b c d e f = true := by
  unfold betwW at h
  simp only [Bool.and_eq_true] at h
  exact h.1.1
theorem on_a {a b c d : Int} (h : isSg a b c d = true) : onW a b c d a b = true := by
  rw [onW_on h (isSg_iff.mp h).1, decide_eq_true (on_left _ _)]
theorem on_b {a b c d : Int} (h : isSg a b c d = true) : onW a b c d c d = true := by
  rw [onW_on h (isSg_iff.mp h).2.1, decide_eq_true (on_right _ _)]
theorem betw_a (a b c d : Int) : betwW a b c d a b = false := by
  unfold betwW
  simp
theorem off_of {a b c d e f : Int} (h : ¬ on (a, b) (c, d) (e, f)) : onW a b c d e f = false := by
  rw [onW_eq, decide_eq_false h, Bool.and_false]
theorem hmS_self {a b c d : Int} (h : isSg a b c d = true) : hmS ((a, b), (c, d)) ((a, b), (c, d)) = 3 := by
  rw [hmS_ok h h]
  exact hm_self (isSg_iff.mp h).2.2
theorem j1_ok (k : Nat) (hk : 1 ≤ k) (l0 : List Int) (n a b c d e f g h : Int) (hn : n = hmS ((a, b), (c, d)) ((e, f), (g, h))) (h2 : laws_FnSegments.j2 k l0 false = some true) :
    laws_FnSegments.j1 (k + 1) l0 n false a b c d e f g h = some true := by
  simp only [laws_FnSegments.j1, impl_IsSegment.eq, isOn_at k hk, Option.bind_some]
  rw [if_neg (by simp)]
  by_cases n0 : n = 0
  · have n2 : ¬ n = 2 := by omega
    rw [if_pos n0]
    by_cases hs : isSg a b c d = true
    · by_cases ht : isSg e f g h = true
      · have q := hm_none ((hmS_ok hs ht).symm.trans (hn.symm.trans n0))
        rw [if_pos hs, if_pos ht, off_of q.2.2.1, if_neg (by simp), off_of q.2.1, if_neg (by simp), if_neg n2, h2]
      · rw [if_pos hs, if_neg ht, if_neg n2, h2]
    · rw [if_neg hs, if_neg n2, h2]
  · rw [if_neg n0]
    by_cases n2 : n = 2
    · have hb : isSg a b c d = true ∧ isSg e f g h = true := by
        by_cases hb : isSg a b c d = true ∧ isSg e f g h = true
        · exact hb
        · exact absurd (hn.trans (hmS_not hb)) n0
      have q := hm_two ((hmS_ok hb.1 hb.2).symm.trans (hn.symm.trans n2))
      rw [if_pos n2, off_of q.2.2.1, if_neg (by simp), off_of q.2.2.2, if_neg (by simp), off_of q.1, if_neg (by simp), off_of q.2.1, h2]
    · rw [if_neg n2, h2]
theorem j0_ok (k : Nat) (hk : 60 ≤ k) (l0 : List Int) (n a b c d e f g h : Int) (hn : n = hmS ((a, b), (c, d)) ((e, f), (g, h))) (h2 : laws_FnSegments.j2 k l0 false = some true) :
    laws_FnSegments.j0 (k + 2) l0 n false a b c d e f g h = some true := by
  have h1 := j1_ok k (by omega) l0 n a b c d e f g h hn h2
  simp only [laws_FnSegments.j0]
  simp only [impl_IsSegment.eq, isOn_at (k + 1) (by omega), isBetween_at (k + 1) (by omega), impl_HowMeet.ok a b c d a b c d (k + 1) (by omega), Option.bind_some]
  rw [if_neg (by simp)]
  by_cases hs : isSg a b c d = true
  · rw [if_pos hs, hmS_self hs, if_pos rfl, on_a hs, if_pos rfl, on_b hs, if_pos rfl, betw_a]
    exact h1
  · rw [if_neg hs]
    exact h1
theorem j2_ok (k : Nat) (l0 : List Int) (hl : l0.length ≤ 1048576) (hk : l0.length + 100 ≤ k) : laws_FnSegments.j2 (k + 1) l0 false = some true := by
  obtain ⟨a, b, c, d, e, f, ed⟩ := spec_DrawIsOn.ok l0 hl k (by omega)
  simp only [laws_FnSegments.j2]
  rw [if_neg (by simp), ed]
  simp only [impl_TurnSegment.f, isOn_at k (by omega), isBetween_at k (by omega), Option.bind_some]
  rw [onW_turn, beq_self_eq_true, if_pos rfl]
  by_cases hb : betwW a b c d e f = true
  · rw [if_pos hb, onW_turn, betw_on hb]
  · rw [if_neg hb]
theorem FnSegments : laws_FnSegments.Pure := by
  intro l _ _ hb
  obtain ⟨K, hK⟩ : ∃ K, K = l.length + 200 := ⟨_, rfl⟩
  refine ⟨K + 3, ?_⟩
  unfold laws_FnSegments.f
  rw [laws_big.eq]
  simp only [Option.bind_some]
  by_cases h : (l.length : Int) > 1048576
  · rw [if_pos (by simpa using h)]
  · rw [if_neg (by simpa using h)]
    obtain ⟨a, b, c, d, e, f, g, h, ed⟩ := spec_DrawHowMeet.ok l (by omega) (K + 3) (by omega)
    rw [ed]
    simp only [Option.bind_some]
    rw [impl_HowMeet.ok a b c d e f g h (K + 3) (by omega)]
    simp only [Option.bind_some]
    rw [spec_HowMeet.ok a b c d e f g h (K + 3) (by omega)]
    simp only [Option.bind_some]
    rw [if_pos trivial, impl_HowMeet.ok e f g h a b c d (K + 3) (by omega)]
    simp only [Option.bind_some, impl_TurnSegment.f]
    rw [if_pos (hmS_swap _ _), impl_HowMeet.ok c d a b e f g h (K + 3) (by omega)]
    simp only [Option.bind_some]
    rw [if_pos (show hmS ((a, b), (c, d)) ((e, f), (g, h)) = hmS ((c, d), (a, b)) ((e, f), (g, h)) from (hmS_turn ((a, b), (c, d)) ((e, f), (g, h))).symm), impl_HowMeet.ok a b c d g h e f (K + 3) (by omega)]
    simp only [Option.bind_some]
    rw [show hmS ((a, b), (c, d)) ((g, h), (e, f)) = hmS ((a, b), (c, d)) ((e, f), (g, h)) from hmS_turn' ((a, b), (c, d)) ((e, f), (g, h)), bne_self_eq_false]
    exact j0_ok (K + 1) (by omega) l _ a b c d e f g h rfl (j2_ok K l (by omega) (by omega))

end Go.Proofs.Ytokhmgfjgpcmdaa.Pure
