/- The program's ReadUvarint answers as the reference's and leaves the slice as it was, for every slice of bytes and every offset. -/
import Derived.Test.YtjejfhjkilhbbaaPFnExactReadUvarintx2
import Derived.Test.YtjejfhjkilhbbaaBase
import Derived.Test.YtjejfhjkilhbbaaLst
namespace Go.Proofs.Ytjejfhjkilhbbaa.Pure
open Go Go.RowKit Go.Proofs.Ytjejfhjkilhbbaa.PFnExactReadUvarint Go.Proofs.YtjejfhjkilhbbaaW.PrintWords Go.Proofs.YtjejfhjkilhbbaaW.PrintLast Go.Proofs.YtjejfhjkilhbbaaW.PrintMore Go.Proofs.Ytjejfhjkilhbbaa.Base Go.Proofs.Ytjejfhjkilhbbaa.Lst
set_option linter.unusedVariables false
set_option linter.unusedSimpArgs false
theorem laws_toByteS.l0_ok (x0 : List Int) (hn : x0.length ≤ 35184372088832) : ∀ (d k i : Nat) (out : List Int), i + d = x0.length → out.length = x0.length → out.take i = x0.take i → d < k → laws_toByteS.l0 k x0 out (i : Int) = some x0 := by
  intro d
  induction d with
  | zero =>
    intro k i out hi hl ht hk
    obtain ⟨k, rfl⟩ : ∃ m, k = m + 1 := ⟨k - 1, by omega⟩
    simp only [laws_toByteS.l0]
    rw [if_neg (by omega), take_all ht (by omega) (by omega)]
  | succ d ih =>
    intro k i out hi hl ht hk
    obtain ⟨k, rfl⟩ : ∃ m, k = m + 1 := ⟨k - 1, by omega⟩
    simp only [laws_toByteS.l0]
    rw [if_pos (by omega), if_pos (by omega), if_pos (by omega), w64_succ (n := x0.length) (by omega) (by omega)]
    refine ih k (i + 1) _ (by omega) (by simpa using hl) ?_ (by omega)
    have hi' : i < x0.length := by omega
    refine take_set_succ hi' hl ht ?_
    rw [rd_get hi']
    exact List.getElem?_eq_getElem hi'
theorem laws_toByteS.ok (l : List Int) (hn : l.length ≤ 1048576) (k : Nat) (hk : l.length < k) : laws_toByteS.f k l = some l := by
  unfold laws_toByteS.f
  rw [if_pos (by omega), if_pos (by omega)]
  exact laws_toByteS.l0_ok l (by omega) l.length k 0 _ (by omega) (by simp) (by simp) hk
theorem laws_eqByteS.l0_ok (x0 x1 : List Int) (hn : x0.length ≤ 140737488355328) (hl : x0.length = x1.length) : ∀ (d k i : Nat), i + d = x0.length → d < k → laws_eqByteS.l0 k x0 x1 (i : Int) = some (decide (x0.drop i = x1.drop i)) := by
  intro d
  induction d with
  | zero =>
    intro k i hi hk
    obtain ⟨k, rfl⟩ : ∃ m, k = m + 1 := ⟨k - 1, by omega⟩
    simp only [laws_eqByteS.l0]
    rw [if_neg (by omega), List.drop_of_length_le (by omega), List.drop_of_length_le (by omega)]
    simp
  | succ d ih =>
    intro k i hi hk
    obtain ⟨k, rfl⟩ : ∃ m, k = m + 1 := ⟨k - 1, by omega⟩
    simp only [laws_eqByteS.l0]
    rw [if_pos (by omega), if_pos (by omega), if_pos (by omega), rd_drop (xs := x0) (i := i) (by omega), rd_drop (xs := x1) (i := i) (by omega)]
    by_cases h : rd x0 (i : Int) = rd x1 (i : Int)
    · rw [if_pos h, w64_succ (n := x0.length) (by omega) (by omega), ih k (i + 1) (by omega) (by omega)]
      simp [h]
    · rw [if_neg h]
      simp [h]
theorem laws_eqByteS.ok (a b : List Int) (hn : a.length ≤ 140737488355328) (k : Nat) (hk : a.length < k) : laws_eqByteS.f k a b = some (decide (a = b)) := by
  unfold laws_eqByteS.f
  by_cases h : (a.length : Int) = (b.length : Int)
  · rw [if_pos h]
    exact laws_eqByteS.l0_ok a b hn (by omega) a.length k 0 (by omega) hk
  · rw [if_neg h]
    have : a ≠ b := fun e => h (by rw [e])
    simp [this]
theorem laws_eqByteS.same (a : List Int) (hn : a.length ≤ 140737488355328) (k : Nat) (hk : a.length < k) : laws_eqByteS.f k a a = some true := by
  rw [laws_eqByteS.ok a a hn k hk]; simp
theorem spec_ReadUvarint.l0_ok (l : List Int) (a : Int) (hb : isBytes l) (hn : l.length ≤ 140737488355328) (ha : 0 ≤ a) (ha2 : a < 140737488355328) : ∀ (d k j : Nat) (acc : Int), j + d = 6 → 0 ≤ acc → acc < 2 ^ (7 * j) → 2 * d < k →
    spec_ReadUvarint.l0 k l a acc (j : Int) = some (dec l a d acc j) := by
  intro d
  induction d with
  | zero =>
    intro k j acc hj h0 h1 hk
    obtain ⟨k, rfl⟩ : ∃ m, k = m + 1 := ⟨k - 1, by omega⟩
    simp only [spec_ReadUvarint.l0, dec]
    rw [if_neg (by omega)]
  | succ d ih =>
    intro k j acc hj h0 h1 hk
    obtain ⟨k, rfl⟩ : ∃ m, k = m + 2 := ⟨k - 2, by omega⟩
    simp only [spec_ReadUvarint.l0, dec]
    rw [if_pos (by omega), if_neg (by omega), w64 (n := (l.length : Int) - (j : Int)) (by omega) (by omega)]
    by_cases hlen : (l.length : Int) ≤ a + (j : Int)
    · rw [if_pos hlen, show decide (a ≥ (l.length : Int) - (j : Int)) = true from decide_eq_true (by omega)]
      simp [spec_ReadUvarint.j1]
    · rw [if_neg hlen, show decide (a ≥ (l.length : Int) - (j : Int)) = false from decide_eq_false (by omega)]
      have hr := bytes_rd hb (a + (j : Int))
      simp only [spec_ReadUvarint.j1]
      rw [w64 (n := a + (j : Int)) (by omega) (by omega), w64 (n := 7 * (j : Int)) (by omega) (by omega), w64 (n := rd l (a + (j : Int))) (by omega) (by omega), w64 (n := a + (j : Int) + 1) (by omega) (by omega), and127 hr.1 (by omega)]
      have hg := or_group (acc := acc) (b := rd l (a + (j : Int)) % 128) j (by omega) h0 h1 (by omega) (by omega)
      have hbd := group_bound (acc := acc) (b := rd l (a + (j : Int)) % 128) j (by omega) h0 h1 (by omega) (by omega)
      rw [hg]
      rw [if_neg (by simp), if_pos (by omega), if_pos (by omega), if_pos (by omega)]
      generalize rd l (a + (j : Int)) = b at *
      generalize acc + b % 128 * 2 ^ (7 * j) = acc2 at *
      by_cases h2 : b < 128
      · rw [if_pos h2, if_pos h2]
        by_cases h3 : b = 0
        · rw [if_pos h3]
          by_cases h4 : 0 < j
          · rw [if_pos (by omega), if_pos (Or.inl ⟨h4, h3⟩)]
          · rw [if_neg (by omega)]
            by_cases h5 : acc2 > 1000000000000
            · rw [if_pos h5, if_pos (Or.inr h5)]
            · rw [if_neg h5, if_neg (by omega)]
        · rw [if_neg h3]
          by_cases h5 : acc2 > 1000000000000
          · rw [if_pos h5, if_pos (Or.inr h5)]
          · rw [if_neg h5, if_neg (by omega)]
      · rw [if_neg h2, if_neg h2, w64_succ (n := 6) (by omega) (by omega)]
        exact ih k (j + 1) acc2 (by omega) hbd.1 hbd.2 (by omega)
theorem spec_ReadUvarint.ok (l : List Int) (a : Int) (hb : isBytes l) (hn : l.length ≤ 140737488000000) (wa : -9223372036854775808 ≤ a ∧ a ≤ 9223372036854775807) (k : Nat) (hk : 14 ≤ k) : spec_ReadUvarint.f k l a = some (readUv l a) := by
  unfold spec_ReadUvarint.f readUv
  by_cases h : a < 0 ∨ (l.length : Int) ≤ a
  · rw [if_pos h]
    obtain ⟨k, rfl⟩ : ∃ m, k = m + 2 := ⟨k - 2, by omega⟩
    simp only [spec_ReadUvarint.l0]
    rw [if_pos (by omega)]
    by_cases h0 : a < 0
    · rw [if_pos h0]; simp [spec_ReadUvarint.j1]
    · rw [if_neg h0, w64 (n := (l.length : Int) - 0) (by omega) (by omega), show decide (a ≥ (l.length : Int) - 0) = true from decide_eq_true (by omega)]
      simp [spec_ReadUvarint.j1]
  · rw [if_neg h]
    exact spec_ReadUvarint.l0_ok l a hb (by omega) (by omega) (by omega) 6 k 0 0 (by omega) (by omega) (by omega) (by omega)
theorem impl_ReadUvarint.l0_ok (l : List Int) (a : Int) (hb : isBytes l) (hn : l.length ≤ 140737488355328) (ha : 0 ≤ a) (ha2 : a < 140737488355328) : ∀ (d k j : Nat) (acc : Int), j + d = 6 → 0 ≤ acc → acc < 2 ^ (7 * j) → d < k →
    impl_ReadUvarint.l0 k l a acc (j : Int) = some (dec l a d acc j) := by
  intro d
  induction d with
  | zero =>
    intro k j acc hj h0 h1 hk
    obtain ⟨k, rfl⟩ : ∃ m, k = m + 1 := ⟨k - 1, by omega⟩
    simp only [impl_ReadUvarint.l0, dec]
    rw [if_neg (by omega)]
  | succ d ih =>
    intro k j acc hj h0 h1 hk
    obtain ⟨k, rfl⟩ : ∃ m, k = m + 1 := ⟨k - 1, by omega⟩
    simp only [impl_ReadUvarint.l0, dec]
    rw [if_pos (by omega), w64 (n := a + (j : Int)) (by omega) (by omega)]
    by_cases hlen : (l.length : Int) ≤ a + (j : Int)
    · rw [if_pos hlen, if_pos hlen]
    · rw [if_neg hlen, if_neg hlen]
      have hr := bytes_rd hb (a + (j : Int))
      rw [w64 (n := 7 * (j : Int)) (by omega) (by omega), w64 (n := a + (j : Int) + 1) (by omega) (by omega), and127u hr.1 (by omega), w64 (n := rd l (a + (j : Int)) % 128) (by omega) (by omega)]
      have hg := or_group (acc := acc) (b := rd l (a + (j : Int)) % 128) j (by omega) h0 h1 (by omega) (by omega)
      have hbd := group_bound (acc := acc) (b := rd l (a + (j : Int)) % 128) j (by omega) h0 h1 (by omega) (by omega)
      rw [hg]
      rw [if_pos (by omega), if_pos (by omega), if_pos (by omega)]
      generalize rd l (a + (j : Int)) = b at *
      generalize acc + b % 128 * 2 ^ (7 * j) = acc2 at *
      by_cases h2 : b < 128
      · rw [if_pos h2, if_pos h2]
        by_cases h4 : 0 < j
        · rw [if_pos (by omega)]
          by_cases h3 : b = 0
          · rw [if_pos h3, if_pos (Or.inl ⟨h4, h3⟩)]
          · rw [if_neg h3]
            by_cases h5 : acc2 > 1000000000000
            · rw [if_pos h5, if_pos (Or.inr h5)]
            · rw [if_neg h5, if_neg (by omega)]
        · rw [if_neg (by omega)]
          by_cases h5 : acc2 > 1000000000000
          · rw [if_pos h5, if_pos (Or.inr h5)]
          · rw [if_neg h5, if_neg (by omega)]
      · rw [if_neg h2, if_neg h2, w64_succ (n := 6) (by omega) (by omega)]
        exact ih k (j + 1) acc2 (by omega) hbd.1 hbd.2 (by omega)
theorem impl_ReadUvarint.ok (l : List Int) (a : Int) (hb : isBytes l) (hn : l.length ≤ 140737488000000) (k : Nat) (hk : 14 ≤ k) : impl_ReadUvarint.f k l a = some (readUv l a) := by
  unfold impl_ReadUvarint.f readUv
  obtain ⟨k, rfl⟩ : ∃ m, k = m + 1 := ⟨k - 1, by omega⟩
  by_cases h0 : a < 0
  · rw [if_pos h0, if_pos (Or.inl h0)]
    simp [impl_ReadUvarint.j0]
  · rw [if_neg h0]
    by_cases h1 : (l.length : Int) ≤ a
    · rw [if_pos (Or.inr h1), show decide (a ≥ (l.length : Int)) = true from decide_eq_true h1]
      simp [impl_ReadUvarint.j0]
    · rw [if_neg (by omega), show decide (a ≥ (l.length : Int)) = false from decide_eq_false (by omega)]
      simp only [impl_ReadUvarint.j0]
      rw [if_neg (by simp)]
      exact impl_ReadUvarint.l0_ok l a hb (by omega) (by omega) (by omega) 6 k 0 0 (by omega) (by omega) (by omega) (by omega)
theorem FnExactReadUvarint : laws_FnExactReadUvarint.Pure := by
  intro l a _ _ hb wa
  have hb' := bytes_wf hb
  refine ⟨l.length + 20, ?_⟩
  unfold laws_FnExactReadUvarint.f
  by_cases h : (l.length : Int) > 1048576
  · rw [if_pos h]
  · have hl : l.length ≤ 140737488355328 := by omega
    rw [if_neg h, laws_toByteS.ok l (by omega) _ (by omega)]
    simp only [Option.bind_some]
    rw [spec_ReadUvarint.ok l a hb' (by omega) (bounds_i64 wa) _ (by omega), impl_ReadUvarint.ok l a hb' (by omega) _ (by omega)]
    have e : ∀ b : Bool, (b != b) = false := by decide
    simp only [Option.bind_some, if_true, e, laws_FnExactReadUvarint.j0]
    rw [if_neg (by simp), laws_toByteS.ok l (by omega) _ (by omega)]
    simp only [Option.bind_some]
    rw [laws_eqByteS.same l hl _ (by omega)]
    simp

end Go.Proofs.Ytjejfhjkilhbbaa.Pure
