/- The program's DecodeInts answers as the reference's, leaves the slice as it was, and its result shares no memory with the argument or with another result, for every slice of bytes, every offset and every count. -/
import Derived.Test.YtelngjhdpbfifaaPFnExactDecodeIntsx4
import Derived.Test.YtelngjhdpbfifaaBase
import Derived.Test.YtelngjhdpbfifaaLst
import Derived.Test.YtelngjhdpbfifaaVr
namespace Go.Proofs.Ytelngjhdpbfifaa.Pure
open Go Go.RowKit Go.Proofs.Ytelngjhdpbfifaa.PFnExactDecodeInts Go.Proofs.YtelngjhdpbfifaaW.PrintWords Go.Proofs.YtelngjhdpbfifaaW.PrintLast Go.Proofs.YtelngjhdpbfifaaW.PrintMore Go.Proofs.Ytelngjhdpbfifaa.Base Go.Proofs.Ytelngjhdpbfifaa.Lst Go.Proofs.Ytelngjhdpbfifaa.Vr
set_option linter.unusedVariables false
set_option linter.unusedSimpArgs false
theorem spec_ReadUvarint.l0_ok (l : List Int) (a : Int) (hb : isBytes l) (hn : l.length ≤ 140737488355328) (ha : 0 ≤ a) (ha2 : a < 140737488355328) : ∀ (d k j : Nat) (acc : Int), j + d = 6 → 0 ≤ acc → acc < 2 ^ (7 * j) → 2 * d < k →
    spec_ReadUvarint.l0 k l a acc (j : Int) = some (dec l a d acc j) := by
  intro d
  induction d with
  | zero =>
    intro k j acc hj h0 h1 hk
    obtain ⟨k, rfl⟩ : ∃ m, k = m + 1 := ⟨k - 1, by omega⟩
    simp only [spec_ReadUvarint.l0, dec]
    rw [if_neg (by omega)]
  | succ d ih =>
    intro k j acc hj h0 h1 hk
    obtain ⟨k, rfl⟩ : ∃ m, k = m + 2 := ⟨k - 2, by omega⟩
    simp only [spec_ReadUvarint.l0, dec]
    rw [if_pos (by omega), if_neg (by omega), w64 (n := (l.length : Int) - (j : Int)) (by omega) (by omega)]
    by_cases hlen : (l.length : Int) ≤ a + (j : Int)
    · rw [if_pos hlen, show decide (a ≥ (l.length : Int) - (j : Int)) = true from decide_eq_true (by omega)]
      simp [spec_ReadUvarint.j1]
    · rw [if_neg hlen, show decide (a ≥ (l.length : Int) - (j : Int)) = false from decide_eq_false (by omega)]
      have hr := bytes_rd hb (a + (j : Int))
      simp only [spec_ReadUvarint.j1]
      rw [w64 (n := a + (j : Int)) (by omega) (by omega), w64 (n := 7 * (j : Int)) (by omega) (by omega), w64 (n := rd l (a + (j : Int))) (by omega) (by omega), w64 (n := a + (j : Int) + 1) (by omega) (by omega), and127 hr.1 (by omega)]
      have hg := or_group (acc := acc) (b := rd l (a + (j : Int)) % 128) j (by omega) h0 h1 (by omega) (by omega)
      have hbd := group_bound (acc := acc) (b := rd l (a + (j : Int)) % 128) j (by omega) h0 h1 (by omega) (by omega)
      rw [hg]
      rw [if_neg (by simp), if_pos (by omega), if_pos (by omega), if_pos (by omega)]
      generalize rd l (a + (j : Int)) = b at *
      generalize acc + b % 128 * 2 ^ (7 * j) = acc2 at *
      by_cases h2 : b < 128
      · rw [if_pos h2, if_pos h2]
        by_cases h3 : b = 0
        · rw [if_pos h3]
          by_cases h4 : 0 < j
          · rw [if_pos (by omega), if_pos (Or.inl ⟨h4, h3⟩)]
          · rw [if_neg (by omega)]
            by_cases h5 : acc2 > 1000000000000
            · rw [if_pos h5, if_pos (Or.inr h5)]
            · rw [if_neg h5, if_neg (by omega)]
        · rw [if_neg h3]
          by_cases h5 : acc2 > 1000000000000
          · rw [if_pos h5, if_pos (Or.inr h5)]
          · rw [if_neg h5, if_neg (by omega)]
      · rw [if_neg h2, if_neg h2, w64_succ (n := 6) (by omega) (by omega)]
        exact ih k (j + 1) acc2 (by omega) hbd.1 hbd.2 (by omega)
theorem spec_ReadUvarint.ok (l : List Int) (a : Int) (hb : isBytes l) (hn : l.length ≤ 140737488000000) (wa : -9223372036854775808 ≤ a ∧ a ≤ 9223372036854775807) (k : Nat) (hk : 14 ≤ k) : spec_ReadUvarint.f k l a = some (readUv l a) := by
  unfold spec_ReadUvarint.f readUv
  by_cases h : a < 0 ∨ (l.length : Int) ≤ a
  · rw [if_pos h]
    obtain ⟨k, rfl⟩ : ∃ m, k = m + 2 := ⟨k - 2, by omega⟩
    simp only [spec_ReadUvarint.l0]
    rw [if_pos (by omega)]
    by_cases h0 : a < 0
    · rw [if_pos h0]; simp [spec_ReadUvarint.j1]
    · rw [if_neg h0, w64 (n := (l.length : Int) - 0) (by omega) (by omega), show decide (a ≥ (l.length : Int) - 0) = true from decide_eq_true (by omega)]
      simp [spec_ReadUvarint.j1]
  · rw [if_neg h]
    exact spec_ReadUvarint.l0_ok l a hb (by omega) (by omega) (by omega) 6 k 0 0 (by omega) (by omega) (by omega) (by omega)
theorem spec_l1In.eq (a b c : Int) : spec_l1In.f a b c = some (decide (b ≤ a ∧ a ≤ c)) := by
  unfold spec_l1In.f
  by_cases h : b ≤ a
  · rw [if_pos h]; simp [h]
  · rw [if_neg h]; simp [h]
theorem spec_DecodeInts.l0_ok (b : List Int) (hb : isBytes b) (hn : b.length ≤ 1048576) (cnt : Int) (hc : cnt ≤ 100) : ∀ (d k i : Nat) (a : Int) (out : List Int), (i : Int) + d = cnt → 0 ≤ a → a ≤ b.length → out.length ≤ i → d + 15 < k → spec_DecodeInts.l0 k b a cnt out (i : Int) = some (decInts b d a out) := by
  intro d
  induction d with
  | zero =>
    intro k i a out hi h0 h1 ho hk
    obtain ⟨k, rfl⟩ : ∃ m, k = m + 1 := ⟨k - 1, by omega⟩
    simp only [spec_DecodeInts.l0]
    rw [if_neg (by omega)]
    rfl
  | succ d ih =>
    intro k i a out hi h0 h1 ho hk
    obtain ⟨k, rfl⟩ : ∃ m, k = m + 1 := ⟨k - 1, by omega⟩
    simp only [spec_DecodeInts.l0]
    rw [if_pos (by omega), spec_ReadUvarint.ok b a hb (by omega) ⟨by omega, by omega⟩ k (by omega)]
    simp only [Option.bind_some, decInts]
    by_cases h : (readUv b a).2.2 = true
    · have hr := readUv_range hb h
      rw [if_pos h, if_pos (by omega), if_pos h, w64_succ (n := 100) (by omega) (by omega)]
      exact ih k (i + 1) _ _ (by omega) (by omega) (by omega) (by simp only [List.length_append, List.length_cons, List.length_nil]; omega) (by omega)
    · rw [if_neg h, if_neg h]
theorem spec_DecodeInts.ok (b : List Int) (a c : Int) (hb : isBytes b) (hn : b.length ≤ 1048576) (k : Nat) (hk : 130 ≤ k) : spec_DecodeInts.f k b a c = some (readL b a c) := by
  unfold spec_DecodeInts.f readL
  simp only [Option.bind_some]
  obtain ⟨k, rfl⟩ : ∃ m, k = m + 1 := ⟨k - 1, by omega⟩
  rw [spec_l1In.eq, spec_l1In.eq]
  by_cases h : 0 ≤ c ∧ c ≤ 100
  · by_cases h2 : 0 ≤ a ∧ a ≤ (b.length : Int)
    · rw [if_pos (⟨h, h2⟩ : (0 ≤ c ∧ c ≤ 100) ∧ (0 ≤ a ∧ a ≤ (b.length : Int)))]
      simp only [Option.bind_some, h, h2, decide_true, and_self, if_true, Bool.not_true, spec_DecodeInts.j0]
      rw [if_neg (by simp)]
      exact spec_DecodeInts.l0_ok b hb hn c h.2 c.toNat k 0 a [] (by omega) h2.1 h2.2 (by simp) (by omega)
    · rw [if_neg (fun x : (0 ≤ c ∧ c ≤ 100) ∧ (0 ≤ a ∧ a ≤ (b.length : Int)) => h2 x.2), decide_eq_true h, decide_eq_false h2]
      simp [spec_DecodeInts.j0]
  · rw [if_neg (fun x : (0 ≤ c ∧ c ≤ 100) ∧ (0 ≤ a ∧ a ≤ (b.length : Int)) => h x.1), decide_eq_false h]
    simp [spec_DecodeInts.j0]
theorem laws_toByteS.l0_ok (x0 : List Int) (hn : x0.length ≤ 35184372088832) : ∀ (d k i : Nat) (out : List Int), i + d = x0.length → out.length = x0.length → out.take i = x0.take i → d < k → laws_toByteS.l0 k x0 out (i : Int) = some x0 := by
  intro d
  induction d with
  | zero =>
    intro k i out hi hl ht hk
    obtain ⟨k, rfl⟩ : ∃ m, k = m + 1 := ⟨k - 1, by omega⟩
    simp only [laws_toByteS.l0]
    rw [if_neg (by omega), take_all ht (by omega) (by omega)]
  | succ d ih =>
    intro k i out hi hl ht hk
    obtain ⟨k, rfl⟩ : ∃ m, k = m + 1 := ⟨k - 1, by omega⟩
    simp only [laws_toByteS.l0]
    rw [if_pos (by omega), if_pos (by omega), if_pos (by omega), w64_succ (n := x0.length) (by omega) (by omega)]
    refine ih k (i + 1) _ (by omega) (by simpa using hl) ?_ (by omega)
    have hi' : i < x0.length := by omega
    refine take_set_succ hi' hl ht ?_
    rw [rd_get hi']
    exact List.getElem?_eq_getElem hi'
theorem laws_toByteS.ok (l : List Int) (hn : l.length ≤ 1048576) (k : Nat) (hk : l.length < k) : laws_toByteS.f k l = some l := by
  unfold laws_toByteS.f
  rw [if_pos (by omega), if_pos (by omega)]
  exact laws_toByteS.l0_ok l (by omega) l.length k 0 _ (by omega) (by simp) (by simp) hk
theorem impl_ReadUvarint.l0_ok (l : List Int) (a : Int) (hb : isBytes l) (hn : l.length ≤ 140737488355328) (ha : 0 ≤ a) (ha2 : a < 140737488355328) : ∀ (d k j : Nat) (acc : Int), j + d = 6 → 0 ≤ acc → acc < 2 ^ (7 * j) → d < k →
    impl_ReadUvarint.l0 k l a acc (j : Int) = some (dec l a d acc j) := by
  intro d
  induction d with
  | zero =>
    intro k j acc hj h0 h1 hk
    obtain ⟨k, rfl⟩ : ∃ m, k = m + 1 := ⟨k - 1, by omega⟩
    simp only [impl_ReadUvarint.l0, dec]
    rw [if_neg (by omega)]
  | succ d ih =>
    intro k j acc hj h0 h1 hk
    obtain ⟨k, rfl⟩ : ∃ m, k = m + 1 := ⟨k - 1, by omega⟩
    simp only [impl_ReadUvarint.l0, dec]
    rw [if_pos (by omega), w64 (n := a + (j : Int)) (by omega) (by omega)]
    by_cases hlen : (l.length : Int) ≤ a + (j : Int)
    · rw [if_pos hlen, if_pos hlen]
    · rw [if_neg hlen, if_neg hlen]
      have hr := bytes_rd hb (a + (j : Int))
      rw [w64 (n := 7 * (j : Int)) (by omega) (by omega), w64 (n := a + (j : Int) + 1) (by omega) (by omega), and127u hr.1 (by omega), w64 (n := rd l (a + (j : Int)) % 128) (by omega) (by omega)]
      have hg := or_group (acc := acc) (b := rd l (a + (j : Int)) % 128) j (by omega) h0 h1 (by omega) (by omega)
      have hbd := group_bound (acc := acc) (b := rd l (a + (j : Int)) % 128) j (by omega) h0 h1 (by omega) (by omega)
      rw [hg]
      rw [if_pos (by omega), if_pos (by omega), if_pos (by omega)]
      generalize rd l (a + (j : Int)) = b at *
      generalize acc + b % 128 * 2 ^ (7 * j) = acc2 at *
      by_cases h2 : b < 128
      · rw [if_pos h2, if_pos h2]
        by_cases h4 : 0 < j
        · rw [if_pos (by omega)]
          by_cases h3 : b = 0
          · rw [if_pos h3, if_pos (Or.inl ⟨h4, h3⟩)]
          · rw [if_neg h3]
            by_cases h5 : acc2 > 1000000000000
            · rw [if_pos h5, if_pos (Or.inr h5)]
            · rw [if_neg h5, if_neg (by omega)]
        · rw [if_neg (by omega)]
          by_cases h5 : acc2 > 1000000000000
          · rw [if_pos h5, if_pos (Or.inr h5)]
          · rw [if_neg h5, if_neg (by omega)]
      · rw [if_neg h2, if_neg h2, w64_succ (n := 6) (by omega) (by omega)]
        exact ih k (j + 1) acc2 (by omega) hbd.1 hbd.2 (by omega)
theorem impl_ReadUvarint.ok (l : List Int) (a : Int) (hb : isBytes l) (hn : l.length ≤ 140737488000000) (k : Nat) (hk : 14 ≤ k) : impl_ReadUvarint.f k l a = some (readUv l a) := by
  unfold impl_ReadUvarint.f readUv
  obtain ⟨k, rfl⟩ : ∃ m, k = m + 1 := ⟨k - 1, by omega⟩
  by_cases h0 : a < 0
  · rw [if_pos h0, if_pos (Or.inl h0)]
    simp [impl_ReadUvarint.j0]
  · rw [if_neg h0]
    by_cases h1 : (l.length : Int) ≤ a
    · rw [if_pos (Or.inr h1), show decide (a ≥ (l.length : Int)) = true from decide_eq_true h1]
      simp [impl_ReadUvarint.j0]
    · rw [if_neg (by omega), show decide (a ≥ (l.length : Int)) = false from decide_eq_false (by omega)]
      simp only [impl_ReadUvarint.j0]
      rw [if_neg (by simp)]
      exact impl_ReadUvarint.l0_ok l a hb (by omega) (by omega) (by omega) 6 k 0 0 (by omega) (by omega) (by omega) (by omega)
theorem impl_InRange.eq (a b c : Int) : impl_InRange.f a b c = some (decide (b ≤ a ∧ a ≤ c)) := by
  unfold impl_InRange.f
  by_cases h : b ≤ a
  · rw [if_pos h]; simp [h]
  · rw [if_neg h]; simp [h]
theorem impl_DecodeInts.l0_ok (b : List Int) (hb : isBytes b) (hn : b.length ≤ 1048576) (cnt : Int) (hc : cnt ≤ 100) : ∀ (d k i : Nat) (a : Int) (out : List Int), (i : Int) + d = cnt → 0 ≤ a → a ≤ b.length → out.length ≤ i → d + 15 < k → impl_DecodeInts.l0 k b a out cnt (i : Int) = some (decInts b d a out) := by
  intro d
  induction d with
  | zero =>
    intro k i a out hi h0 h1 ho hk
    obtain ⟨k, rfl⟩ : ∃ m, k = m + 1 := ⟨k - 1, by omega⟩
    simp only [impl_DecodeInts.l0]
    rw [if_neg (by omega)]
    rfl
  | succ d ih =>
    intro k i a out hi h0 h1 ho hk
    obtain ⟨k, rfl⟩ : ∃ m, k = m + 1 := ⟨k - 1, by omega⟩
    simp only [impl_DecodeInts.l0]
    rw [if_pos (by omega), impl_ReadUvarint.ok b a hb (by omega) k (by omega)]
    simp only [Option.bind_some, decInts]
    by_cases h : (readUv b a).2.2 = true
    · have hr := readUv_range hb h
      rw [if_pos h, if_pos (by omega), if_pos h, w64_succ (n := 100) (by omega) (by omega)]
      exact ih k (i + 1) _ _ (by omega) (by omega) (by omega) (by simp only [List.length_append, List.length_cons, List.length_nil]; omega) (by omega)
    · rw [if_neg h, if_neg h]
theorem impl_DecodeInts.ok (b : List Int) (a c : Int) (hb : isBytes b) (hn : b.length ≤ 1048576) (k : Nat) (hk : 130 ≤ k) : impl_DecodeInts.f k b a c = some (readL b a c) := by
  unfold impl_DecodeInts.f readL
  obtain ⟨k, rfl⟩ : ∃ m, k = m + 1 := ⟨k - 1, by omega⟩
  rw [impl_InRange.eq, impl_InRange.eq]
  by_cases h : 0 ≤ c ∧ c ≤ 100
  · by_cases h2 : 0 ≤ a ∧ a ≤ (b.length : Int)
    · rw [if_pos (⟨h, h2⟩ : (0 ≤ c ∧ c ≤ 100) ∧ (0 ≤ a ∧ a ≤ (b.length : Int)))]
      simp only [Option.bind_some, h, h2, decide_true, and_self, if_true, Bool.not_true, impl_DecodeInts.j0]
      rw [if_neg (by simp)]
      exact impl_DecodeInts.l0_ok b hb hn c h.2 c.toNat k 0 a [] (by omega) h2.1 h2.2 (by simp) (by omega)
    · rw [if_neg (fun x : (0 ≤ c ∧ c ≤ 100) ∧ (0 ≤ a ∧ a ≤ (b.length : Int)) => h2 x.2), decide_eq_true h, decide_eq_false h2]
      simp [impl_DecodeInts.j0]
  · rw [if_neg (fun x : (0 ≤ c ∧ c ≤ 100) ∧ (0 ≤ a ∧ a ≤ (b.length : Int)) => h x.1), decide_eq_false h]
    simp [impl_DecodeInts.j0]
theorem laws_eqIntS.l0_ok (x0 x1 : List Int) (hn : x0.length ≤ 140737488355328) (hl : x0.length = x1.length) : ∀ (d k i : Nat), i + d = x0.length → d < k → laws_eqIntS.l0 k x0 x1 (i : Int) = some (decide (x0.drop i = x1.drop i)) := by
  intro d
  induction d with
  | zero =>
    intro k i hi hk
    obtain ⟨k, rfl⟩ : ∃ m, k = m + 1 := ⟨k - 1, by omega⟩
    simp only [laws_eqIntS.l0]
    rw [if_neg (by omega), List.drop_of_length_le (by omega), List.drop_of_length_le (by omega)]
    simp
  | succ d ih =>
    intro k i hi hk
    obtain ⟨k, rfl⟩ : ∃ m, k = m + 1 := ⟨k - 1, by omega⟩
    simp only [laws_eqIntS.l0]
    rw [if_pos (by omega), if_pos (by omega), if_pos (by omega), rd_drop (xs := x0) (i := i) (by omega), rd_drop (xs := x1) (i := i) (by omega)]
    by_cases h : rd x0 (i : Int) = rd x1 (i : Int)
    · rw [if_pos h, w64_succ (n := x0.length) (by omega) (by omega), ih k (i + 1) (by omega) (by omega)]
      simp [h]
    · rw [if_neg h]
      simp [h]
theorem laws_eqIntS.ok (a b : List Int) (hn : a.length ≤ 140737488355328) (k : Nat) (hk : a.length < k) : laws_eqIntS.f k a b = some (decide (a = b)) := by
  unfold laws_eqIntS.f
  by_cases h : (a.length : Int) = (b.length : Int)
  · rw [if_pos h]
    exact laws_eqIntS.l0_ok a b hn (by omega) a.length k 0 (by omega) hk
  · rw [if_neg h]
    have : a ≠ b := fun e => h (by rw [e])
    simp [this]
theorem laws_eqIntS.same (a : List Int) (hn : a.length ≤ 140737488355328) (k : Nat) (hk : a.length < k) : laws_eqIntS.f k a a = some true := by
  rw [laws_eqIntS.ok a a hn k hk]; simp
theorem laws_eqByteS.l0_ok (x0 x1 : List Int) (hn : x0.length ≤ 140737488355328) (hl : x0.length = x1.length) : ∀ (d k i : Nat), i + d = x0.length → d < k → laws_eqByteS.l0 k x0 x1 (i : Int) = some (decide (x0.drop i = x1.drop i)) := by
  intro d
  induction d with
  | zero =>
    intro k i hi hk
    obtain ⟨k, rfl⟩ : ∃ m, k = m + 1 := ⟨k - 1, by omega⟩
    simp only [laws_eqByteS.l0]
    rw [if_neg (by omega), List.drop_of_length_le (by omega), List.drop_of_length_le (by omega)]
    simp
  | succ d ih =>
    intro k i hi hk
    obtain ⟨k, rfl⟩ : ∃ m, k = m + 1 := ⟨k - 1, by omega⟩
    simp only [laws_eqByteS.l0]
    rw [if_pos (by omega), if_pos (by omega), if_pos (by omega), rd_drop (xs := x0) (i := i) (by omega), rd_drop (xs := x1) (i := i) (by omega)]
    by_cases h : rd x0 (i : Int) = rd x1 (i : Int)
    · rw [if_pos h, w64_succ (n := x0.length) (by omega) (by omega), ih k (i + 1) (by omega) (by omega)]
      simp [h]
    · rw [if_neg h]
      simp [h]
theorem laws_eqByteS.ok (a b : List Int) (hn : a.length ≤ 140737488355328) (k : Nat) (hk : a.length < k) : laws_eqByteS.f k a b = some (decide (a = b)) := by
  unfold laws_eqByteS.f
  by_cases h : (a.length : Int) = (b.length : Int)
  · rw [if_pos h]
    exact laws_eqByteS.l0_ok a b hn (by omega) a.length k 0 (by omega) hk
  · rw [if_neg h]
    have : a ≠ b := fun e => h (by rw [e])
    simp [this]
theorem laws_eqByteS.same (a : List Int) (hn : a.length ≤ 140737488355328) (k : Nat) (hk : a.length < k) : laws_eqByteS.f k a a = some true := by
  rw [laws_eqByteS.ok a a hn k hk]; simp
theorem laws_markByteS.l0_ok (n : Nat) (hn : n ≤ 140737488355328) : ∀ (d k i : Nat) (out : List Int), i + d = n → out.length = n → out.take i = (marksB 1 n).take i → d < k → laws_markByteS.l0 k out (1 + (i : Int)) (i : Int) = some (1 + (n : Int), marksB 1 n) := by
  intro d
  induction d with
  | zero =>
    intro k i out hi hl ht hk
    obtain ⟨k, rfl⟩ : ∃ m, k = m + 1 := ⟨k - 1, by omega⟩
    simp only [laws_markByteS.l0]
    rw [if_neg (by omega), take_all ht (by omega) (by rw [marksB_length]; omega)]
    congr 2; omega
  | succ d ih =>
    intro k i out hi hl ht hk
    obtain ⟨k, rfl⟩ : ∃ m, k = m + 1 := ⟨k - 1, by omega⟩
    simp only [laws_markByteS.l0]
    rw [if_pos (by omega), if_pos (by omega), w64_succ (n := n) (by omega) (by omega), w64 (n := 1 + (i : Int) + 1) (by omega) (by omega), show (1 + (i : Int) + 1) = 1 + ((i + 1 : Nat) : Int) by omega]
    refine ih k (i + 1) _ (by omega) (by simpa using hl) ?_ (by omega)
    exact take_set_succ (by rw [marksB_length]; omega) (by rw [marksB_length]; omega) ht (marksB_get (by omega))
theorem laws_markByteS.ok (l : List Int) (hn : l.length ≤ 140737488355328) (k : Nat) (hk : l.length < k) : laws_markByteS.f k l 1 = some (1 + (l.length : Int), marksB 1 l.length) := by
  unfold laws_markByteS.f
  exact laws_markByteS.l0_ok l.length hn l.length k 0 l (by omega) rfl (by simp) hk
theorem laws_markByteS.any (l : List Int) (hn : l.length ≤ 140737488355328) (c : Int) (h0 : 1 ≤ c) (h1 : c ≤ 140737488355328) (k : Nat) (hk : l.length < k) : ∃ c2 o, laws_markByteS.f k l c = some (c2, o) ∧ 1 ≤ c2 ∧ c2 ≤ c + l.length := by
  have key : ∀ (d k i : Nat) (out : List Int) (c : Int), i + d = l.length → out.length = l.length → 1 ≤ c → c + d ≤ 281474976710656 → d < k → ∃ c2 o, laws_markByteS.l0 k out c (i : Int) = some (c2, o) ∧ 1 ≤ c2 ∧ c2 ≤ c + d := by
    intro d
    induction d with
    | zero =>
      intro k i out c hi hl h0 h1 hk
      obtain ⟨k, rfl⟩ : ∃ m, k = m + 1 := ⟨k - 1, by omega⟩
      simp only [laws_markByteS.l0]
      rw [if_neg (by omega)]
      exact ⟨c, out, rfl, h0, by omega⟩
    | succ d ih =>
      intro k i out c hi hl h0 h1 hk
      obtain ⟨k, rfl⟩ : ∃ m, k = m + 1 := ⟨k - 1, by omega⟩
      simp only [laws_markByteS.l0]
      rw [if_pos (by omega), if_pos (by omega), w64_succ (n := l.length) (by omega) (by omega), w64 (n := c + 1) (by omega) (by omega)]
      obtain ⟨c2, o, h2, h3, h4⟩ := ih k (i + 1) (out.set (i : Int).toNat (c % 256)) (c + 1) (by omega) (by rw [List.length_set]; exact hl) (by omega) (by omega) (by omega)
      exact ⟨c2, o, h2, h3, by omega⟩
  unfold laws_markByteS.f
  exact key l.length k 0 l c (by omega) rfl h0 (by omega) hk
theorem laws_markIntS.l0_ok (n : Nat) (hn : n ≤ 140737488355328) : ∀ (d k i : Nat) (out : List Int), i + d = n → out.length = n → out.take i = (marksI 1 n).take i → d < k → laws_markIntS.l0 k out (1 + (i : Int)) (i : Int) = some (1 + (n : Int), marksI 1 n) := by
  intro d
  induction d with
  | zero =>
    intro k i out hi hl ht hk
    obtain ⟨k, rfl⟩ : ∃ m, k = m + 1 := ⟨k - 1, by omega⟩
    simp only [laws_markIntS.l0]
    rw [if_neg (by omega), take_all ht (by omega) (by rw [marksI_length]; omega)]
    congr 2; omega
  | succ d ih =>
    intro k i out hi hl ht hk
    obtain ⟨k, rfl⟩ : ∃ m, k = m + 1 := ⟨k - 1, by omega⟩
    simp only [laws_markIntS.l0]
    rw [if_pos (by omega), if_pos (by omega), w64_succ (n := n) (by omega) (by omega), w64 (n := 1 + (i : Int) + 1) (by omega) (by omega), show (1 + (i : Int) + 1) = 1 + ((i + 1 : Nat) : Int) by omega]
    refine ih k (i + 1) _ (by omega) (by simpa using hl) ?_ (by omega)
    exact take_set_succ (by rw [marksI_length]; omega) (by rw [marksI_length]; omega) ht (marksI_get (by omega))
theorem laws_markIntS.ok (l : List Int) (hn : l.length ≤ 140737488355328) (k : Nat) (hk : l.length < k) : laws_markIntS.f k l 1 = some (1 + (l.length : Int), marksI 1 l.length) := by
  unfold laws_markIntS.f
  exact laws_markIntS.l0_ok l.length hn l.length k 0 l (by omega) rfl (by simp) hk
theorem laws_markIntS.any (l : List Int) (hn : l.length ≤ 140737488355328) (c : Int) (h0 : 1 ≤ c) (h1 : c ≤ 140737488355328) (k : Nat) (hk : l.length < k) : ∃ c2 o, laws_markIntS.f k l c = some (c2, o) ∧ 1 ≤ c2 ∧ c2 ≤ c + l.length := by
  have key : ∀ (d k i : Nat) (out : List Int) (c : Int), i + d = l.length → out.length = l.length → 1 ≤ c → c + d ≤ 281474976710656 → d < k → ∃ c2 o, laws_markIntS.l0 k out c (i : Int) = some (c2, o) ∧ 1 ≤ c2 ∧ c2 ≤ c + d := by
    intro d
    induction d with
    | zero =>
      intro k i out c hi hl h0 h1 hk
      obtain ⟨k, rfl⟩ : ∃ m, k = m + 1 := ⟨k - 1, by omega⟩
      simp only [laws_markIntS.l0]
      rw [if_neg (by omega)]
      exact ⟨c, out, rfl, h0, by omega⟩
    | succ d ih =>
      intro k i out c hi hl h0 h1 hk
      obtain ⟨k, rfl⟩ : ∃ m, k = m + 1 := ⟨k - 1, by omega⟩
      simp only [laws_markIntS.l0]
      rw [if_pos (by omega), if_pos (by omega), w64_succ (n := l.length) (by omega) (by omega), w64 (n := c + 1) (by omega) (by omega)]
      obtain ⟨c2, o, h2, h3, h4⟩ := ih k (i + 1) (out.set (i : Int).toNat c) (c + 1) (by omega) (by rw [List.length_set]; exact hl) (by omega) (by omega) (by omega)
      exact ⟨c2, o, h2, h3, by omega⟩
  unfold laws_markIntS.f
  exact key l.length k 0 l c (by omega) rfl h0 (by omega) hk
theorem laws_heldIntS.l0_ok (n : Nat) (hn : n ≤ 140737488355328) : ∀ (d k i : Nat), i + d = n → d < k → laws_heldIntS.l0 k (marksI 1 n) (1 + (i : Int)) (i : Int) = some (1 + (n : Int)) := by
  intro d
  induction d with
  | zero =>
    intro k i hi hk
    obtain ⟨k, rfl⟩ : ∃ m, k = m + 1 := ⟨k - 1, by omega⟩
    simp only [laws_heldIntS.l0]
    rw [if_neg (by rw [marksI_length]; omega)]
    congr 1; omega
  | succ d ih =>
    intro k i hi hk
    obtain ⟨k, rfl⟩ : ∃ m, k = m + 1 := ⟨k - 1, by omega⟩
    simp only [laws_heldIntS.l0]
    rw [if_pos (by rw [marksI_length]; omega), if_pos (by omega), if_pos (rd_some (marksI_get (by omega))), w64_succ (n := n) (by omega) (by omega), w64 (n := 1 + (i : Int) + 1) (by omega) (by omega), show (1 + (i : Int) + 1) = 1 + ((i + 1 : Nat) : Int) by omega]
    exact ih k (i + 1) (by omega) (by omega)
theorem laws_heldIntS.ok (n : Nat) (hn : n ≤ 140737488355328) (k : Nat) (hk : n < k) : laws_heldIntS.f k (marksI 1 n) 1 = some (1 + (n : Int)) := by
  unfold laws_heldIntS.f
  exact laws_heldIntS.l0_ok n hn n k 0 (by omega) hk
theorem FnExactDecodeInts : laws_FnExactDecodeInts.Pure := by
  intro l a m _ _ hb wa wm
  have hb' := bytes_wf hb
  refine ⟨l.length + 300, ?_⟩
  unfold laws_FnExactDecodeInts.f
  by_cases h : (l.length : Int) > 1048576
  · rw [if_pos h]
  · have hu := readL_length l a m
    generalize hR : readL l a m = R at *
    have hl : l.length ≤ 140737488355328 := by omega
    have hr : R.1.length ≤ 140737488355328 := by omega
    have neg : ∀ m : Nat, ¬ (1 + (m : Int) < 0) := fun m => by omega
    have e : ∀ b : Bool, (b != b) = false := by decide
    rw [if_neg h, laws_toByteS.ok l (by omega) _ (by omega)]
    simp only [Option.bind_some]
    rw [spec_DecodeInts.ok l a m hb' (by omega) _ (by omega), impl_DecodeInts.ok l a m hb' (by omega) _ (by omega), hR]
    simp only [Option.bind_some]
    rw [laws_eqIntS.same R.1 hr _ (by omega)]
    simp only [Option.bind_some, if_true, e, laws_FnExactDecodeInts.j0]
    rw [if_neg (by simp), laws_toByteS.ok l (by omega) _ (by omega)]
    simp only [Option.bind_some]
    rw [laws_eqByteS.same l hl _ (by omega), laws_markByteS.ok l hl _ (by omega)]
    simp only [Option.bind_some, if_true, neg, if_false]
    rw [laws_eqIntS.same R.1 hr _ (by omega)]
    simp only [Option.bind_some, if_true, e, laws_FnExactDecodeInts.j1]
    rw [if_neg (by simp), laws_markIntS.ok R.1 hr _ (by omega)]
    simp only [Option.bind_some]
    rw [laws_heldIntS.ok R.1.length hr _ (by omega)]
    simp only [Option.bind_some, neg, if_false, if_true]
    rw [laws_toByteS.ok l (by omega) _ (by omega)]
    simp only [Option.bind_some]
    rw [impl_DecodeInts.ok l a m hb' (by omega) _ (by omega), hR]
    simp only [Option.bind_some]
    rw [laws_eqIntS.same R.1 hr _ (by omega)]
    simp only [Option.bind_some, if_true, e, laws_FnExactDecodeInts.j2]
    rw [if_neg (by simp), laws_heldIntS.ok R.1.length hr _ (by omega)]
    simp only [Option.bind_some, neg, if_false, if_true]

end Go.Proofs.Ytelngjhdpbfifaa.Pure
